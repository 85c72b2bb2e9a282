/- The numbers' functions of the program and of the reference compute 'enc' and 'scan'. -/
import Derived.Test.YthehhbfiaaadgaaDoorNumSpec
import Derived.Test.YthehhbfiaaadgaaDoorPx1


set_option linter.unusedVariables false
set_option linter.unusedSimpArgs false
namespace Go.Proofs.YthehhbfiaaadgaaDoor.P
open Go.RowKit Go.Proofs.YthehhbfiaaadgaaDoorW.PrintWords Go.Proofs.YthehhbfiaaadgaaDoorW.PrintLast Go.Proofs.YthehhbfiaaadgaaDoorW.PrintMore Go.Proofs.YthehhbfiaaadgaaDoor.Num

/-- A number within bounds. -/
def cl (a : Int) : Nat := (mn (mx a 0) 4611686018427387903).toNat
theorem cl_eq (a : Int) : mn (mx a 0) 4611686018427387903 = (cl a : Int) := by unfold cl mn mx; split <;> split <;> omega
theorem cl_le (a : Int) : cl a ≤ 4611686018427387903 := by unfold cl mn mx; split <;> split <;> omega
theorem cl_nat (n : Nat) (h : n ≤ 4611686018427387903) : cl (n : Int) = n := by unfold cl mn mx; split <;> split <;> omega
theorem enc_cl (a : Int) : (enc (cl a)).length ≤ 9 := enc_len9 (by have := cl_le a; omega)

theorem size_l0 : ∀ (x k : Nat) (s : Int), (enc x).length ≤ k → 0 ≤ s → s + (enc x).length ≤ 1000 → num_Size.l0 k (x : Int) s = some (s + (enc x).length - 1) := by
  intro x
  induction x using Nat.strongRecOn with
  | _ x ih =>
    intro k s hk h0 h1
    have hp := enc_pos x
    obtain ⟨k, rfl⟩ : ∃ m, k = m + 1 := ⟨k - 1, by omega⟩
    simp only [num_Size.l0]
    by_cases hx : x ≤ 127
    · rw [if_neg (by omega), enc_small hx]; simp
    · rw [enc_big hx] at hk h1 ⊢
      simp only [List.length_cons] at hk h1 ⊢
      rw [if_pos (by omega), w64 (by omega) (by omega), show ((x : Int) / 128) = ((x / 128 : Nat) : Int) by omega, ih (x / 128) (by omega) k (s + 1) (by omega) (by omega) (by omega)]
      congr 1; omega
theorem size_f (k : Nat) (a : Int) (hk : 12 ≤ k) : num_Size.f k a = some ((enc (cl a)).length : Int) := by
  unfold num_Size.f
  have := enc_cl a
  rw [cl_eq, size_l0 (cl a) k 1 (by omega) (by omega) (by omega)]
  congr 1; omega

theorem put_l0 : ∀ (x k : Nat) (l : List Int) (t i : Int), (enc x).length ≤ k → 0 ≤ i → t = i + (enc x).length - 1 → t ≤ 1000 → x < 9223372036854775808 → l.length + (enc x).length ≤ 140737488355328 →
    num_Put.l0 k (x : Int) l t i = some (l ++ enc x) := by
  intro x
  induction x using Nat.strongRecOn with
  | _ x ih =>
    intro k l t i hk h0 ht h1 hx63 hl
    have hp := enc_pos x
    obtain ⟨k, rfl⟩ : ∃ m, k = m + 1 := ⟨k - 1, by omega⟩
    simp only [num_Put.l0]
    by_cases hx : x ≤ 127
    · rw [enc_small hx] at ht hl ⊢
      simp only [List.length_cons, List.length_nil] at ht hl
      rw [if_neg (by omega), if_pos (by omega), show ((x : Int) % 256) = (x : Int) by omega]
    · have hp2 := enc_pos (x / 128)
      rw [enc_big hx] at hk ht hl ⊢
      simp only [List.length_cons] at hk ht hl ⊢
      rw [if_pos (by omega), if_pos (by omega), and127_i64 _ (by omega) (by omega), or128 _ (by omega) (by omega), w64 (by omega) (by omega), show ((x : Int) / 128) = ((x / 128 : Nat) : Int) by omega,
        ih (x / 128) (by omega) k _ t (i + 1) (by omega) (by omega) (by omega) h1 (by omega) (by simp only [List.length_append, List.length_cons, List.length_nil]; omega)]
      rw [List.append_assoc, show (((x : Int) % 128 + 128) % 256) = ((128 + x % 128 : Nat) : Int) by omega]
      rfl
theorem put_f (k : Nat) (l : List Int) (a : Int) (hk : 12 ≤ k) (hl : l.length ≤ 140737488355300) : num_Put.f k l a = some (l ++ enc (cl a)) := by
  have h9 := enc_cl a
  have h1 := enc_pos (cl a)
  have hc := cl_le a
  have hs : num_Size.f k (cl a : Int) = some ((enc (cl a)).length : Int) := by rw [size_f k _ hk, cl_nat _ hc]
  have hp := put_l0 (cl a) k l ((enc (cl a)).length - 1) 0 (by omega) (by omega) (by omega) (by omega) (by omega) (by omega)
  have hw : wrap64 ((l.length : Int) + ((enc (cl a)).length : Int)) = (l.length : Int) + ((enc (cl a)).length : Int) := w64 (by omega) (by omega)
  unfold num_Put.f
  rw [cl_eq, hs, Option.bind_some, if_pos (by rw [hw]; omega), if_pos (by rw [hw]; omega), Option.bind_some, if_pos (by rw [List.length_nil]; omega), Option.bind_some, w64 (by omega) (by omega), List.nil_append]
  exact hp

theorem get_l0 (l : List Int) (hb : Byt l) (hl : l.length ≤ 140737488355328) (at_ : Int) (h0 : 0 ≤ at_) (h1 : at_ ≤ l.length) : ∀ (f k i n : Nat), f + i = 9 → f + 2 ≤ k → n < 128 ^ i →
    num_Get.l0 k l at_ (n : Int) (i : Int) = some (res at_ (scan f (l.drop (at_.toNat + i)) i n)) := by
  intro f
  induction f with
  | zero =>
    intro k i n hi hk hn
    obtain ⟨k, rfl⟩ : ∃ m, k = m + 1 := ⟨k - 1, by omega⟩
    simp only [num_Get.l0]
    rw [if_neg (by omega)]
    simp [scan, res]
  | succ f ih =>
    intro k i n hi hk hn
    obtain ⟨k, rfl⟩ : ∃ m, k = m + 1 := ⟨k - 1, by omega⟩
    obtain ⟨k', rfl⟩ : ∃ m, k = m + 1 := ⟨k - 1, by omega⟩
    simp only [num_Get.l0]
    rw [if_pos (by omega), w64 (by omega) (by omega)]
    by_cases hend : at_ + (i : Int) ≥ (l.length : Int)
    · rw [if_pos hend, List.drop_eq_nil_of_le (by omega)]
      simp [scan, res]
    · rw [if_neg hend, if_pos (by omega), if_pos (by omega), w64 (n := 7 * (i : Int)) (by omega) (by omega), if_pos (by omega)]
      have hd := drop_rd (l := l) (i := at_ + (i : Int)) (by omega) (by omega)
      rw [show (at_ + (i : Int)).toNat = at_.toNat + i by omega] at hd
      rw [hd]
      have hc := rd_byt hb (at_ + (i : Int))
      generalize rd l (at_ + (i : Int)) = c at hc
      rw [and127_u8 c hc.1 hc.2, w64 (n := c % 128) (by omega) (by omega)]
      have hpi : (128 : Nat) ^ i = 2 ^ (7 * i) := by rw [Nat.pow_mul]
      have hp8 : 128 ^ i ≤ 128 ^ 8 := Nat.pow_le_pow_right (by decide) (by omega)
      have hsh : shl .i64 (c % 128) (7 * (i : Int)) = (((c % 128).toNat * 128 ^ i : Nat) : Int) := by
        unfold shl
        rw [show min (7 * (i : Int)).toNat IntKind.i64.bits = 7 * i by simp only [IntKind.bits]; omega]
        have e1 : c % 128 * 2 ^ (7 * i) = (((c % 128).toNat * 128 ^ i : Nat) : Int) := by
          rw [hpi, Int.natCast_mul, Int.toNat_of_nonneg (by omega)]; simp
        rw [e1]
        refine wraps_i64 _ (by omega) ?_
        have : (c % 128).toNat * 128 ^ i ≤ 127 * 128 ^ 8 := Nat.mul_le_mul (by omega) hp8
        omega
      rw [hsh]
      have hmul : (c % 128).toNat * 128 ^ i ≤ 127 * 128 ^ i := Nat.mul_le_mul_right _ (by omega)
      have hor : Go.bits .or .i64 (n : Int) (((c % 128).toNat * 128 ^ i : Nat) : Int) = ((n + (c % 128).toNat * 128 ^ i : Nat) : Int) :=
        bits_or_nat n _ (7 * i) (by rw [← hpi]; exact hn) (by rw [hpi]; exact Nat.mul_mod_left _ _) (by omega) (by omega)
      rw [hor, w64 (n := (i : Int) + 1) (by omega) (by omega)]
      simp only [scan]
      by_cases hgt : c > 127
      · rw [if_pos hgt, if_pos hgt]
        have hpp : 128 ^ (i + 1) = 128 ^ i * 128 := Nat.pow_succ ..
        have := ih (k' + 1) (i + 1) (n + (c % 128).toNat * 128 ^ i) (by omega) (by omega) (by omega)
        rw [show ((i + 1 : Nat) : Int) = (i : Int) + 1 by omega, show at_.toNat + (i + 1) = at_.toNat + i + 1 by omega] at this
        exact this
      · rw [if_neg hgt, if_neg hgt]
        simp only [num_Get.j2]
        rw [w64 (n := at_ + (i : Int)) (by omega) (by omega), w64 (n := at_ + (i : Int) + 1) (by omega) (by omega)]
        generalize hX : n + (c % 128).toNat * 128 ^ i = X
        have fin : (if (X : Int) > 4611686018427387903 then (some (0, 0, 7)) else (some ((X : Int), at_ + (i : Int) + 1, 0)) : Option (Int × Int × Int)) = some (res at_ (if X > 4611686018427387903 then (0, 0, 7) else (X, i + 1, 0))) := by
          by_cases hbig : X > 4611686018427387903
          · rw [if_pos (show (X : Int) > 4611686018427387903 by omega), if_pos hbig]; simp [res]
          · rw [if_neg (show ¬ (X : Int) > 4611686018427387903 by omega), if_neg hbig]; simp [res]; omega
        by_cases hz : c = 0
        · rw [if_pos hz]
          by_cases hi0 : 0 < i
          · rw [if_pos (show decide ((i : Int) > 0) = true by simpa using hi0), if_pos (show c = 0 ∧ 0 < i from ⟨hz, hi0⟩)]; simp [res]
          · rw [if_neg (show ¬ decide ((i : Int) > 0) = true by simp; omega), if_neg (show ¬ (c = 0 ∧ 0 < i) from fun h => hi0 h.2)]
            exact fin
        · rw [if_neg hz, if_neg (show ¬ (false = true) by simp), if_neg (show ¬ (c = 0 ∧ 0 < i) from fun h => hz h.1)]
          exact fin
theorem get_f (k : Nat) (l : List Int) (at_ : Int) (hk : 15 ≤ k) (hb : Byt l) (hl : l.length ≤ 140737488355328) : num_Get.f k l at_ = some (getS l at_) := by
  obtain ⟨k, rfl⟩ : ∃ m, k = m + 1 := ⟨k - 1, by omega⟩
  unfold num_Get.f getS
  by_cases h0 : at_ < 0
  · rw [if_pos h0, if_pos (.inl h0)]; simp [num_Get.j0]
  · rw [if_neg h0]
    simp only [num_Get.j0]
    by_cases h1 : at_ > (l.length : Int)
    · rw [if_pos (by simpa using h1), if_pos (.inr h1)]
    · rw [if_neg (by simpa using h1), if_neg (by omega)]
      have := get_l0 l hb hl at_ (by omega) (by omega) 9 k 0 0 rfl (by omega) (by decide)
      simpa using this
end Go.Proofs.YthehhbfiaaadgaaDoor.P
