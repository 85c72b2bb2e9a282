/- The reference's functions of numbers. -/
import Derived.Test.YthehhbfiaaadgaaDoorNum
import Derived.Test.YthehhbfiaaadgaaDoorPx4
import Derived.Test.YthehhbfiaaadgaaDoorPx3
set_option linter.unusedVariables false
set_option linter.unusedSimpArgs false
namespace Go.Proofs.YthehhbfiaaadgaaDoor.P
open Go.RowKit Go.Proofs.YthehhbfiaaadgaaDoorW.PrintWords Go.Proofs.YthehhbfiaaadgaaDoorW.PrintLast Go.Proofs.YthehhbfiaaadgaaDoorW.PrintMore Go.Proofs.YthehhbfiaaadgaaDoor.Num

theorem groups_l0 : ∀ (x k : Nat) (l : List Int), (enc x).length ≤ k → x < 9223372036854775808 → l.length + (enc x).length ≤ 140737488355328 → remoraref01_groups.l0 k (x : Int) l = some (l ++ enc x) := by
  intro x
  induction x using Nat.strongRecOn with
  | _ x ih =>
    intro k l hk hx63 hl
    have hp := enc_pos x
    obtain ⟨k, rfl⟩ : ∃ m, k = m + 1 := ⟨k - 1, by omega⟩
    simp only [remoraref01_groups.l0]
    by_cases hx : x ≤ 127
    · rw [enc_small hx] at hl ⊢
      simp only [List.length_cons, List.length_nil] at hl
      rw [if_neg (by omega), if_pos (by omega), show ((x : Int) % 256) = (x : Int) by omega]
    · rw [enc_big hx] at hk hl ⊢
      simp only [List.length_cons] at hk hl ⊢
      rw [if_pos (by omega), if_pos (by omega), Int.tdiv_eq_ediv_of_nonneg (by omega), Int.tmod_eq_emod_of_nonneg (by omega), w64 (n := (x : Int) / 128) (by omega) (by omega), w64 (by omega) (by omega), show ((x : Int) / 128) = ((x / 128 : Nat) : Int) by omega,
        ih (x / 128) (by omega) k _ (by omega) (by omega) (by simp only [List.length_append, List.length_cons, List.length_nil]; omega)]
      rw [List.append_assoc, show ((128 + (x : Int) % 128) % 256) = ((128 + x % 128 : Nat) : Int) by omega]
      rfl
theorem groups_f (k x : Nat) (hk : 12 ≤ k) (hx : x < 9223372036854775808) : remoraref01_groups.f k (x : Int) = some (enc x) := by
  have := enc_len9 hx
  unfold remoraref01_groups.f
  rw [groups_l0 x k [] (by omega) hx (by rw [List.length_nil]; omega), List.nil_append]
theorem behind_f (a b : List Int) (h : a.length + b.length < 140737488355328) : remoraref01_behind.f a b = some (a ++ b) := by
  unfold remoraref01_behind.f
  rw [if_pos (by rw [List.length_nil]; omega), Option.bind_some, List.nil_append, if_pos h]
theorem held_f (a : Int) : remoraref01_held.f a 0 4611686018427387903 = some ((cl a : Nat) : Int) := by
  unfold remoraref01_held.f
  have := cl_eq a
  unfold mn mx at this
  by_cases h : a < 0
  · rw [if_pos h]; rw [if_pos h, if_neg (by omega)] at this; rw [← this]
  · rw [if_neg h]; rw [if_neg h] at this
    by_cases h2 : a > 4611686018427387903
    · rw [if_pos h2]; rw [if_pos (by omega)] at this; rw [← this]
    · rw [if_neg h2]; rw [if_neg (by omega)] at this; rw [← this]
theorem refPut_f (k : Nat) (l : List Int) (a : Int) (hk : 12 ≤ k) (hl : l.length ≤ 140737488355300) : remoraref01_Put.f k l a = some (l ++ enc (cl a)) := by
  have := enc_cl a
  have := cl_le a
  unfold remoraref01_Put.f
  rw [held_f, Option.bind_some, groups_f k _ hk (by omega), Option.bind_some, behind_f _ _ (by omega), Option.bind_some]

def big (v : Nat) (e : Int) : Int × Int × Int := if v > 4611686018427387903 then (0, 0, 7) else ((v : Int), e, 0)
theorem big_gt {v : Nat} {e : Int} (h : v > 4611686018427387903) : big v e = (0, 0, 7) := if_pos h
theorem big_le {v : Nat} {e : Int} (h : ¬ v > 4611686018427387903) : big v e = ((v : Int), e, 0) := if_neg h
theorem ref_l1 (l : List Int) (hb : Byt l) (hl : l.length ≤ 140737488355328) (at_ e : Int) (h0 : 0 ≤ at_) (he : e < l.length) : ∀ (m k : Nat) (v : Nat), at_ + m ≤ l.length → m + 1 ≤ k → v ≤ 4611686018427387903 →
    remoraref01_Get.l1 k l at_ e (v : Int) (at_ + (m : Int) - 1) = some (big (v * 128 ^ m + vals l at_ m) (wrap64 (e + 1))) := by
  intro m
  induction m with
  | zero =>
    intro k v hm hk hv
    obtain ⟨k, rfl⟩ : ∃ m, k = m + 1 := ⟨k - 1, by omega⟩
    simp only [remoraref01_Get.l1]
    rw [if_neg (by omega), if_neg (by omega)]
    simp only [vals, Nat.pow_zero, Nat.mul_one, Nat.add_zero]
    rw [big_le (by omega)]
  | succ m ih =>
    intro k v hm hk hv
    obtain ⟨k, rfl⟩ : ∃ m, k = m + 1 := ⟨k - 1, by omega⟩
    simp only [remoraref01_Get.l1]
    rw [show at_ + ((m + 1 : Nat) : Int) - 1 = at_ + (m : Int) by omega, if_pos (by omega)]
    have hpp : 128 ^ (m + 1) = 128 ^ m * 128 := Nat.pow_succ ..
    have hc := rd_byt hb (at_ + (m : Int))
    simp only [vals]
    generalize hcc : rd l (at_ + (m : Int)) = c at *
    by_cases hbig : (v : Int) > 36028797018963967
    · have : v * 128 ^ (m + 1) + (vals l at_ m + (c % 128).toNat * 128 ^ m) > 4611686018427387903 := by
        have h1 : 36028797018963968 * 128 ^ (m + 1) ≤ v * 128 ^ (m + 1) := Nat.mul_le_mul_right _ (by omega)
        have h2 : 1 ≤ 128 ^ m := Nat.pow_pos (by decide)
        omega
      rw [if_pos hbig, big_gt this]
    · rw [if_neg hbig, if_pos (by omega), if_pos (by omega), Int.tmod_eq_emod_of_nonneg (by omega), w64 (n := c % 128) (by omega) (by omega), w64 (n := 128 * (v : Int)) (by omega) (by omega), w64 (n := 128 * (v : Int) + c % 128) (by omega) (by omega), w64 (n := at_ + (m : Int) - 1) (by omega) (by omega)]
      have e1 : 128 * (v : Int) + c % 128 = ((128 * v + (c % 128).toNat : Nat) : Int) := by omega
      rw [e1, ih k (128 * v + (c % 128).toNat) (by omega) (by omega) (by omega)]
      have e2 : (128 * v + (c % 128).toNat) * 128 ^ m + vals l at_ m = v * 128 ^ (m + 1) + (vals l at_ m + (c % 128).toNat * 128 ^ m) := by
        rw [hpp, Nat.add_mul, Nat.mul_comm 128 v, Nat.mul_assoc, Nat.mul_comm 128 (128 ^ m)]; omega
      rw [e2]
/-- What the reading answers from byte j on, behind which stands what the scan says. -/
theorem ref_j2 (l : List Int) (hb : Byt l) (hl : l.length ≤ 140737488355328) (at_ : Int) (h0 : 0 ≤ at_) (j f k : Nat) (hf : f + j = 9) (hk : 14 ≤ k) (hj : at_ + j ≤ l.length) (hend : j = 9 ∨ at_ + j = l.length ∨ at_ + j < l.length ∧ rd l (at_ + j) ≤ 127) :
    remoraref01_Get.j2 k l at_ (at_ + (j : Int)) = some (res at_ (scan f (l.drop (at_.toNat + j)) j (vals l at_ j))) := by
  obtain ⟨k, rfl⟩ : ∃ m, k = m + 1 := ⟨k - 1, by omega⟩
  simp only [remoraref01_Get.j2]
  rw [w64 (n := at_ + (j : Int) - at_) (by omega) (by omega)]
  by_cases h9 : j = 9
  · obtain rfl : f = 0 := by omega
    rw [if_pos (by omega)]; simp [scan, res]
  · rw [if_neg (by omega)]
    obtain ⟨f, rfl⟩ : ∃ m, f = m + 1 := ⟨f - 1, by omega⟩
    by_cases he : at_ + (j : Int) = (l.length : Int)
    · rw [if_pos he, List.drop_eq_nil_of_le (by omega)]; simp [scan, res]
    · rw [if_neg he, if_pos (by omega), if_pos (by omega)]
      have hle : rd l (at_ + j) ≤ 127 := by omega
      have hd := drop_rd (l := l) (i := at_ + (j : Int)) (by omega) (by omega)
      rw [show (at_ + (j : Int)).toNat = at_.toNat + j by omega] at hd
      have hl1 := ref_l1 l hb hl at_ (at_ + j) h0 (by omega) (j + 1) (k - 1) 0 (by omega) (by omega) (by omega)
      simp only [Nat.zero_mul, Nat.zero_add, vals] at hl1
      rw [show at_ + ((j + 1 : Nat) : Int) - 1 = at_ + (j : Int) by omega, w64 (n := at_ + (j : Int) + 1) (by omega) (by omega)] at hl1
      rw [hd]
      have hc := rd_byt hb (at_ + (j : Int))
      generalize rd l (at_ + (j : Int)) = c at *
      simp only [scan]
      rw [if_neg (show ¬ c > 127 by omega)]
      obtain ⟨k, rfl⟩ : ∃ m, k = m + 1 := ⟨k - 1, by omega⟩
      simp only [remoraref01_Get.j3]
      rw [show k + 1 - 1 = k by omega] at hl1
      have fin : remoraref01_Get.l1 k l at_ (at_ + (j : Int)) 0 (at_ + (j : Int)) = some (res at_ (if vals l at_ j + (c % 128).toNat * 128 ^ j > 4611686018427387903 then (0, 0, 7) else (vals l at_ j + (c % 128).toNat * 128 ^ j, j + 1, 0))) := by
        refine Eq.trans hl1 ?_
        by_cases hbig : vals l at_ j + (c % 128).toNat * 128 ^ j > 4611686018427387903
        · rw [big_gt hbig, if_pos hbig]; simp [res]
        · rw [big_le hbig, if_neg hbig]; simp [res]; omega
      by_cases hz : c = 0
      · rw [if_pos hz]
        by_cases hj0 : 0 < j
        · rw [if_pos (show decide (at_ + (j : Int) > at_) = true by simp; omega), if_pos (show c = 0 ∧ 0 < j from ⟨hz, hj0⟩)]; simp [res]
        · rw [if_neg (show ¬ decide (at_ + (j : Int) > at_) = true by simp; omega), if_neg (show ¬ (c = 0 ∧ 0 < j) from fun h => hj0 h.2)]; exact fin
      · rw [if_neg hz, if_neg (show ¬ (false = true) by simp), if_neg (show ¬ (c = 0 ∧ 0 < j) from fun h => hz h.1)]; exact fin
theorem ref_l0 (l : List Int) (hb : Byt l) (hl : l.length ≤ 140737488355328) (at_ : Int) (h0 : 0 ≤ at_) : ∀ (f j k : Nat), f + j = 9 → f + 15 ≤ k → at_ + j ≤ l.length →
    remoraref01_Get.l0 k l at_ (at_ + (j : Int)) = some (res at_ (scan f (l.drop (at_.toNat + j)) j (vals l at_ j))) := by
  intro f
  induction f with
  | zero =>
    intro j k hf hk hj
    obtain ⟨k, rfl⟩ : ∃ m, k = m + 1 := ⟨k - 1, by omega⟩
    simp only [remoraref01_Get.l0]
    rw [w64 (n := at_ + (j : Int) - at_) (by omega) (by omega)]
    have := ref_j2 l hb hl at_ h0 j 0 k hf (by omega) hj (.inl (by omega))
    split
    · rw [if_neg (by omega)]; exact this
    · exact this
  | succ f ih =>
    intro j k hf hk hj
    obtain ⟨k, rfl⟩ : ∃ m, k = m + 1 := ⟨k - 1, by omega⟩
    simp only [remoraref01_Get.l0]
    rw [w64 (n := at_ + (j : Int) - at_) (by omega) (by omega)]
    by_cases he : at_ + (j : Int) < (l.length : Int)
    · rw [if_pos he, if_pos (by omega), if_pos (by omega)]
      by_cases hgt : rd l (at_ + (j : Int)) > 127
      · rw [if_pos hgt, w64 (n := at_ + (j : Int) + 1) (by omega) (by omega)]
        have hd := drop_rd (l := l) (i := at_ + (j : Int)) (by omega) (by omega)
        rw [show (at_ + (j : Int)).toNat = at_.toNat + j by omega] at hd
        have := ih (j + 1) k (by omega) (by omega) (by omega)
        rw [show at_ + ((j + 1 : Nat) : Int) = at_ + (j : Int) + 1 by omega] at this
        rw [this, hd]
        simp only [scan, vals]
        rw [if_pos hgt, show at_.toNat + (j + 1) = at_.toNat + j + 1 by omega]
      · rw [if_neg hgt]
        exact ref_j2 l hb hl at_ h0 j (f + 1) k hf (by omega) hj (.inr (.inr ⟨he, by omega⟩))
    · rw [if_neg he]
      exact ref_j2 l hb hl at_ h0 j (f + 1) k hf (by omega) hj (.inr (.inl (by omega)))
theorem refGet_f (k : Nat) (l : List Int) (at_ : Int) (hk : 30 ≤ k) (hb : Byt l) (hl : l.length ≤ 140737488355328) : remoraref01_Get.f k l at_ = some (getS l at_) := by
  obtain ⟨k, rfl⟩ : ∃ m, k = m + 1 := ⟨k - 1, by omega⟩
  unfold remoraref01_Get.f getS
  by_cases h0 : at_ < 0
  · rw [if_pos h0, if_pos (.inl h0)]; simp [remoraref01_Get.j0]
  · rw [if_neg h0]
    simp only [remoraref01_Get.j0]
    by_cases h1 : at_ > (l.length : Int)
    · rw [if_pos (by simpa using h1), if_pos (.inr h1)]
    · rw [if_neg (by simpa using h1), if_neg (by omega)]
      have := ref_l0 l hb hl at_ (by omega) 9 0 k rfl (by omega) (by omega)
      simpa [vals] using this
end Go.Proofs.YthehhbfiaaadgaaDoor.P
