/- The law RollOf: the sum of any text is the reference's. (At most 200,000 bytes.) -/
import Derived.Test.YtnbekpmkjpjneaaRoll
import Derived.Test.YtnbekpmkjpjneaaPx1
namespace Go.Proofs.Ytnbekpmkjpjneaa.Pure
open Go.RowKit Go.Proofs.Ytnbekpmkjpjneaa.P Go.Proofs.YtnbekpmkjpjneaaW.PrintWords Go.Proofs.YtnbekpmkjpjneaaW.PrintLast Go.Proofs.YtnbekpmkjpjneaaW.PrintMore Go.Proofs.Ytnbekpmkjpjneaa.Num
theorem take_rd (l : List Int) (i : Nat) (h : i < l.length) : l.take (i + 1) = l.take i ++ [rd l (i : Int)] := by
  rw [List.take_succ_eq_append_getElem h]
  simp [rd, List.getD_eq_getElem?_getD, List.getElem?_eq_getElem h]
theorem refOf_l0 (l : List Int) (hb : Byt l) (hl : l.length ≤ 140737488355328) : ∀ (d k i : Nat) (a b : Int), i + d = l.length → d + 1 ≤ k → a = sA (l.take i) % 65536 → b = (sB (l.take i) + (d : Int) * sA (l.take i)) % 65536 →
    remoraref04_Of.l0 k l a b (i : Int) = some (sS l) := by
  intro d
  induction d with
  | zero =>
    intro k i a b hi hk ha hbb
    obtain ⟨k, rfl⟩ : ∃ m, k = m + 1 := ⟨k - 1, by omega⟩
    simp only [remoraref04_Of.l0]
    rw [List.take_of_length_le (by omega)] at ha hbb
    rw [if_neg (by omega), whole_f a b (by omega) (by omega), Option.bind_some]
    unfold sS
    congr 1
    refine jn_congr (by omega) ?_
    simp at hbb
    omega
  | succ d ih =>
    intro k i a b hi hk ha hbb
    obtain ⟨k, rfl⟩ : ∃ m, k = m + 1 := ⟨k - 1, by omega⟩
    simp only [remoraref04_Of.l0]
    have hr := rd_byt hb (i : Int)
    have ht := take_rd l i (by omega)
    generalize rd l (i : Int) = c at hr ht
    have e1 : wrap64 c = c := w64 (by omega) (by omega)
    have e2 : wrap64 (c + 31) = c + 31 := w64 (by omega) (by omega)
    have e3 : wrap64 ((l.length : Int) - (i : Int)) = (d : Int) + 1 := by rw [w64 (by omega) (by omega)]; omega
    have e4 : Int.tmod ((d : Int) + 1) 65536 = ((d : Int) + 1) % 65536 := Int.tmod_eq_emod_of_nonneg (by omega)
    have hp : 0 ≤ ((d : Int) + 1) % 65536 * (c + 31) ∧ ((d : Int) + 1) % 65536 * (c + 31) ≤ 65536 * 300 :=
      ⟨Int.mul_nonneg (by omega) (by omega), Int.mul_le_mul (by omega) (by omega) (by omega) (by omega)⟩
    rw [if_pos (by omega), if_pos (by omega), e1, e2, e3, e4, w64 (n := a + c) (by omega) (by omega), w64 (n := a + c + 31) (by omega) (by omega), Int.tmod_eq_emod_of_nonneg (a := a + c + 31) (by omega),
      w64 (n := ((d : Int) + 1) % 65536 * (c + 31)) (by omega) (by omega), w64 (n := b + ((d : Int) + 1) % 65536 * (c + 31)) (by omega) (by omega), Int.tmod_eq_emod_of_nonneg (a := b + ((d : Int) + 1) % 65536 * (c + 31)) (by omega), w64 (n := (i : Int) + 1) (by omega) (by omega),
      show ((i : Int) + 1) = ((i + 1 : Nat) : Int) by omega]
    refine ih k (i + 1) _ _ (by omega) (by omega) ?_ ?_
    · rw [ht, sA_append]
      simp only [sA]
      omega
    · rw [ht, sA_append, sB_append]
      simp only [sA, sB, List.length_cons, List.length_nil]
      have em := mulmod ((d : Int) + 1) (c + 31)
      have h1 : (d : Int) * (sA (l.take i) + (c + 31 + 0)) = (d : Int) * sA (l.take i) + (d : Int) * (c + 31) := by rw [Int.add_zero, Int.mul_add]
      have h2 : ((d : Int) + 1) * (c + 31) = (d : Int) * (c + 31) + (c + 31) := by rw [Int.add_mul, Int.one_mul]
      have h3 : ((d + 1 : Nat) : Int) * sA (l.take i) = (d : Int) * sA (l.take i) + sA (l.take i) := by rw [Int.natCast_add, Int.add_mul]; simp
      rw [h3] at hbb
      rw [h1]
      rw [h2] at em
      generalize ((d : Int) + 1) % 65536 * (c + 31) = p at *
      generalize (d : Int) * (c + 31) = q at *
      generalize (d : Int) * sA (l.take i) = r at *
      simp only [Int.natCast_zero, Int.zero_add, Nat.zero_add, Int.natCast_one, Int.one_mul, Int.add_zero]
      omega
theorem refOf_f (k : Nat) (l : List Int) (hk : l.length + 1 ≤ k) (hb : Byt l) (hl : l.length ≤ 140737488355328) : remoraref04_Of.f k l = some (sS l) := by
  unfold remoraref04_Of.f
  have := refOf_l0 l hb hl l.length k 0 0 0 (by omega) hk (by simp [sA]) (by simp [sA, sB])
  simpa using this
theorem RollOf : remoralaw04_RollOf.Pure := by
  intro l hm hl hb
  have hb' := byt_of hb
  refine ⟨l.length + 1, ?_⟩
  unfold remoralaw04_RollOf.f
  by_cases h : (l.length : Int) > 200000
  · rw [if_pos h]
  · rw [if_neg h, of_f _ l (by omega) hb' (by omega), Option.bind_some, refOf_f _ l (by omega) hb' (by omega), Option.bind_some, if_pos rfl]
    rfl
end Go.Proofs.Ytnbekpmkjpjneaa.Pure
