/- The law HelloMeets: Meets agrees with the reference. For every deal and offer. -/
import Derived.Test.YtgjmcjpgajlgoaaHelloRef
import Derived.Test.YtgjmcjpgajlgoaaPx9
namespace Go.Proofs.Ytgjmcjpgajlgoaa.Pure
open Go.RowKit Go.Proofs.Ytgjmcjpgajlgoaa.P Go.Proofs.YtgjmcjpgajlgoaaW.PrintWords Go.Proofs.YtgjmcjpgajlgoaaW.PrintLast Go.Proofs.YtgjmcjpgajlgoaaW.PrintMore Go.Proofs.Ytgjmcjpgajlgoaa.Num
theorem j0_t (k : Nat) (d0 d1 d2 d3 a0 a1 a2 a3 a4 : Int) : remoraref32_Meets.j0 (k + 1) true d0 d1 d2 d3 a0 a1 a2 a3 a4 = some false := by simp [remoraref32_Meets.j0]
theorem refMeets_f (k : Nat) (d0 d1 d2 d3 a0 a1 a2 a3 a4 : Int) (hk : 50 ≤ k) (hd : -9223372036854775808 ≤ d1 ∧ d1 ≤ 9223372036854775807) : remoraref32_Meets.f k d0 d1 d2 d3 a0 a1 a2 a3 a4 = some (decide (Mt d0 d1 d2 d3 a0 a1 a2 a3 a4)) := by
  obtain ⟨k, rfl⟩ : ∃ m, k = m + 1 := ⟨k - 1, by omega⟩
  unfold remoraref32_Meets.f
  rw [refCheck_f, Option.bind_some]
  have h2 : ¬ ((2 : Int) = 0) := by decide
  have no : ¬ Mt d0 d1 d2 d3 a0 a1 a2 a3 a4 → some false = some (decide (Mt d0 d1 d2 d3 a0 a1 a2 a3 a4)) := fun h => by rw [decide_eq_false h]
  by_cases ha : OK a0 a1 a2 a3 a4
  · simp only [ha, if_true, refIn_f, Option.bind_some, decide_eq_true_eq]
    by_cases hv : a0 ≤ d0 ∧ d0 ≤ a1
    · rw [if_pos hv]
      by_cases h1 : d1 < 0
      · rw [if_pos h1, j0_t]; exact no fun h => by have := h.2.2.1; omega
      · rw [if_neg h1, both_f (k + 1) d1 a2 (by omega) (by omega) (by unfold OK at ha; omega), Option.bind_some]
        by_cases hf : ((d1.toNat &&& a2.toNat : Nat) : Int) = d1
        · rw [if_pos hf]
          by_cases hs : a4 ≤ d3 ∧ d3 ≤ 32
          · rw [decide_eq_true hs]
            simp only [Bool.not_true, remoraref32_Meets.j0, Bool.false_eq_true, if_false]
            have hf' : d1.toNat &&& a2.toNat = d1.toNat := by omega
            have e : Mt d0 d1 d2 d3 a0 a1 a2 a3 a4 ↔ (a3 = 0 ∧ (d2 = 0 ∨ 16 ≤ d2 ∧ d2 ≤ 4096) ∨ a3 ≠ 0 ∧ 16 ≤ d2 ∧ d2 ≤ a3) :=
              ⟨fun h => h.2.2.2.2.2, fun h => ⟨ha, hv, by omega, hf', hs, h⟩⟩
            by_cases hz : a3 = 0
            · rw [if_pos hz]
              by_cases hd2 : d2 = 0
              · rw [if_pos hd2, decide_eq_true (e.2 (.inl ⟨hz, .inl hd2⟩))]
              · rw [if_neg hd2, refIn_f, Option.bind_some]
                congr 1
                rw [decide_eq_decide, e]; omega
            · rw [if_neg hz, refIn_f, Option.bind_some]
              congr 1
              rw [decide_eq_decide, e]; omega
          · rw [decide_eq_false hs, Bool.not_false, j0_t]; exact no fun h => hs h.2.2.2.2.1
        · rw [if_neg hf, j0_t]; exact no fun h => hf (by rw [h.2.2.2.1]; omega)
    · rw [if_neg hv, j0_t]; exact no fun h => hv h.2.1
  · simp only [ha, if_false, h2]
    rw [j0_t]; exact no fun h => ha h.1
theorem HelloMeets : remoralaw32_HelloMeets.Pure := by
  intro d0 d1 d2 d3 a0 a1 a2 a3 a4 _ hd1 _ _ _ _ _ _ _
  have hd := wf_i64 hd1
  refine ⟨50, ?_⟩
  unfold remoralaw32_HelloMeets.f
  rw [meets_f _ _ _ _ _ _ _ _ _ hd, Option.bind_some, refMeets_f 50 _ _ _ _ _ _ _ _ _ (by omega) hd, Option.bind_some]
  simp only [if_true, beq_self_eq_true]
  exact awake_end
end Go.Proofs.Ytgjmcjpgajlgoaa.Pure
