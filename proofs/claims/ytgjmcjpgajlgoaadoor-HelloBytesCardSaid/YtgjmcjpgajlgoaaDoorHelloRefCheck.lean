/- The document's Check is the program's. -/
import Derived.Test.YtgjmcjpgajlgoaaDoorHello
import Derived.Test.YtgjmcjpgajlgoaaDoorPx2
set_option linter.unusedVariables false
set_option linter.unusedSimpArgs false
namespace Go.Proofs.YtgjmcjpgajlgoaaDoor.P
open Go.RowKit Go.Proofs.YtgjmcjpgajlgoaaDoorW.PrintWords Go.Proofs.YtgjmcjpgajlgoaaDoorW.PrintLast Go.Proofs.YtgjmcjpgajlgoaaDoorW.PrintMore Go.Proofs.YtgjmcjpgajlgoaaDoor.Num
theorem refIn_f (n lo hi : Int) : remoraref32_in.f n lo hi = some (decide (lo ≤ n ∧ n ≤ hi)) := by
  unfold remoraref32_in.f
  by_cases h : n ≥ lo
  · rw [if_pos h]; congr 1; simp [show lo ≤ n from h]
  · rw [if_neg h]; congr 1; simp; intro h2; exact absurd h2 h
theorem refCheck_f (a0 a1 a2 a3 a4 : Int) : remoraref32_Check.f a0 a1 a2 a3 a4 = some (if OK a0 a1 a2 a3 a4 then 0 else 2) := by
  unfold remoraref32_Check.f
  simp only [refIn_f, Option.bind_some, decide_eq_true_eq]
  by_cases h : OK a0 a1 a2 a3 a4
  · rw [if_pos h]
    obtain ⟨h1, h2, h3, h4, h5, h6, h7, h8⟩ := h
    rw [if_pos (show 1 ≤ a0 ∧ a0 ≤ 99 by omega), if_pos (show 1 ≤ a1 ∧ a1 ≤ 99 by omega), if_pos h2, if_pos (show 0 ≤ a2 ∧ a2 ≤ 65535 from ⟨h4, h5⟩)]
    by_cases hz : a3 = 0
    · rw [if_pos hz, if_pos (show 1 ≤ a4 ∧ a4 ≤ 32 from ⟨h7, h8⟩)]
    · rw [if_neg hz, if_pos (show 16 ≤ a3 ∧ a3 ≤ 4096 by omega), if_pos (show 1 ≤ a4 ∧ a4 ≤ 32 from ⟨h7, h8⟩)]
  · rw [if_neg h]
    unfold OK at h
    (repeat' split) <;> first | rfl | (exfalso; omega)
end Go.Proofs.YtgjmcjpgajlgoaaDoor.P
