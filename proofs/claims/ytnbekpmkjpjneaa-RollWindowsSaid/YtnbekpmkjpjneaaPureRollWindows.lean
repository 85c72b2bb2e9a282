/- The law RollWindows: the sum of what is in a window, told by the law of the sums, by the program and by the document. -/
import Derived.Test.YtnbekpmkjpjneaaRoll
import Derived.Test.YtnbekpmkjpjneaaPureRollOf
import Derived.Test.YtnbekpmkjpjneaaPx9
set_option linter.unusedVariables false
namespace Go.Proofs.Ytnbekpmkjpjneaa.Pure
open Go.RowKit Go.Proofs.Ytnbekpmkjpjneaa.P Go.Proofs.YtnbekpmkjpjneaaW.PrintWords Go.Proofs.YtnbekpmkjpjneaaW.PrintLast Go.Proofs.YtnbekpmkjpjneaaW.PrintMore Go.Proofs.Ytnbekpmkjpjneaa.Num
theorem wsums : wnSums sS := by
  refine ⟨rfl, fun L c hb hl => ?_, fun x T c hb hl => ?_, fun L hb hl => ?_⟩
  · rw [in_f _ _ _ (sS_range L) (hb c (by simp)), sS_in]
  · have hx := hb x (by simp)
    have hc := hb c (by simp)
    have l5 : (((x :: T).length : Nat) : Int) = (T.length : Int) + 1 := by simp
    rw [roll_f _ _ _ _ (sS_range _) hx hc, l5, sS_out, sS_in]
  · exact refOf_f _ L (by omega) hb (by omega)
theorem RollWindows : remoralaw04_RollWindows.Pure := ⟨sS, wsums⟩
end Go.Proofs.Ytnbekpmkjpjneaa.Pure
