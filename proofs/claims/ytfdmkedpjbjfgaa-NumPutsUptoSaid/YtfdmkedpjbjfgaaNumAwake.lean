/- The chapter's small case. -/
import Derived.Test.YtfdmkedpjbjfgaaNum
import Derived.Test.YtfdmkedpjbjfgaaPx1
set_option linter.unusedVariables false
namespace Go.Proofs.Ytfdmkedpjbjfgaa.P
open Go.RowKit Go.Proofs.YtfdmkedpjbjfgaaW.PrintWords Go.Proofs.YtfdmkedpjbjfgaaW.PrintLast Go.Proofs.YtfdmkedpjbjfgaaW.PrintMore Go.Proofs.Ytfdmkedpjbjfgaa.Num
theorem awake_f (k : Nat) (hk : 30 ≤ k) : remoralaw01_awake.f k = some true := by
  unfold remoralaw01_awake.f
  have h1 : getS [172, 2] 0 = (300, 2, 0) := by simp [getS, res, scan]
  have h2 : (enc (cl 300)).length = 2 := by
    have : cl 300 = 300 := cl_nat 300 (by omega)
    rw [this, enc_big (by omega), enc_small (by omega)]; rfl
  rw [get_f k _ _ (by omega) (by intro x hx; simp at hx; omega) (by simp), Option.bind_some, h1, if_pos rfl, if_pos rfl, if_pos rfl, size_f k _ (by omega), Option.bind_some, h2]
  rfl
theorem awake_end (k : Nat) (hk : 30 ≤ k) : ((remoralaw01_awake.f k).bind fun t => some t) = some true := by rw [awake_f k hk, Option.bind_some]
end Go.Proofs.Ytfdmkedpjbjfgaa.P
