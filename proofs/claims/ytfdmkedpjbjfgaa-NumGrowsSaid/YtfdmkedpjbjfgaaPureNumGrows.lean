/- The law NumGrows of the numbers: how many bytes a number has is from 1 to 9, and a greater one has no fewer. For every two numbers. -/
import Derived.Test.YtfdmkedpjbjfgaaNumAwake
import Derived.Test.YtfdmkedpjbjfgaaPx1
namespace Go.Proofs.Ytfdmkedpjbjfgaa.Pure
open Go.RowKit Go.Proofs.Ytfdmkedpjbjfgaa.P Go.Proofs.YtfdmkedpjbjfgaaW.PrintWords Go.Proofs.YtfdmkedpjbjfgaaW.PrintLast Go.Proofs.YtfdmkedpjbjfgaaW.PrintMore Go.Proofs.Ytfdmkedpjbjfgaa.Num
theorem cl_mono {a b : Int} (h : a ≤ b) : cl a ≤ cl b := by unfold cl mn mx; (repeat' split) <;> omega
theorem NumGrows : remoralaw01_NumGrows.Pure := by
  intro a b _ _
  refine ⟨40, ?_⟩
  unfold remoralaw01_NumGrows.f
  have h1 := enc_pos (cl (mn a b))
  have h2 := enc_cl (mx a b)
  have h3 := enc_mono _ _ (cl_mono (a := mn a b) (b := mx a b) (by unfold mn mx; split <;> split <;> omega))
  rw [size_f 40 _ (by omega), Option.bind_some, size_f 40 _ (by omega), Option.bind_some, if_pos (by omega), if_pos (by omega), if_pos (by omega), put_f 40 _ _ (by omega) (by simp), Option.bind_some, size_f 40 _ (by omega), Option.bind_some, List.nil_append, if_pos rfl]
  exact awake_end 40 (by omega)
end Go.Proofs.Ytfdmkedpjbjfgaa.Pure
