/- The law HelloAgrees: Check and Agree agree with the reference. For every two offers. -/
import Derived.Test.YtgjmcjpgajlgoaaHelloRef
import Derived.Test.YtgjmcjpgajlgoaaPx6
namespace Go.Proofs.Ytgjmcjpgajlgoaa.Pure
open Go.RowKit Go.Proofs.Ytgjmcjpgajlgoaa.P Go.Proofs.YtgjmcjpgajlgoaaW.PrintWords Go.Proofs.YtgjmcjpgajlgoaaW.PrintLast Go.Proofs.YtgjmcjpgajlgoaaW.PrintMore Go.Proofs.Ytgjmcjpgajlgoaa.Num
theorem HelloAgrees : remoralaw32_HelloAgrees.Pure := by
  intro a0 a1 a2 a3 a4 b0 b1 b2 b3 b4 _ _ _ _ _ _ _ _ _ _
  refine ⟨50, ?_⟩
  unfold remoralaw32_HelloAgrees.f
  rw [agree_f, Option.bind_some, refAgree_f 50 _ _ _ _ _ _ _ _ _ _ (by omega), Option.bind_some, check_f, Option.bind_some, refCheck_f, Option.bind_some]
  simp only [if_true, beq_self_eq_true, Bool.and_self]
  exact awake_end
end Go.Proofs.Ytgjmcjpgajlgoaa.Pure
