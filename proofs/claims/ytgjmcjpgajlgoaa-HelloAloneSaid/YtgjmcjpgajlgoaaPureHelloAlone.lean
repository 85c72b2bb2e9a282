/- The law HelloAlone: an offer agrees with itself on its greatest version and on all that it has. For every offer. -/
import Derived.Test.YtgjmcjpgajlgoaaHelloMeet
import Derived.Test.YtgjmcjpgajlgoaaPx11
namespace Go.Proofs.Ytgjmcjpgajlgoaa.Pure
open Go.RowKit Go.Proofs.Ytgjmcjpgajlgoaa.P Go.Proofs.YtgjmcjpgajlgoaaW.PrintWords Go.Proofs.YtgjmcjpgajlgoaaW.PrintLast Go.Proofs.YtgjmcjpgajlgoaaW.PrintMore Go.Proofs.Ytgjmcjpgajlgoaa.Num
theorem HelloAlone : remoralaw32_HelloAlone.Pure := by
  intro a0 a1 a2 a3 a4 _ _ _ _ _
  unfold remoralaw32_HelloAlone.f
  rw [agree_f, Option.bind_some, check_f, Option.bind_some]
  have h2 : ¬ ((2 : Int) = 0) := by decide
  by_cases ha : OK a0 a1 a2 a3 a4
  · have hm : ¬ mn a1 a1 < mx a0 a0 := by unfold OK at ha; unfold mn mx; split <;> split <;> omega
    have e : agS a0 a1 a2 a3 a4 a0 a1 a2 a3 a4 = (a1, a2, a3, a4, 0) := by
      unfold agS
      rw [if_pos (show OK a0 a1 a2 a3 a4 ∧ OK a0 a1 a2 a3 a4 from ⟨ha, ha⟩), if_neg hm, Nat.and_self]
      have e1 : ∀ x, mn x x = x := by intro x; unfold mn; split <;> rfl
      have e2 : ∀ x, mx x x = x := by intro x; unfold mx; split <;> rfl
      rw [e1, e1, e2, e2]
      unfold OK at ha
      have : ((a2.toNat : Nat) : Int) = a2 := by omega
      rw [this, ite_self]
    have hmt := agS_meets ha ha hm
    have e3 : Mt a1 a2 a3 a4 a0 a1 a2 a3 a4 := by
      have e1 : ∀ x, mn x x = x := by intro x; unfold mn; split <;> rfl
      have e2 : ∀ x, mx x x = x := by intro x; unfold mx; split <;> rfl
      rw [e1, e1, e2, e2, Nat.and_self, ite_self] at hmt
      have : ((a2.toNat : Nat) : Int) = a2 := by unfold OK at ha; omega
      rwa [this] at hmt
    rw [e]
    simp only [ha, if_true, beq_self_eq_true, Bool.and_self]
    rw [meets_f _ _ _ _ _ _ _ _ _ (by unfold OK at ha; omega), Option.bind_some, decide_eq_true e3]
    simp only [if_true]
    exact awake_end
  · have e : agS a0 a1 a2 a3 a4 a0 a1 a2 a3 a4 = (0, 0, 0, 0, 2) := by
      unfold agS
      rw [if_neg (show ¬ (OK a0 a1 a2 a3 a4 ∧ OK a0 a1 a2 a3 a4) from fun h => ha h.1)]
    rw [e]
    simp only [ha, if_false, h2, if_true, beq_self_eq_true, Bool.and_self]
    exact awake_end
end Go.Proofs.Ytgjmcjpgajlgoaa.Pure
