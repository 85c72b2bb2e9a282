/- The law HelloBoth: what two agree on doesn't hang on who is first and keeps to both offers; no greater version is in both. For every two offers. -/
import Derived.Test.YtgjmcjpgajlgoaaHelloMeet
import Derived.Test.YtgjmcjpgajlgoaaPx10
namespace Go.Proofs.Ytgjmcjpgajlgoaa.Pure
open Go.RowKit Go.Proofs.Ytgjmcjpgajlgoaa.P Go.Proofs.YtgjmcjpgajlgoaaW.PrintWords Go.Proofs.YtgjmcjpgajlgoaaW.PrintLast Go.Proofs.YtgjmcjpgajlgoaaW.PrintMore Go.Proofs.Ytgjmcjpgajlgoaa.Num
theorem HelloBoth : remoralaw32_HelloBoth.Pure := by
  intro a0 a1 a2 a3 a4 b0 b1 b2 b3 b4 _ _ _ _ _ _ _ _ _ _
  refine ⟨2, ?_⟩
  unfold remoralaw32_HelloBoth.f
  rw [agree_f, Option.bind_some, agree_f, Option.bind_some, ← agS_comm a0 a1 a2 a3 a4 b0 b1 b2 b3 b4]
  have h2 : ¬ ((2 : Int) = 0) := by decide
  simp only [beq_self_eq_true, Bool.not_true, Bool.or_self, if_false, bne_self_eq_false, Bool.false_eq_true]
  simp only [remoralaw32_HelloBoth.j0, Bool.false_eq_true, if_false]
  by_cases h0 : (agS a0 a1 a2 a3 a4 b0 b1 b2 b3 b4).2.2.2.2 = 0
  · obtain ⟨ha, hb, hm, e⟩ := agS_ok h0
    have m1 := agS_meets ha hb hm
    have m2 : Mt (mn a1 b1) ((a2.toNat &&& b2.toNat : Nat) : Int) (if mn a3 b3 = 0 then mx a3 b3 else mn a3 b3) (mx a4 b4) b0 b1 b2 b3 b4 := by
      have c1 : ∀ x y, mn x y = mn y x := by intro x y; unfold mn; split <;> split <;> omega
      have c2 : ∀ x y, mx x y = mx y x := by intro x y; unfold mx; split <;> split <;> omega
      have := agS_meets hb ha (by rw [c1 b1 a1, c2 b0 a0]; exact hm)
      rwa [c1 b1 a1, c1 b3 a3, c2 b3 a3, c2 b4 a4, Nat.and_comm] at this
    rw [e]
    simp only [if_true]
    have hl := land_le a2.toNat b2.toNat
    rw [meets_f _ _ _ _ _ _ _ _ _ (by unfold OK at hb; omega), Option.bind_some, decide_eq_true m1]
    simp only [if_true]
    rw [meets_f _ _ _ _ _ _ _ _ _ (by unfold OK at hb; omega), Option.bind_some, decide_eq_true m2]
    simp only [if_true]
    by_cases hv : mn a1 b1 = a1
    · rw [if_pos hv, if_pos (show mn a1 b1 ≤ a1 by unfold mn; split <;> omega), if_pos (show mn a1 b1 ≤ b1 by unfold mn; split <;> omega)]
      exact awake_end
    · rw [if_neg hv, if_pos (show mn a1 b1 = b1 by unfold mn at *; split <;> simp_all), if_pos (show mn a1 b1 ≤ a1 by unfold mn; split <;> omega), if_pos (show mn a1 b1 ≤ b1 by unfold mn; split <;> omega)]
      exact awake_end
  · rw [if_neg h0, check_f, Option.bind_some, check_f, Option.bind_some]
    by_cases hab : OK a0 a1 a2 a3 a4 ∧ OK b0 b1 b2 b3 b4
    · have e : agS a0 a1 a2 a3 a4 b0 b1 b2 b3 b4 = (0, 0, 0, 0, 18) := by
        unfold agS at h0 ⊢
        rw [if_pos hab] at h0 ⊢
        by_cases h1 : mn a1 b1 < mx a0 b0
        · rw [if_pos h1]
        · rw [if_neg h1] at h0; exact absurd rfl h0
      rw [e]
      simp only [hab.1, hab.2, if_true, beq_self_eq_true, Bool.and_self]
      exact awake_end
    · have e : agS a0 a1 a2 a3 a4 b0 b1 b2 b3 b4 = (0, 0, 0, 0, 2) := by
        unfold agS; rw [if_neg hab]
      rw [e]
      by_cases ha : OK a0 a1 a2 a3 a4
      · have hb : ¬ OK b0 b1 b2 b3 b4 := fun h => hab ⟨ha, h⟩
        simp only [ha, hb, if_true, if_false, beq_self_eq_true, Bool.and_self]
        exact awake_end
      · simp only [ha, if_false, h2, if_true, beq_self_eq_true, Bool.and_self]
        exact awake_end
end Go.Proofs.Ytgjmcjpgajlgoaa.Pure
