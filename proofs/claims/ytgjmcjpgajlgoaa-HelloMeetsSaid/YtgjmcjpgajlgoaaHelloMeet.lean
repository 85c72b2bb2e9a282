/- Whether a deal keeps to an offer, in plain Lean. -/
import Derived.Test.YtgjmcjpgajlgoaaHello
import Derived.Test.YtgjmcjpgajlgoaaPx7
set_option linter.unusedVariables false
set_option linter.unusedSimpArgs false
namespace Go.Proofs.Ytgjmcjpgajlgoaa.P
open Go.RowKit Go.Proofs.YtgjmcjpgajlgoaaW.PrintWords Go.Proofs.YtgjmcjpgajlgoaaW.PrintLast Go.Proofs.YtgjmcjpgajlgoaaW.PrintMore Go.Proofs.Ytgjmcjpgajlgoaa.Num
/-- Does a deal keep to an offer? -/
def Mt (d0 d1 d2 d3 a0 a1 a2 a3 a4 : Int) : Prop :=
  OK a0 a1 a2 a3 a4 ∧ (a0 ≤ d0 ∧ d0 ≤ a1) ∧ 0 ≤ d1 ∧ d1.toNat &&& a2.toNat = d1.toNat ∧ (a4 ≤ d3 ∧ d3 ≤ 32) ∧ (a3 = 0 ∧ (d2 = 0 ∨ 16 ≤ d2 ∧ d2 ≤ 4096) ∨ a3 ≠ 0 ∧ 16 ≤ d2 ∧ d2 ≤ a3)
instance (d0 d1 d2 d3 a0 a1 a2 a3 a4 : Int) : Decidable (Mt d0 d1 d2 d3 a0 a1 a2 a3 a4) := by unfold Mt; infer_instance
theorem and_mask (d a : Int) (hd : -9223372036854775808 ≤ d ∧ d ≤ 9223372036854775807) (ha : 0 ≤ a ∧ a ≤ 65535) : (d = Go.bits .and .i64 d a) ↔ (0 ≤ d ∧ d.toNat &&& a.toNat = d.toNat) := by
  by_cases h0 : 0 ≤ d
  · rw [and_nat (by omega) (by omega)]
    constructor
    · intro h; exact ⟨h0, by omega⟩
    · intro ⟨_, h⟩; rw [h]; omega
  · constructor
    · intro h
      have h1 : Go.bits .and .i64 d a = IntKind.i64.wrap (((BitVec.ofInt 64 d &&& BitVec.ofInt 64 a).toNat : Nat) : Int) := rfl
      have h2 : (BitVec.ofInt 64 d &&& BitVec.ofInt 64 a).toNat ≤ a.toNat := by
        rw [BitVec.toNat_and]
        refine Nat.le_trans Nat.and_le_right ?_
        rw [BitVec.toNat_ofInt]
        omega
      rw [h1, wraps_i64 _ (by omega) (by omega)] at h
      omega
    · intro ⟨h, _⟩; exact absurd h h0
theorem meets_f (d0 d1 d2 d3 a0 a1 a2 a3 a4 : Int) (hd : -9223372036854775808 ≤ d1 ∧ d1 ≤ 9223372036854775807) : hello_Meets.f d0 d1 d2 d3 a0 a1 a2 a3 a4 = some (decide (Mt d0 d1 d2 d3 a0 a1 a2 a3 a4)) := by
  unfold hello_Meets.f
  rw [check_f, Option.bind_some]
  by_cases ha : OK a0 a1 a2 a3 a4
  · simp only [ha, if_true]
    congr 1
    have hm := and_mask d1 a2 hd (by unfold OK at ha; omega)
    rw [Bool.eq_iff_iff]
    simp only [Bool.and_eq_true, beq_iff_eq, decide_eq_true_eq]
    rw [hm]
    unfold Mt
    simp only [ha, true_and]
    unfold OK at ha
    have e1 : d0 = mn (mx d0 a0) a1 ↔ (a0 ≤ d0 ∧ d0 ≤ a1) := by unfold mn mx; split <;> split <;> omega
    have e2 : d3 = mn (mx d3 a4) 32 ↔ (a4 ≤ d3 ∧ d3 ≤ 32) := by unfold mn mx; split <;> split <;> omega
    have e3 : (d2 = if a3 = 0 then if d2 = 0 then 0 else mn (mx d2 16) 4096 else mn (mx d2 16) a3) ↔ (a3 = 0 ∧ (d2 = 0 ∨ 16 ≤ d2 ∧ d2 ≤ 4096) ∨ a3 ≠ 0 ∧ 16 ≤ d2 ∧ d2 ≤ a3) := by
      by_cases hz : a3 = 0
      · rw [if_pos hz]
        by_cases h2 : d2 = 0
        · rw [if_pos h2]; omega
        · rw [if_neg h2]; unfold mn mx; split <;> split <;> omega
      · rw [if_neg hz]; unfold mn mx; split <;> split <;> omega
    rw [e1, e2, e3]
    constructor
    · rintro ⟨h1, ⟨h2, h3⟩, h4, h5⟩; exact ⟨h1, h2, h3, h5, h4⟩
    · rintro ⟨h1, h2, h3, h5, h4⟩; exact ⟨h1, ⟨h2, h3⟩, h4, h5⟩
  · have h2 : ¬ ((2 : Int) = 0) := by decide
    simp only [ha, if_false, h2]
    congr 1
    symm
    rw [decide_eq_false_iff_not]
    exact fun h => ha h.1
theorem agS_ok {a0 a1 a2 a3 a4 b0 b1 b2 b3 b4 : Int} (h : (agS a0 a1 a2 a3 a4 b0 b1 b2 b3 b4).2.2.2.2 = 0) : OK a0 a1 a2 a3 a4 ∧ OK b0 b1 b2 b3 b4 ∧ ¬ mn a1 b1 < mx a0 b0 ∧
    agS a0 a1 a2 a3 a4 b0 b1 b2 b3 b4 = (mn a1 b1, ((a2.toNat &&& b2.toNat : Nat) : Int), if mn a3 b3 = 0 then mx a3 b3 else mn a3 b3, mx a4 b4, 0) := by
  unfold agS at h ⊢
  by_cases hab : OK a0 a1 a2 a3 a4 ∧ OK b0 b1 b2 b3 b4
  · rw [if_pos hab] at h ⊢
    by_cases h1 : mn a1 b1 < mx a0 b0
    · rw [if_pos h1] at h; cases h
    · rw [if_neg h1]; exact ⟨hab.1, hab.2, h1, rfl⟩
  · rw [if_neg hab] at h; cases h
theorem agS_comm (a0 a1 a2 a3 a4 b0 b1 b2 b3 b4 : Int) : agS a0 a1 a2 a3 a4 b0 b1 b2 b3 b4 = agS b0 b1 b2 b3 b4 a0 a1 a2 a3 a4 := by
  have m1 : ∀ x y, mn x y = mn y x := by intro x y; unfold mn; split <;> split <;> omega
  have m2 : ∀ x y, mx x y = mx y x := by intro x y; unfold mx; split <;> split <;> omega
  unfold agS
  by_cases hab : OK a0 a1 a2 a3 a4 ∧ OK b0 b1 b2 b3 b4
  · rw [if_pos hab, if_pos (show OK b0 b1 b2 b3 b4 ∧ OK a0 a1 a2 a3 a4 from ⟨hab.2, hab.1⟩), m1 a1 b1, m2 a0 b0, m1 a3 b3, m2 a3 b3, m2 a4 b4, Nat.and_comm a2.toNat b2.toNat]
  · rw [if_neg hab, if_neg (show ¬ (OK b0 b1 b2 b3 b4 ∧ OK a0 a1 a2 a3 a4) from fun h => hab ⟨h.2, h.1⟩)]
/-- What is agreed on keeps to the first offer. -/
theorem agS_meets {a0 a1 a2 a3 a4 b0 b1 b2 b3 b4 : Int} (ha : OK a0 a1 a2 a3 a4) (hb : OK b0 b1 b2 b3 b4) (h : ¬ mn a1 b1 < mx a0 b0) :
    Mt (mn a1 b1) ((a2.toNat &&& b2.toNat : Nat) : Int) (if mn a3 b3 = 0 then mx a3 b3 else mn a3 b3) (mx a4 b4) a0 a1 a2 a3 a4 := by
  refine ⟨ha, ?_, by omega, ?_, ?_, ?_⟩
  · unfold OK at ha hb; unfold mn mx at *; (repeat' split) <;> (repeat' split at h) <;> omega
  · rw [Int.toNat_natCast]; exact land_self _ _
  · unfold OK at ha hb; unfold mx; split <;> omega
  · unfold OK at ha hb; unfold mn mx; (repeat' split) <;> omega
end Go.Proofs.Ytgjmcjpgajlgoaa.P
