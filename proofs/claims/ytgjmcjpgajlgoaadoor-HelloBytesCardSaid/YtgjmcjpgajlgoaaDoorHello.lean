/- Offers and deals in plain Lean: which offers may be, what two agree on, whether a deal keeps to an offer; the program's functions and the reference's compute them. -/
import Derived.Test.YtgjmcjpgajlgoaaDoorNumSpec
import Derived.Test.YtgjmcjpgajlgoaaDoorPx2
import Derived.Test.YtgjmcjpgajlgoaaDoorPx7

set_option linter.unusedVariables false
set_option linter.unusedSimpArgs false
namespace Go.Proofs.YtgjmcjpgajlgoaaDoor.P
open Go.RowKit Go.Proofs.YtgjmcjpgajlgoaaDoorW.PrintWords Go.Proofs.YtgjmcjpgajlgoaaDoorW.PrintLast Go.Proofs.YtgjmcjpgajlgoaaDoorW.PrintMore Go.Proofs.YtgjmcjpgajlgoaaDoor.Num

/-- May an offer be? -/
def OK (a0 a1 a2 a3 a4 : Int) : Prop := 1 ≤ a0 ∧ a0 ≤ a1 ∧ a1 ≤ 99 ∧ 0 ≤ a2 ∧ a2 ≤ 65535 ∧ (a3 = 0 ∨ 16 ≤ a3 ∧ a3 ≤ 4096) ∧ 1 ≤ a4 ∧ a4 ≤ 32
instance (a0 a1 a2 a3 a4 : Int) : Decidable (OK a0 a1 a2 a3 a4) := by unfold OK; infer_instance
theorem in_f (n lo hi : Int) : hello_in.f n lo hi = some (decide (lo ≤ n ∧ n ≤ hi)) := by
  unfold hello_in.f
  by_cases h : n ≥ lo
  · rw [if_pos h]; congr 1; simp [show lo ≤ n from h]
  · rw [if_neg h]; congr 1; simp; intro h2; exact absurd h2 h
theorem check_f (a0 a1 a2 a3 a4 : Int) : hello_Check.f a0 a1 a2 a3 a4 = some (if OK a0 a1 a2 a3 a4 then 0 else 2) := by
  unfold hello_Check.f
  simp only [in_f, Option.bind_some, decide_eq_true_eq]
  by_cases h : OK a0 a1 a2 a3 a4
  · rw [if_pos h]
    obtain ⟨h1, h2, h3, h4, h5, h6, h7, h8⟩ := h
    rw [if_pos ⟨h1, h2⟩, if_pos h3, if_pos ⟨h4, h5⟩]
    by_cases hz : a3 = 0
    · rw [if_pos hz, if_pos ⟨h7, h8⟩]
    · rw [if_neg hz, if_pos (by omega), if_pos ⟨h7, h8⟩]
  · rw [if_neg h]
    unfold OK at h
    (repeat' split) <;> first | rfl | (exfalso; omega)
theorem and_nat {a b : Int} (ha : 0 ≤ a ∧ a < 9223372036854775808) (hb : 0 ≤ b ∧ b < 9223372036854775808) : Go.bits .and .i64 a b = ((a.toNat &&& b.toNat : Nat) : Int) := by
  have := (bits_nat .i64 63 (by decide) wraps_i64 a.toNat b.toNat (by omega) (by omega)).1
  rwa [Int.toNat_of_nonneg ha.1, Int.toNat_of_nonneg hb.1] at this
/-- What two offers agree on. -/
def agS (a0 a1 a2 a3 a4 b0 b1 b2 b3 b4 : Int) : Int × Int × Int × Int × Int :=
  if OK a0 a1 a2 a3 a4 ∧ OK b0 b1 b2 b3 b4 then
    if mn a1 b1 < mx a0 b0 then (0, 0, 0, 0, 18) else (mn a1 b1, ((a2.toNat &&& b2.toNat : Nat) : Int), if mn a3 b3 = 0 then mx a3 b3 else mn a3 b3, mx a4 b4, 0)
  else (0, 0, 0, 0, 2)
theorem agree_f (a0 a1 a2 a3 a4 b0 b1 b2 b3 b4 : Int) : hello_Agree.f a0 a1 a2 a3 a4 b0 b1 b2 b3 b4 = some (agS a0 a1 a2 a3 a4 b0 b1 b2 b3 b4) := by
  unfold hello_Agree.f agS
  rw [check_f, Option.bind_some, check_f, Option.bind_some]
  have h2 : ¬ ((2 : Int) = 0) := by decide
  by_cases ha : OK a0 a1 a2 a3 a4
  · by_cases hb : OK b0 b1 b2 b3 b4
    · simp only [ha, hb, if_true, and_self]
      have ha' := ha
      have hb' := hb
      unfold OK at ha' hb'
      rw [and_nat (by omega) (by omega)]
      by_cases h1 : mn a1 b1 < mx a0 b0
      · rw [if_pos h1, if_pos h1]
      · rw [if_neg h1, if_neg h1]
        by_cases h2 : mn a3 b3 = 0
        · rw [if_pos h2, if_pos h2]
        · rw [if_neg h2, if_neg h2]
    · simp only [ha, hb, if_true, if_false, h2, and_false]
  · simp only [ha, if_false, h2, false_and]
theorem awake_t : remoralaw32_awake.f = some true := by
  unfold remoralaw32_awake.f
  rw [agree_f, Option.bind_some]
  decide
theorem awake_end : ((remoralaw32_awake.f).bind fun t => some t) = some true := by rw [awake_t, Option.bind_some]
theorem land_self (a b : Nat) : (a &&& b) &&& a = a &&& b := by
  apply Nat.eq_of_testBit_eq
  intro i
  simp only [Nat.testBit_and]
  cases a.testBit i <;> cases b.testBit i <;> rfl
theorem land_self' (a b : Nat) : (a &&& b) &&& b = a &&& b := by
  rw [Nat.and_assoc, Nat.and_self]
theorem land_le (a b : Nat) : a &&& b ≤ b := Nat.and_le_right
end Go.Proofs.YtgjmcjpgajlgoaaDoor.P
