/- The reference's functions of offers. -/
import Derived.Test.YtgjmcjpgajlgoaaHelloMeet
import Derived.Test.YtgjmcjpgajlgoaaPx3
import Derived.Test.YtgjmcjpgajlgoaaPx4
set_option linter.unusedVariables false
set_option linter.unusedSimpArgs false
namespace Go.Proofs.Ytgjmcjpgajlgoaa.P
open Go.RowKit Go.Proofs.YtgjmcjpgajlgoaaW.PrintWords Go.Proofs.YtgjmcjpgajlgoaaW.PrintLast Go.Proofs.YtgjmcjpgajlgoaaW.PrintMore Go.Proofs.Ytgjmcjpgajlgoaa.Num
theorem refIn_f (n lo hi : Int) : remoraref32_in.f n lo hi = some (decide (lo ≤ n ∧ n ≤ hi)) := by
  unfold remoraref32_in.f
  by_cases h : n ≥ lo
  · rw [if_pos h]; congr 1; simp [show lo ≤ n from h]
  · rw [if_neg h]; congr 1; simp; intro h2; exact absurd h2 h
theorem refCheck_f (a0 a1 a2 a3 a4 : Int) : remoraref32_Check.f a0 a1 a2 a3 a4 = some (if OK a0 a1 a2 a3 a4 then 0 else 2) := by
  unfold remoraref32_Check.f
  simp only [refIn_f, Option.bind_some, decide_eq_true_eq]
  by_cases h : OK a0 a1 a2 a3 a4
  · rw [if_pos h]
    obtain ⟨h1, h2, h3, h4, h5, h6, h7, h8⟩ := h
    rw [if_pos (show 1 ≤ a0 ∧ a0 ≤ 99 by omega), if_pos (show 1 ≤ a1 ∧ a1 ≤ 99 by omega), if_pos h2, if_pos (show 0 ≤ a2 ∧ a2 ≤ 65535 from ⟨h4, h5⟩)]
    by_cases hz : a3 = 0
    · rw [if_pos hz, if_pos (show 1 ≤ a4 ∧ a4 ≤ 32 from ⟨h7, h8⟩)]
    · rw [if_neg hz, if_pos (show 16 ≤ a3 ∧ a3 ≤ 4096 by omega), if_pos (show 1 ≤ a4 ∧ a4 ≤ 32 from ⟨h7, h8⟩)]
  · rw [if_neg h]
    unfold OK at h
    (repeat' split) <;> first | rfl | (exfalso; omega)
theorem land_step (a b : Nat) : a &&& b = (if a % 2 = 1 ∧ b % 2 = 1 then 1 else 0) + 2 * ((a / 2) &&& (b / 2)) := by
  have h1 : (a &&& b) / 2 = (a / 2) &&& (b / 2) := Nat.and_div_two
  have h2 : (a &&& b) % 2 = if a % 2 = 1 ∧ b % 2 = 1 then 1 else 0 := by
    have e : (a &&& b).testBit 0 = (a.testBit 0 && b.testBit 0) := Nat.testBit_and ..
    simp only [Nat.testBit_zero] at e
    rw [← Bool.decide_and, decide_eq_decide] at e
    have h3 : (a &&& b) % 2 < 2 := Nat.mod_lt _ (by decide)
    by_cases ha : a % 2 = 1 ∧ b % 2 = 1
    · rw [if_pos ha]; exact e.mpr ha
    · rw [if_neg ha]
      have : ¬ (a &&& b) % 2 = 1 := fun h => ha (e.mp h)
      omega
  have := Nat.div_add_mod (a &&& b) 2
  rw [h1, h2] at this
  omega
theorem both_l0 : ∀ (j k a b n t : Nat), b < 2 ^ j → 2 * j + 2 ≤ k → b < 9223372036854775808 → a < 9223372036854775808 → t * 2 ^ j ≤ 1000000 → n + t * 2 ^ j ≤ 1000000 + t →
    remoraref32_both.l0 k (a : Int) (b : Int) (n : Int) (t : Int) = some ((n + t * (a &&& b) : Nat) : Int) := by
  intro j
  induction j with
  | zero =>
    intro k a b n t hb hk hbb ha htm hn
    obtain ⟨k, rfl⟩ : ∃ m, k = m + 2 := ⟨k - 2, by omega⟩
    obtain rfl : b = 0 := by simpa using hb
    simp only [remoraref32_both.l0, remoraref32_both.j1]
    split <;> simp
  | succ j ih =>
    intro k a b n t hb hk hbb ha htm hn
    obtain ⟨k, rfl⟩ : ∃ m, k = m + 2 := ⟨k - 2, by omega⟩
    simp only [remoraref32_both.l0, remoraref32_both.j1]
    by_cases h0 : (a : Int) > 0
    · rw [if_pos h0]
      by_cases h1 : (b : Int) > 0
      · have hpj : 2 ^ (j + 1) = 2 ^ j * 2 := Nat.pow_succ ..
        have hp1 : 0 < 2 ^ j := Nat.two_pow_pos j
        have htj : t * 2 ^ (j + 1) = t * 2 ^ j * 2 := by rw [hpj, Nat.mul_assoc]
        have ht : t ≤ t * 2 ^ j := Nat.le_mul_of_pos_right _ hp1
        have hnt : 2 * t * 2 ^ j = t * 2 ^ j * 2 := by rw [Nat.mul_comm 2 t, Nat.mul_right_comm]
        rw [htj] at htm hn
        generalize hT : t * 2 ^ j = T at *
        generalize hT2 : 2 * t * 2 ^ j = T2 at *
        have hb2 : b / 2 < 2 ^ j := by omega
        generalize hP : 2 ^ j = P at *
        rw [if_pos (show decide ((b : Int) > 0) = true by simpa using h1)]
        rw [Int.tmod_eq_emod_of_nonneg (a := (a : Int)) (by omega), Int.tmod_eq_emod_of_nonneg (a := (b : Int)) (by omega), Int.tdiv_eq_ediv_of_nonneg (a := (a : Int)) (by omega), Int.tdiv_eq_ediv_of_nonneg (a := (b : Int)) (by omega),
          w64 (n := (a : Int) / 2) (by omega) (by omega), w64 (n := (b : Int) / 2) (by omega) (by omega), w64 (n := (n : Int) + (t : Int)) (by omega) (by omega), w64 (n := 2 * (t : Int)) (by omega) (by omega),
          show ((a : Int) / 2) = ((a / 2 : Nat) : Int) by omega, show ((b : Int) / 2) = ((b / 2 : Nat) : Int) by omega, show 2 * (t : Int) = ((2 * t : Nat) : Int) by omega, show (n : Int) + (t : Int) = ((n + t : Nat) : Int) by omega]
        have hs := land_step a b
        have e0 : n + 2 * t * (a / 2 &&& b / 2) = n + t * (2 * (a / 2 &&& b / 2)) := by rw [Nat.mul_comm 2 t, Nat.mul_assoc]
        by_cases ha2 : (a : Int) % 2 = 1
        · rw [if_pos ha2]
          by_cases hb3 : (b : Int) % 2 = 1
          · rw [if_pos hb3, ih k (a / 2) (b / 2) (n + t) (2 * t) hb2 (by omega) (by omega) (by omega) (by omega) (by omega), hs, if_pos (show a % 2 = 1 ∧ b % 2 = 1 by omega)]
            congr 2
            rw [Nat.mul_add, Nat.mul_one, Nat.mul_comm 2 t, Nat.mul_assoc]; omega
          · rw [if_neg hb3, ih k (a / 2) (b / 2) n (2 * t) hb2 (by omega) (by omega) (by omega) (by omega) (by omega), hs, if_neg (show ¬ (a % 2 = 1 ∧ b % 2 = 1) by omega), Nat.zero_add, e0]
        · rw [if_neg ha2, ih k (a / 2) (b / 2) n (2 * t) hb2 (by omega) (by omega) (by omega) (by omega) (by omega), hs, if_neg (show ¬ (a % 2 = 1 ∧ b % 2 = 1) by omega), Nat.zero_add, e0]
      · obtain rfl : b = 0 := by omega
        simp
    · obtain rfl : a = 0 := by omega
      simp
theorem both_f (k : Nat) (a b : Int) (hk : 40 ≤ k) (ha : 0 ≤ a ∧ a ≤ 9223372036854775807) (hb : 0 ≤ b ∧ b ≤ 65535) : remoraref32_both.f k a b = some ((a.toNat &&& b.toNat : Nat) : Int) := by
  unfold remoraref32_both.f
  have := both_l0 16 k a.toNat b.toNat 0 1 (by omega) (by omega) (by omega) (by omega) (by decide) (by decide)
  rw [Int.toNat_of_nonneg ha.1, Int.toNat_of_nonneg hb.1] at this
  simpa using this
theorem refAgree_f (k : Nat) (a0 a1 a2 a3 a4 b0 b1 b2 b3 b4 : Int) (hk : 50 ≤ k) : remoraref32_Agree.f k a0 a1 a2 a3 a4 b0 b1 b2 b3 b4 = some (agS a0 a1 a2 a3 a4 b0 b1 b2 b3 b4) := by
  obtain ⟨k, rfl⟩ : ∃ m, k = m + 2 := ⟨k - 2, by omega⟩
  unfold remoraref32_Agree.f agS
  rw [refCheck_f, Option.bind_some, refCheck_f, Option.bind_some]
  have h2 : ¬ ((2 : Int) = 0) := by decide
  by_cases ha : OK a0 a1 a2 a3 a4
  · by_cases hb : OK b0 b1 b2 b3 b4
    · have ha' := ha
      have hb' := hb
      unfold OK at ha' hb'
      have main : remoraref32_Agree.j1 (k + 1) (mn a1 b1) (decide (mn a1 b1 < mx a0 b0)) a0 a1 a2 a3 a4 b0 b1 b2 b3 b4 = some (if mn a1 b1 < mx a0 b0 then (0, 0, 0, 0, 18) else (mn a1 b1, ((a2.toNat &&& b2.toNat : Nat) : Int), if mn a3 b3 = 0 then mx a3 b3 else mn a3 b3, mx a4 b4, 0)) := by
        simp only [remoraref32_Agree.j1]
        rw [both_f k a2 b2 (by omega) (by omega) (by omega)]
        by_cases h1 : mn a1 b1 < mx a0 b0
        · rw [if_pos (decide_eq_true h1), if_pos h1]
        · rw [if_neg (show ¬ decide (mn a1 b1 < mx a0 b0) = true by simpa using h1), if_neg h1, Option.bind_some, Option.bind_some]
          by_cases h3 : mn a3 b3 = 0
          · rw [if_pos h3, if_pos h3]
          · rw [if_neg h3, if_neg h3]
      simp only [ha, hb, if_true, and_self, remoraref32_Agree.j0, bne_self_eq_false, Bool.false_eq_true, if_false]
      by_cases h1 : mn a1 b1 < a0
      · rw [if_pos h1]
        have hlt : mn a1 b1 < mx a0 b0 := by unfold mx; split <;> omega
        rw [decide_eq_true hlt] at main
        exact main
      · rw [if_neg h1]
        have : decide (mn a1 b1 < b0) = decide (mn a1 b1 < mx a0 b0) := by
          congr 1
          rw [eq_iff_iff]
          unfold mx; split <;> omega
        rw [this]
        exact main
    · simp only [ha, hb, if_true, if_false, and_false]
      simp [remoraref32_Agree.j0]
  · simp only [ha, if_false, h2, false_and]
    simp [remoraref32_Agree.j0]
end Go.Proofs.Ytgjmcjpgajlgoaa.P
