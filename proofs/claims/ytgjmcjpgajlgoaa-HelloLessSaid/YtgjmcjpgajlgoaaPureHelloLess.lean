/- The law HelloLess: a deal of fewer features and of a lesser block that may be still keeps to an offer; one of a version above its High doesn't. For every two offers. -/
import Derived.Test.YtgjmcjpgajlgoaaHelloMeet
import Derived.Test.YtgjmcjpgajlgoaaPx11
namespace Go.Proofs.Ytgjmcjpgajlgoaa.Pure
open Go.RowKit Go.Proofs.Ytgjmcjpgajlgoaa.P Go.Proofs.YtgjmcjpgajlgoaaW.PrintWords Go.Proofs.YtgjmcjpgajlgoaaW.PrintLast Go.Proofs.YtgjmcjpgajlgoaaW.PrintMore Go.Proofs.Ytgjmcjpgajlgoaa.Num
/-- A bit taken out of what a mask lets by. -/
theorem clear_bit (F A i : Nat) (h : F &&& A = F) (ho : F / 2 ^ i % 2 = 1) : (F - 2 ^ i) &&& A = F - 2 ^ i := by
  have hp : 0 < 2 ^ i := Nat.two_pow_pos i
  have hF : F = 2 ^ i * (F / 2 ^ i) + F % 2 ^ i := (Nat.div_add_mod F (2 ^ i)).symm
  have hlt : F % 2 ^ i < 2 ^ i := Nat.mod_lt _ hp
  generalize F / 2 ^ i = q at *
  generalize F % 2 ^ i = r at *
  obtain ⟨p, rfl⟩ : ∃ p, q = p + 1 := ⟨q - 1, by omega⟩
  have hG : F - 2 ^ i = 2 ^ i * p + r := by rw [hF, Nat.mul_add, Nat.mul_one]; omega
  have hb : ∀ j, (F - 2 ^ i).testBit j = true → F.testBit j = true := by
    intro j
    rw [hG, hF, Nat.testBit_two_pow_mul_add p hlt, Nat.testBit_two_pow_mul_add (p + 1) hlt]
    by_cases hj : j < i
    · rw [if_pos hj, if_pos hj]; exact id
    · rw [if_neg hj, if_neg hj]
      generalize j - i = m
      cases m with
      | zero => simp only [Nat.testBit_zero, decide_eq_true_eq]; omega
      | succ m => rw [Nat.testBit_succ, Nat.testBit_succ, show p / 2 = (p + 1) / 2 by omega]; exact id
  apply Nat.eq_of_testBit_eq
  intro j
  rw [Nat.testBit_and]
  by_cases hj : (F - 2 ^ i).testBit j = true
  · have h1 := hb j hj
    rw [← h, Nat.testBit_and, Bool.and_eq_true] at h1
    rw [hj, h1.2]; rfl
  · have : (F - 2 ^ i).testBit j = false := by simpa using hj
    rw [this]; rfl
theorem less_l0 (c : Int) (hc : 0 ≤ c ∧ c ≤ 255) (A0 A1 A2 A3 A4 B0 B1 B2 B3 B4 D0 D1 D2 D3 V X W S : Int) : ∀ (d k i : Nat), (i : Int) + d = c % 16 → d + 1 ≤ k →
    ∃ k', k = k' + d + 1 ∧ remoralaw32_HelloLess.l0 k c ((2 ^ i : Nat) : Int) (i : Int) A0 A1 A2 A3 A4 B0 B1 B2 B3 B4 D0 D1 D2 D3 V X W S =
      (if Int.tmod (wrap64 (Int.tdiv X ((2 ^ (c % 16).toNat : Nat) : Int))) 2 = 1 then remoralaw32_HelloLess.j1 k' A0 A1 A2 A3 A4 B0 B1 B2 B3 B4 D0 D1 D2 D3 V (wrap64 (X - ((2 ^ (c % 16).toNat : Nat) : Int))) W S
       else remoralaw32_HelloLess.j1 k' A0 A1 A2 A3 A4 B0 B1 B2 B3 B4 D0 D1 D2 D3 V X W S) := by
  intro d
  have e16 : Int.tmod (wrap64 c) 16 = c % 16 := by rw [w64 (by omega) (by omega), Int.tmod_eq_emod_of_nonneg (by omega)]
  induction d with
  | zero =>
    intro k i hi hk
    obtain ⟨k, rfl⟩ : ∃ m, k = m + 1 := ⟨k - 1, by omega⟩
    have hp : 0 < 2 ^ i := Nat.two_pow_pos i
    refine ⟨k, by omega, ?_⟩
    simp only [remoralaw32_HelloLess.l0]
    rw [e16, if_neg (by omega), if_neg (by omega), show (c % 16).toNat = i by omega]
  | succ d ih =>
    intro k i hi hk
    obtain ⟨k, rfl⟩ : ∃ m, k = m + 1 := ⟨k - 1, by omega⟩
    obtain ⟨k', hk', h⟩ := ih k (i + 1) (by omega) (by omega)
    refine ⟨k', by omega, ?_⟩
    simp only [remoralaw32_HelloLess.l0]
    have hp : 2 ^ i ≤ 2 ^ 15 := Nat.pow_le_pow_right (by decide) (by omega)
    have hp1 : 0 < 2 ^ i := Nat.two_pow_pos i
    rw [e16, if_pos (by omega), w64 (n := 2 * ((2 ^ i : Nat) : Int)) (by omega) (by omega), w64 (n := (i : Int) + 1) (by omega) (by omega), ← h]
    congr 1
    rw [Nat.pow_succ]; omega
theorem HelloLess : remoralaw32_HelloLess.Pure := by
  intro a0 a1 a2 a3 a4 b0 b1 b2 b3 b4 c _ _ _ _ _ _ _ _ _ _ hc
  have hc' := wf_u8 hc
  refine ⟨40, ?_⟩
  unfold remoralaw32_HelloLess.f
  rw [agree_f, Option.bind_some]
  by_cases h0 : (agS a0 a1 a2 a3 a4 b0 b1 b2 b3 b4).2.2.2.2 = 0
  · rw [if_pos h0]
    obtain ⟨ha, hb, hm, e⟩ := agS_ok h0
    have m1 := agS_meets ha hb hm
    have m2 : Mt (mn a1 b1) ((a2.toNat &&& b2.toNat : Nat) : Int) (if mn a3 b3 = 0 then mx a3 b3 else mn a3 b3) (mx a4 b4) b0 b1 b2 b3 b4 := by
      have c1 : ∀ x y, mn x y = mn y x := by intro x y; unfold mn; split <;> split <;> omega
      have c2 : ∀ x y, mx x y = mx y x := by intro x y; unfold mx; split <;> split <;> omega
      have := agS_meets hb ha (by rw [c1 b1 a1, c2 b0 a0]; exact hm)
      rwa [c1 b1 a1, c1 b3 a3, c2 b3 a3, c2 b4 a4, Nat.and_comm] at this
    rw [e]
    simp only
    generalize hF : a2.toNat &&& b2.toNat = F at *
    generalize mn a1 b1 = V at *
    generalize (if mn a3 b3 = 0 then mx a3 b3 else mn a3 b3) = W at *
    generalize mx a4 b4 = S at *
    have hFl : F ≤ 65535 := by
      have := land_le a2.toNat b2.toNat
      unfold OK at hb; omega
    obtain ⟨i, hi⟩ : ∃ i : Nat, (i : Int) = c % 16 := ⟨(c % 16).toNat, by omega⟩
    obtain ⟨k', hk', h⟩ := less_l0 c hc' a0 a1 a2 a3 a4 b0 b1 b2 b3 b4 V (F : Int) W S V (F : Int) W S i 40 0 (by omega) (by omega)
    have h' := h
    simp only [Nat.pow_zero, Int.natCast_one, Int.natCast_zero] at h'
    refine Eq.trans h' ?_
    rw [show (c % 16).toNat = i by omega]
    have hp : 2 ^ i ≤ 2 ^ 15 := Nat.pow_le_pow_right (by decide) (by omega)
    have hp1 : 0 < 2 ^ i := Nat.two_pow_pos i
    -- whatever features are left, they are let by
    have fin : ∀ G : Nat, G ≤ 65535 → G &&& a2.toNat = G → G &&& b2.toNat = G → remoralaw32_HelloLess.j1 k' a0 a1 a2 a3 a4 b0 b1 b2 b3 b4 V (F : Int) W S V (G : Int) W S = some true := by
      intro G hG g1 g2
      have fin2 : ∀ W' : Int, Mt V (G : Int) W' S a0 a1 a2 a3 a4 → Mt V (G : Int) W' S b0 b1 b2 b3 b4 → remoralaw32_HelloLess.j2 (k' - 1) a0 a1 a2 a3 a4 b0 b1 b2 b3 b4 V (F : Int) W S V (G : Int) W' S = some true := by
        intro W' n1 n2
        obtain ⟨q, hq⟩ : ∃ q, k' - 1 = q + 1 := ⟨k' - 2, by omega⟩
        rw [hq]
        simp only [remoralaw32_HelloLess.j2]
        rw [meets_f _ _ _ _ _ _ _ _ _ (by omega), Option.bind_some, decide_eq_true n1]
        simp only [if_true]
        rw [meets_f _ _ _ _ _ _ _ _ _ (by omega), Option.bind_some, decide_eq_true n2]
        simp only [if_true]
        have n3 : ¬ Mt (wrap64 (a1 + 1)) (F : Int) W S a0 a1 a2 a3 a4 := by
          intro n
          have := n.2.1
          unfold OK at ha
          rw [w64 (by omega) (by omega)] at this
          omega
        rw [meets_f _ _ _ _ _ _ _ _ _ (by omega), Option.bind_some, decide_eq_false n3]
        simp only [Bool.false_eq_true, if_false]
        exact awake_end
      obtain ⟨q, hq⟩ : ∃ q, k' = q + 1 := ⟨k' - 1, by omega⟩
      have fin2' := fin2
      rw [hq, Nat.add_sub_cancel] at fin2'
      rw [hq]
      simp only [remoralaw32_HelloLess.j1]
      obtain ⟨_, v1, _, _, s1, w1⟩ := m1
      obtain ⟨_, v2, _, _, s2, w2⟩ := m2
      by_cases hw : W > 16
      · rw [if_pos hw]
        refine fin2' 16 ⟨ha, v1, by omega, by rw [Int.toNat_natCast]; exact g1, s1, by omega⟩ ⟨hb, v2, by omega, by rw [Int.toNat_natCast]; exact g2, s2, by omega⟩
      · rw [if_neg hw]
        exact fin2' W ⟨ha, v1, by omega, by rw [Int.toNat_natCast]; exact g1, s1, w1⟩ ⟨hb, v2, by omega, by rw [Int.toNat_natCast]; exact g2, s2, w2⟩
    have f1 : F &&& a2.toNat = F := by rw [← hF]; exact land_self _ _
    have f2 : F &&& b2.toNat = F := by rw [← hF]; exact land_self' _ _
    have hdiv : Int.tdiv (F : Int) ((2 ^ i : Nat) : Int) = ((F / 2 ^ i : Nat) : Int) := by rw [Int.tdiv_eq_ediv_of_nonneg (by omega)]; rfl
    have hdl : F / 2 ^ i ≤ F := Nat.div_le_self _ _
    rw [hdiv]
    obtain ⟨q, hq⟩ : ∃ q, F / 2 ^ i = q := ⟨_, rfl⟩
    rw [hq] at hdl ⊢
    rw [w64 (n := (q : Int)) (by omega) (by omega), Int.tmod_eq_emod_of_nonneg (by omega)]
    by_cases ho : (q : Int) % 2 = 1
    · rw [if_pos ho]
      have ho' : F / 2 ^ i % 2 = 1 := by rw [hq]; omega
      have hge : 2 ^ i ≤ F := by
        rcases Nat.lt_or_ge F (2 ^ i) with hlt | hge
        · rw [Nat.div_eq_of_lt hlt] at ho'; omega
        · exact hge
      rw [w64 (n := (F : Int) - ((2 ^ i : Nat) : Int)) (by omega) (by omega), show (F : Int) - ((2 ^ i : Nat) : Int) = ((F - 2 ^ i : Nat) : Int) by omega]
      exact fin _ (by omega) (clear_bit F _ i f1 ho') (clear_bit F _ i f2 ho')
    · rw [if_neg ho]
      exact fin F hFl f1 f2
  · rw [if_neg h0]; exact awake_end
end Go.Proofs.Ytgjmcjpgajlgoaa.Pure
