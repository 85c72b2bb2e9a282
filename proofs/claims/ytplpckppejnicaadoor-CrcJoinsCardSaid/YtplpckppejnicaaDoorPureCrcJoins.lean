/- The law CrcJoins: Join agrees with the reference. For every two sums and every length. -/
import Derived.Test.YtplpckppejnicaaDoorCrcLin
import Derived.Test.YtplpckppejnicaaDoorPx14
import Derived.Test.YtplpckppejnicaaDoorPx13
import Derived.Test.YtplpckppejnicaaDoorPx12
import Derived.Test.YtplpckppejnicaaDoorPx15
namespace Go.Proofs.YtplpckppejnicaaDoor.Pure
open Go.RowKit Go.Proofs.YtplpckppejnicaaDoor.P Go.Proofs.YtplpckppejnicaaDoorW.PrintWords Go.Proofs.YtplpckppejnicaaDoorW.PrintLast Go.Proofs.YtplpckppejnicaaDoorW.PrintMore Go.Proofs.YtplpckppejnicaaDoor.Crc
theorem and_u32 (a b : Nat) (ha : a < 2 ^ 32) (hb : b < 2 ^ 32) : Go.bits .and .u32 a b = ((a &&& b : Nat) : Int) := by
  have ha' : a % 2 ^ 32 = a := Nat.mod_eq_of_lt ha
  have hb' : b % 2 ^ 32 = b := Nat.mod_eq_of_lt hb
  have e : Go.bits .and .u32 (a : Int) (b : Int) = IntKind.u32.wrap (((BitVec.ofInt 32 (a : Int) &&& BitVec.ofInt 32 (b : Int)).toNat : Nat) : Int) := rfl
  rw [e]
  simp only [BitVec.ofInt_natCast, BitVec.toNat_and, BitVec.toNat_ofNat, ha', hb']
  exact wraps_u32 _ (Int.natCast_nonneg _) (by exact_mod_cast Nat.lt_of_le_of_lt Nat.and_le_left ha)
theorem and_pow (a d : Nat) : a &&& 2 ^ d = (a.testBit d).toNat * 2 ^ d := by
  apply Nat.eq_of_testBit_eq
  intro i
  rw [Nat.testBit_and, Nat.testBit_two_pow]
  by_cases h : d = i
  · subst h
    cases hb : a.testBit d
    · simp
    · simp
  · cases hb : a.testBit d
    · simp [h]
    · simp [h]
theorem times_loop (a : Nat) (ha : a < 2 ^ 32) : ∀ (d k b w bit : Nat), d ≤ 32 → d + 5 ≤ k → b < 2 ^ 32 → w < 2 ^ 32 → (0 < d → bit = 2 ^ (d - 1)) →
    remoraref02_Times.l0 k (a : Int) (b : Int) (w : Int) (bit : Int) ((32 - d : Nat) : Int) = some ((w ^^^ prod d a b : Nat) : Int) := by
  intro d
  induction d with
  | zero =>
    intro k b w bit hd hk hb hw hbit
    obtain ⟨k, rfl⟩ : ∃ q, k = q + 1 := ⟨k - 1, by omega⟩
    simp only [remoraref02_Times.l0]
    rw [if_neg (by omega)]
    simp [prod]
  | succ d ih =>
    intro k b w bit hd hk hb hw hbit
    obtain ⟨k, rfl⟩ : ∃ q, k = q + 1 := ⟨k - 1, by omega⟩
    have e := hbit (by omega)
    rw [show d + 1 - 1 = d by omega] at e
    have hbl : bit < 2 ^ 32 := by rw [e]; exact Nat.pow_lt_pow_right (by decide) (by omega)
    have hsh : remoraref02_Shift.f k (b : Int) 1 = some ((sh b : Nat) : Int) := refShift_f k 1 b (by omega) (by omega) hb
    have hnb : Int.tdiv (bit : Int) 2 % 4294967296 = ((bit / 2 : Nat) : Int) := by rw [Int.tdiv_eq_ediv_of_nonneg (by omega)]; omega
    have hi : wrap64 (((32 - (d + 1) : Nat) : Int) + 1) = ((32 - d : Nat) : Int) := by rw [w64' (by omega) (by omega)]; omega
    have hb2 : 0 < d → bit / 2 = 2 ^ (d - 1) := fun h => by
      rw [e]
      obtain ⟨d, rfl⟩ : ∃ q, d = q + 1 := ⟨d - 1, by omega⟩
      rw [Nat.pow_succ]
      simp
    have hand : Go.bits .and .u32 (a : Int) (bit : Int) = (((a.testBit d).toNat * 2 ^ d : Nat) : Int) := by rw [and_u32 a bit ha hbl, e, and_pow]
    have htb : a.testBit d = decide (a / 2 ^ d % 2 = 1) := Nat.testBit_eq_decide_div_mod_eq
    simp only [remoraref02_Times.l0]
    rw [if_pos (by omega), hand, hsh, hnb, hi, Option.bind_some, Option.bind_some]
    have hpd : prod (d + 1) a b = (if a / 2 ^ d % 2 = 1 then b else 0) ^^^ prod d a (sh b) := rfl
    rw [hpd]
    by_cases ht : a / 2 ^ d % 2 = 1
    · have hne : ¬ (((a.testBit d).toNat * 2 ^ d : Nat) : Int) = 0 := by
        rw [htb, decide_eq_true ht]
        have := Nat.pow_pos (a := 2) (n := d) (by decide)
        simp only [Bool.toNat_true, Nat.one_mul]
        generalize 2 ^ d = Q at this
        omega
      rw [if_neg hne, if_pos ht, xor_u32 _ _ hw hb, ih k (sh b) (w ^^^ b) (bit / 2) (by omega) (by omega) (sh_lt32 b hb) (Nat.xor_lt_two_pow hw hb) hb2, Nat.xor_assoc]
    · have he : (((a.testBit d).toNat * 2 ^ d : Nat) : Int) = 0 := by rw [htb, decide_eq_false ht]; simp
      rw [if_pos he, if_neg ht, Nat.zero_xor, ih k (sh b) w (bit / 2) (by omega) (by omega) (sh_lt32 b hb) hw hb2]
theorem times_f (k a b : Nat) (hk : 40 ≤ k) (ha : a < 2 ^ 32) (hb : b < 2 ^ 32) : remoraref02_Times.f k (a : Int) (b : Int) = some ((prod 32 a b : Nat) : Int) := by
  unfold remoraref02_Times.f
  have := times_loop a ha 32 k b 0 2147483648 (by omega) (by omega) hb (by decide) (fun _ => by decide)
  rw [Nat.zero_xor] at this
  exact this
theorem join_loop (b : Nat) (hb : b < 2 ^ 32) : ∀ (d k n P w : Nat), n < 2 ^ d → d ≤ 63 → d + 45 ≤ k → w < 2 ^ 32 →
    remoraref02_Join.l0 k (b : Int) (n : Int) ((shM P 2147483648 : Nat) : Int) (w : Int) = some ((shM (P * n) w ^^^ b : Nat) : Int) := by
  intro d
  induction d with
  | zero =>
    intro k n P w hn hd hk hw
    obtain ⟨k, rfl⟩ : ∃ q, k = q + 1 := ⟨k - 1, by omega⟩
    have h0 : n = 0 := by simpa using hn
    subst h0
    simp only [remoraref02_Join.l0]
    rw [if_neg (by omega), xor_u32 _ _ hw hb]; rfl
  | succ d ih =>
    intro k n P w hn hd hk hw
    obtain ⟨k, rfl⟩ : ∃ q, k = q + 1 := ⟨k - 1, by omega⟩
    simp only [remoraref02_Join.l0]
    by_cases h0 : n = 0
    · subst h0
      rw [if_neg (by omega), xor_u32 _ _ hw hb]; rfl
    · have hn63 : n < 2 ^ 63 := Nat.lt_of_lt_of_le hn (Nat.pow_le_pow_right (by decide) hd)
      have hx : shM P 2147483648 < 2 ^ 32 := shM_lt _ _ (by decide)
      have hm : Int.tmod (n : Int) 2 = ((n % 2 : Nat) : Int) := by rw [Int.tmod_eq_emod_of_nonneg (by omega)]; omega
      have hq : wrap64 (Int.tdiv (n : Int) 2) = ((n / 2 : Nat) : Int) := by rw [Int.tdiv_eq_ediv_of_nonneg (by omega), w64' (by omega) (by omega)]; omega
      have hn2 : n / 2 < 2 ^ d := by rw [Nat.pow_succ] at hn; omega
      have hsq : prod 32 (shM P 2147483648) (shM P 2147483648) = shM (P + P) 2147483648 := by rw [prod_pow P _ hx, ← shM_add]
      have ht1 := times_f k _ _ (by omega) hx hw
      have ht2 := times_f k _ _ (by omega) hx hx
      rw [prod_pow P w hw] at ht1
      rw [hsq] at ht2
      rw [if_pos (by omega), hm, hq, ht1, ht2, Option.bind_some, Option.bind_some]
      clear hm hq
      by_cases hodd : n % 2 = 1
      · rw [if_pos (by omega), ih k (n / 2) (P + P) (shM P w) hn2 (by omega) (by omega) (shM_lt _ _ hw), ← shM_add]
        congr 4
        have : n = 2 * (n / 2) + 1 := by omega
        generalize n / 2 = z at this
        subst this
        rw [Nat.mul_add, Nat.add_mul, Nat.mul_one, Nat.add_comm, ← Nat.mul_assoc, Nat.mul_comm P 2, Nat.two_mul, Nat.add_mul]
      · rw [if_neg (by omega), Option.bind_some, ih k (n / 2) (P + P) w hn2 (by omega) (by omega) hw]
        congr 4
        have : n = 2 * (n / 2) := by omega
        generalize n / 2 = z at this
        subst this
        rw [← Nat.mul_assoc, Nat.mul_comm P 2, Nat.two_mul]
theorem CrcJoins : remoralaw02_CrcJoins.Pure := by
  intro a b n ha hb hn
  have ha' : 0 ≤ a ∧ a ≤ 4294967295 := by simp [Lit.wf, IntKind.min, IntKind.max, IntKind.signed, IntKind.bits] at ha; omega
  have hb' : 0 ≤ b ∧ b ≤ 4294967295 := by simp [Lit.wf, IntKind.min, IntKind.max, IntKind.signed, IntKind.bits] at hb; omega
  have hn' : -9223372036854775808 ≤ n ∧ n ≤ 9223372036854775807 := by simp [Lit.wf, IntKind.min, IntKind.max, IntKind.signed, IntKind.bits] at hn; omega
  obtain ⟨A, rfl⟩ := Int.eq_ofNat_of_zero_le ha'.1
  obtain ⟨B, rfl⟩ := Int.eq_ofNat_of_zero_le hb'.1
  refine ⟨200, ?_⟩
  unfold remoralaw02_CrcJoins.f
  have e1 : crc_Join.f (A : Int) (B : Int) n = some ((shM (8 * n.toNat) A ^^^ B : Nat) : Int) := by
    unfold crc_Join.f
    rw [if_pos ⟨⟨by omega, by omega⟩, ⟨by omega, by omega⟩, hn'⟩, Int.toNat_natCast, Int.toNat_natCast]
  have hs : remoraref02_Shift.f 200 2147483648 8 = some ((shM 8 2147483648 : Nat) : Int) := by
    have := refShift_f 200 8 2147483648 (by omega) (by omega) (by decide)
    rw [shN_shM] at this
    exact this
  have e2 : remoraref02_Join.f 200 (A : Int) (B : Int) n = some ((shM (8 * n.toNat) A ^^^ B : Nat) : Int) := by
    unfold remoraref02_Join.f
    rw [hs, Option.bind_some]
    by_cases h0 : 0 ≤ n
    · obtain ⟨N, rfl⟩ := Int.eq_ofNat_of_zero_le h0
      rw [Int.toNat_natCast]
      exact join_loop B (by omega) 63 200 N 8 A (by omega) (by omega) (by omega) (by omega)
    · rw [show n.toNat = 0 by omega, show (200 : Nat) = 199 + 1 from rfl]
      unfold remoraref02_Join.l0
      rw [if_neg (by omega), xor_u32 _ _ (by omega) (by omega)]; rfl
  rw [e1, e2, Option.bind_some, Option.bind_some, if_pos rfl]; rfl
end Go.Proofs.YtplpckppejnicaaDoor.Pure
