/- The law CrcBursts: turned bits of sealed bytes, one at least, all among 32 in a row, are seen. For every slice of bytes, every place and every pattern. -/
import Derived.Test.YtplpckppejnicaaDoorCrcLin
import Derived.Test.YtplpckppejnicaaDoorPx10
namespace Go.Proofs.YtplpckppejnicaaDoor.Pure
open Go.RowKit Go.Proofs.YtplpckppejnicaaDoor.P Go.Proofs.YtplpckppejnicaaDoorW.PrintWords Go.Proofs.YtplpckppejnicaaDoorW.PrintLast Go.Proofs.YtplpckppejnicaaDoorW.PrintMore Go.Proofs.YtplpckppejnicaaDoor.Crc
theorem xor_u8 (a b : Nat) (ha : a < 2 ^ 8) (hb : b < 2 ^ 8) : Go.bits .xor .u8 a b = ((a ^^^ b : Nat) : Int) := by
  have ha' : a % 2 ^ 8 = a := Nat.mod_eq_of_lt ha
  have hb' : b % 2 ^ 8 = b := Nat.mod_eq_of_lt hb
  have e : Go.bits .xor .u8 (a : Int) (b : Int) = IntKind.u8.wrap (((BitVec.ofInt 8 (a : Int) ^^^ BitVec.ofInt 8 (b : Int)).toNat : Nat) : Int) := rfl
  rw [e]
  simp only [BitVec.ofInt_natCast, BitVec.toNat_xor, BitVec.toNat_ofNat, ha', hb']
  have hlt : a ^^^ b < 2 ^ 8 := Nat.xor_lt_two_pow ha hb
  rw [IntKind.wrap_u8]; omega
theorem and1_u32 (x : Nat) (hx : x < 2 ^ 32) : Go.bits .and .u32 (x : Int) 1 = ((x % 2 : Nat) : Int) := by
  have := bits_mask .u32 32 (by decide) wraps_u32 1 (by decide) (x : Int) (by omega) (by exact_mod_cast hx)
  rw [show (2 : Int) ^ 1 - 1 = 1 by decide, show (2 : Int) ^ 1 = 2 by decide] at this
  rw [this]; omega
/-- One bit of one byte turned: what becomes of the register. -/
theorem reg_flip (l : List Int) : ∀ (x q r : Nat), q < l.length → r < 8 → Byte l → reg x (l.set q (((l.getD q 0).toNat ^^^ 2 ^ r : Nat) : Int)) = reg x l ^^^ shM (8 * l.length - (8 * q + r)) 1 := by
  induction l with
  | nil => intro x q r hq; simp at hq
  | cons c t ih =>
    intro x q r hq hr hb
    obtain ⟨hc, ht⟩ := byte_cons hb
    cases q with
    | zero =>
      simp only [List.set_cons_zero, List.getD_cons_zero]
      rw [reg_cons, reg_cons, Int.toNat_natCast, ← Nat.xor_assoc, shM_xor, reg_xor, shM_bit r 8 (by omega), ← shM_add, show 8 - r + 8 * t.length = 8 * (c :: t).length - (8 * 0 + r) by simp; omega]
    | succ q =>
      simp only [List.set_cons_succ, List.getD_cons_succ]
      rw [reg_cons, reg_cons, ih _ q r (by simpa using hq) hr ht, show 8 * (c :: t).length - (8 * (q + 1) + r) = 8 * t.length - (8 * q + r) by simp; omega]
theorem byte_set {l : List Int} (h : Byte l) (q : Nat) (v : Nat) (hv : v < 256) : Byte (l.set q (v : Int)) := by
  intro x hx
  rcases List.mem_or_eq_of_mem_set hx with h1 | h1
  · exact h x h1
  · subst h1; omega
theorem mod_step (T i : Nat) : T % 2 ^ (i + 1) = T % 2 ^ i + 2 ^ i * (T / 2 ^ i % 2) := by
  rw [Nat.pow_succ, Nat.mod_mul]
set_option maxHeartbeats 2000000 in
/-- The loop: the bits of the pattern below i are turned. -/
theorem bursts_loop (T : Nat) (hT : T < 2 ^ 32) (s : List Int) (fr m : Nat) (hm : fr + m = 8 * s.length) (hm1 : 1 ≤ m) (hs : s.length ≤ 2000) (h4 : 4 ≤ s.length) (hseal : reg 4294967295 s = shM 32 4294967295) :
    ∀ (d i k : Nat) (x : List Int) (b : Bool), i + d = 32 → i ≤ m → 2 * d + 5 ≤ k → x.length = s.length → Byte x → reg 4294967295 x = reg 4294967295 s ^^^ shM m (T % 2 ^ i) → (b = true ↔ T % 2 ^ i ≠ 0) →
      remoralaw02_CrcBursts.l0 k (T : Int) x (fr : Int) b (i : Int) = some true := by
  have stop : ∀ (i k : Nat) (x : List Int) (b : Bool), i ≤ 32 → x.length = s.length → Byte x → reg 4294967295 x = reg 4294967295 s ^^^ shM m (T % 2 ^ i) → (b = true ↔ T % 2 ^ i ≠ 0) →
      remoralaw02_CrcBursts.j2 (k + 1) (T : Int) x (fr : Int) b (i : Int) false = some true := by
    intro i k x b hi hx hbx hreg hb
    simp only [remoralaw02_CrcBursts.j2]
    rw [if_neg (by decide)]
    cases b with
    | false =>
      unfold crc_Open.f
      rw [if_neg (by omega), if_pos (by omega)]
      split <;> rfl
    | true =>
      have hne := hb.1 rfl
      have e : crc_Open.f x = some ([], 6) := by
        unfold crc_Open.f
        rw [if_neg (by omega), if_pos (by omega), if_neg]
        intro hc
        have := (seal_fits _ _ (byte_take hbx _) (byte_drop hbx _) (by simp; omega)).1 hc
        rw [List.take_append_drop, hreg, hseal] at this
        have h0 : shM m (T % 2 ^ i) = 0 := by
          have h1 : shM 32 4294967295 ^^^ (shM 32 4294967295 ^^^ shM m (T % 2 ^ i)) = shM 32 4294967295 ^^^ shM 32 4294967295 := by rw [this]
          rw [← Nat.xor_assoc, Nat.xor_self, Nat.zero_xor] at h1
          exact h1
        exact hne (shM_nonzero m _ (Nat.lt_of_le_of_lt (Nat.mod_le _ _) hT) h0)
      rw [e, Option.bind_some]; rfl
  intro d
  induction d with
  | zero =>
    intro i k x b hi him hk hx hbx hreg hb
    obtain ⟨k, rfl⟩ : ∃ q, k = q + 2 := ⟨k - 2, by omega⟩
    obtain rfl : i = 32 := by omega
    simp only [remoralaw02_CrcBursts.l0]
    rw [if_neg (by omega)]
    exact stop 32 k x b (by omega) hx hbx hreg hb
  | succ d ih =>
    intro i k x b hi him hk hx hbx hreg hb
    obtain ⟨k, rfl⟩ : ∃ q, k = q + 2 := ⟨k - 2, by omega⟩
    simp only [remoralaw02_CrcBursts.l0]
    rw [if_pos (by omega), w64' (n := (fr : Int) + (i : Int)) (by omega) (by omega), w64' (n := 8 * (x.length : Int)) (by omega) (by omega)]
    by_cases hlt : i < m
    · rw [decide_eq_true (show (fr : Int) + (i : Int) < 8 * (x.length : Int) by omega)]
      simp only [remoralaw02_CrcBursts.j2]
      rw [if_pos trivial, if_pos (by omega)]
      have hsh : shr .u32 (T : Int) (i : Int) = ((T / 2 ^ i : Nat) : Int) := by
        unfold shr
        rw [Int.toNat_natCast, Nat.min_eq_left (by show i ≤ 32; omega), Int.natCast_ediv, Int.natCast_pow]
        rfl
      have hq : T / 2 ^ i < 2 ^ 32 := Nat.lt_of_le_of_lt (Nat.div_le_self _ _) hT
      rw [hsh, and1_u32 _ hq]
      have hstep := mod_step T i
      by_cases hbit : T / 2 ^ i % 2 = 1
      · rw [if_pos (by omega)]
        have ed : wrap64 (Int.tdiv (wrap64 ((fr : Int) + (i : Int))) 8) = (((fr + i) / 8 : Nat) : Int) := by
          rw [w64' (n := (fr : Int) + (i : Int)) (by omega) (by omega), Int.tdiv_eq_ediv_of_nonneg (by omega), w64' (by omega) (by omega)]; omega
        have em : Int.tmod (wrap64 ((fr : Int) + (i : Int))) 8 = (((fr + i) % 8 : Nat) : Int) := by
          rw [w64' (n := (fr : Int) + (i : Int)) (by omega) (by omega), Int.tmod_eq_emod_of_nonneg (by omega)]; omega
        rw [ed, em]
        clear ed em
        rw [if_pos (by omega), if_pos (by omega), if_pos (by omega), w64' (n := (i : Int) + 1) (by omega) (by omega), show ((i : Int) + 1) = ((i + 1 : Nat) : Int) by omega, Int.toNat_natCast]
        have hr : (fr + i) % 8 < 8 := Nat.mod_lt _ (by decide)
        have h2r : 2 ^ ((fr + i) % 8) < 256 := by
          have := Nat.pow_lt_pow_right (a := 2) (by decide) hr
          simpa using this
        have esh : shl .u8 1 (((fr + i) % 8 : Nat) : Int) = ((2 ^ ((fr + i) % 8) : Nat) : Int) := by
          unfold shl
          rw [Int.toNat_natCast, Nat.min_eq_left (by show (fr + i) % 8 ≤ 8; omega), Int.one_mul, IntKind.wrap_u8]
          have : ((2 : Int) ^ ((fr + i) % 8)) = ((2 ^ ((fr + i) % 8) : Nat) : Int) := by rw [Int.natCast_pow]; rfl
          rw [this]
          generalize 2 ^ ((fr + i) % 8) = P at h2r
          omega
        have hql : (fr + i) / 8 < x.length := by omega
        have hrd : rd x (((fr + i) / 8 : Nat) : Int) = x.getD ((fr + i) / 8) 0 := by unfold rd; rw [Int.toNat_natCast]
        have hbd : 0 ≤ x.getD ((fr + i) / 8) 0 ∧ x.getD ((fr + i) / 8) 0 ≤ 255 := by
          rw [List.getD_eq_getElem?_getD, List.getElem?_eq_getElem hql]
          exact hbx _ (List.getElem_mem hql)
        obtain ⟨v, hv⟩ := Int.eq_ofNat_of_zero_le hbd.1
        have hv2 : v < 256 := by omega
        rw [hrd, esh, hv, xor_u8 _ _ (by omega) (by omega)]
        have hflip := reg_flip x 4294967295 ((fr + i) / 8) ((fr + i) % 8) hql hr hbx
        rw [hv, Int.toNat_natCast] at hflip
        refine ih (i + 1) k _ true (by omega) (by omega) (by omega) (by simpa using hx) (byte_set hbx _ _ (Nat.xor_lt_two_pow (n := 8) (by omega) (by omega))) ?_ ?_
        · rw [hflip, hreg, Nat.xor_assoc, show 8 * x.length - (8 * ((fr + i) / 8) + (fr + i) % 8) = m - i by omega, ← shM_bit i m (by omega), ← shM_xor]
          congr 2
          have q := xor_high (T % 2 ^ i) 1 i (Nat.mod_lt _ (Nat.pow_pos (by decide)))
          rw [Nat.mul_one] at q
          rw [hstep, hbit, Nat.mul_one]
          exact q
        · constructor
          · intro _
            rw [hstep, hbit]
            have := Nat.pow_pos (a := 2) (n := i) (by decide)
            omega
          · intro _; rfl
      · have hbit0 : T / 2 ^ i % 2 = 0 := by omega
        rw [if_neg (by omega), w64' (n := (i : Int) + 1) (by omega) (by omega), show ((i : Int) + 1) = ((i + 1 : Nat) : Int) by omega]
        rw [hbit0, Nat.mul_zero, Nat.add_zero] at hstep
        exact ih (i + 1) k x b (by omega) (by omega) (by omega) hx hbx (by rw [hstep]; exact hreg) (by rw [hstep]; exact hb)
    · rw [decide_eq_false (show ¬ (fr : Int) + (i : Int) < 8 * (x.length : Int) by omega)]
      exact stop i k x b (by omega) hx hbx hreg hb
theorem CrcBursts : remoralaw02_CrcBursts.Pure := by
  intro l a t h1 h2 hw ha ht
  have hb := wf_byte hw
  have ha' : 0 ≤ a ∧ a ≤ 65535 := by simp [Lit.wf, IntKind.min, IntKind.max, IntKind.signed, IntKind.bits] at ha; omega
  have ht' : 0 ≤ t ∧ t ≤ 4294967295 := by simp [Lit.wf, IntKind.min, IntKind.max, IntKind.signed, IntKind.bits] at ht; omega
  obtain ⟨A, rfl⟩ := Int.eq_ofNat_of_zero_le ha'.1
  obtain ⟨T, rfl⟩ := Int.eq_ofNat_of_zero_le ht'.1
  refine ⟨100, ?_⟩
  unfold remoralaw02_CrcBursts.f
  by_cases c : (l.length : Int) > 600
  · rw [if_pos c]; rfl
  · rw [if_neg c]
    simp only [remoralaw02_CrcBursts.j0]
    by_cases c0 : ((T : Int) == 0) = true
    · rw [if_pos c0]; rfl
    · rw [if_neg c0]
      have e1 : crc_Seal.f l = some (l ++ sealL (crcSum l)) := by unfold crc_Seal.f; rw [if_pos (by omega)]
      have hl4 : (l ++ sealL (crcSum l)).length = l.length + 4 := by simp [sealL]
      have e8 : wrap64 (8 * ((l ++ sealL (crcSum l)).length : Int)) = 8 * (l.length + 4) := by rw [hl4, w64' (by omega) (by omega)]; omega
      rw [e1, Option.bind_some, e8, if_pos (by rw [hl4, w64' (by omega) (by omega)]; omega), if_neg (by omega), w64' (n := (A : Int)) (by omega) (by omega), Int.tmod_eq_emod_of_nonneg (by omega)]
      have ef : (A : Int) % (8 * ((l.length : Int) + 4)) = ((A % (8 * (l.length + 4)) : Nat) : Int) := by
        have en : (8 * ((l.length : Int) + 4)) = ((8 * (l.length + 4) : Nat) : Int) := by omega
        rw [en, ← Int.natCast_emod]
      have hlt : A % (8 * (l.length + 4)) < 8 * (l.length + 4) := Nat.mod_lt _ (by omega)
      rw [ef]
      generalize A % (8 * (l.length + 4)) = F at hlt
      refine bursts_loop T (by omega) (l ++ sealL (crcSum l)) F (8 * (l.length + 4) - F) (by rw [hl4]; omega) (by omega) (by omega) (by omega) ?_ 32 0 99 _ false (by omega) (by omega) (by omega) rfl (byte_append hb (sealL_byte _)) ?_ ?_
      · exact (seal_fits l _ hb (sealL_byte _) (by simp [sealL])).1 rfl
      · rw [show T % 2 ^ 0 = 0 by simp [Nat.mod_one], shM_zero, Nat.xor_zero]
      · rw [show T % 2 ^ 0 = 0 by simp [Nat.mod_one]]; simp
end Go.Proofs.YtplpckppejnicaaDoor.Pure
