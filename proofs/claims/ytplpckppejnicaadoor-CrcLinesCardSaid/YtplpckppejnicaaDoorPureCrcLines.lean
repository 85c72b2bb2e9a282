/- The law CrcLines: the sum of three texts' bytes xored is their sums xored. For every three slices of bytes. -/
import Derived.Test.YtplpckppejnicaaDoorCrcLin
import Derived.Test.YtplpckppejnicaaDoorPx5
set_option linter.unusedVariables false
namespace Go.Proofs.YtplpckppejnicaaDoor.Pure
open Go.RowKit Go.Proofs.YtplpckppejnicaaDoor.P Go.Proofs.YtplpckppejnicaaDoorW.PrintWords Go.Proofs.YtplpckppejnicaaDoorW.PrintLast Go.Proofs.YtplpckppejnicaaDoorW.PrintMore Go.Proofs.YtplpckppejnicaaDoor.Crc
theorem xor_u8 (a b : Nat) (ha : a < 2 ^ 8) (hb : b < 2 ^ 8) : Go.bits .xor .u8 a b = ((a ^^^ b : Nat) : Int) := by
  have ha' : a % 2 ^ 8 = a := Nat.mod_eq_of_lt ha
  have hb' : b % 2 ^ 8 = b := Nat.mod_eq_of_lt hb
  have e : Go.bits .xor .u8 (a : Int) (b : Int) = IntKind.u8.wrap (((BitVec.ofInt 8 (a : Int) ^^^ BitVec.ofInt 8 (b : Int)).toNat : Nat) : Int) := rfl
  rw [e]
  simp only [BitVec.ofInt_natCast, BitVec.toNat_xor, BitVec.toNat_ofNat, ha', hb']
  have hlt : a ^^^ b < 2 ^ 8 := Nat.xor_lt_two_pow ha hb
  rw [IntKind.wrap_u8]; omega
/-- Three bytes xored. -/
def x3 (a b c : Int) : Int := ((a.toNat ^^^ b.toNat ^^^ c.toNat : Nat) : Int)
theorem x3_bits (a b c : Int) (ha : 0 ≤ a ∧ a ≤ 255) (hb : 0 ≤ b ∧ b ≤ 255) (hc : 0 ≤ c ∧ c ≤ 255) : Go.bits .xor .u8 (Go.bits .xor .u8 a b) c = x3 a b c ∧ 0 ≤ x3 a b c ∧ x3 a b c ≤ 255 := by
  obtain ⟨a, rfl⟩ := Int.eq_ofNat_of_zero_le ha.1
  obtain ⟨b, rfl⟩ := Int.eq_ofNat_of_zero_le hb.1
  obtain ⟨c, rfl⟩ := Int.eq_ofNat_of_zero_le hc.1
  have h1 : a ^^^ b < 2 ^ 8 := Nat.xor_lt_two_pow (by omega) (by omega)
  have h2 : a ^^^ b ^^^ c < 2 ^ 8 := Nat.xor_lt_two_pow h1 (by omega)
  rw [xor_u8 a b (by omega) (by omega), xor_u8 _ c h1 (by omega)]
  unfold x3
  simp only [Int.toNat_natCast]
  refine ⟨trivial, by omega, ?_⟩
  generalize a ^^^ b ^^^ c = q at h2
  omega
def xs3 : List Int → List Int → List Int → List Int
  | a :: l, b :: m, c :: n => x3 a b c :: xs3 l m n
  | _, _, _ => []
theorem xs3_len : ∀ (l m n : List Int), l.length = m.length → m.length = n.length → (xs3 l m n).length = l.length
  | [], _, _, _, _ => by simp [xs3]
  | a :: l, b :: m, c :: n, h1, h2 => by simp only [xs3, List.length_cons]; rw [xs3_len l m n (by simpa using h1) (by simpa using h2)]
  | a :: l, [], _, h1, _ => by simp at h1
  | a :: l, b :: m, [], _, h2 => by simp at h2
theorem xs3_get : ∀ (l m n : List Int) (i : Nat) (h : i < l.length) (h1 : l.length = m.length) (h2 : m.length = n.length), (xs3 l m n)[i]'(by rw [xs3_len l m n h1 h2]; exact h) = x3 l[i] (m[i]'(by omega)) (n[i]'(by omega))
  | a :: l, b :: m, c :: n, 0, _, _, _ => rfl
  | a :: l, b :: m, c :: n, i + 1, h, h1, h2 => by simpa [xs3] using xs3_get l m n i (by simpa using h) (by simpa using h1) (by simpa using h2)
  | [], _, _, _, h, _, _ => by simp at h
  | a :: l, [], _, _, _, h1, _ => by simp at h1
  | a :: l, b :: m, [], _, _, _, h2 => by simp at h2
theorem xs3_byte : ∀ (l m n : List Int), Byte l → Byte m → Byte n → Byte (xs3 l m n)
  | [], _, _, _, _, _ => fun x hx => by simp [xs3] at hx
  | a :: l, b :: m, c :: n, h1, h2, h3 => fun x hx => by
    rcases List.mem_cons.1 hx with rfl | hx
    · exact (x3_bits a b c (h1 a (by simp)) (h2 b (by simp)) (h3 c (by simp))).2
    · exact xs3_byte l m n (fun y hy => h1 y (by simp [hy])) (fun y hy => h2 y (by simp [hy])) (fun y hy => h3 y (by simp [hy])) x hx
  | a :: l, [], _, _, _, _ => fun x hx => by simp [xs3] at hx
  | a :: l, b :: m, [], _, _, _ => fun x hx => by simp [xs3] at hx
theorem swap6 (x y z a b c : Nat) : (x ^^^ y ^^^ z) ^^^ (a ^^^ b ^^^ c) = (x ^^^ a) ^^^ (y ^^^ b) ^^^ (z ^^^ c) := by
  apply Nat.eq_of_testBit_eq
  intro i
  simp only [Nat.testBit_xor]
  cases x.testBit i <;> cases y.testBit i <;> cases z.testBit i <;> cases a.testBit i <;> cases b.testBit i <;> cases c.testBit i <;> rfl
theorem reg_three : ∀ (l m n : List Int) (x y z : Nat), l.length = m.length → m.length = n.length → reg (x ^^^ y ^^^ z) (xs3 l m n) = reg x l ^^^ reg y m ^^^ reg z n
  | [], [], [], _, _, _, _, _ => rfl
  | a :: l, b :: m, c :: n, x, y, z, h1, h2 => by
    have := reg_three l m n (shM 8 (x ^^^ a.toNat)) (shM 8 (y ^^^ b.toNat)) (shM 8 (z ^^^ c.toNat)) (by simpa using h1) (by simpa using h2)
    simp only [xs3, reg_cons]
    rw [← this]
    congr 1
    unfold x3
    rw [Int.toNat_natCast, swap6, shM_xor, shM_xor]
  | [], b :: m, _, _, _, _, h1, _ => by simp at h1
  | [], [], c :: n, _, _, _, _, h2 => by simp at h2
  | a :: l, [], _, _, _, _, h1, _ => by simp at h1
  | a :: l, b :: m, [], _, _, _, _, h2 => by simp at h2
theorem sum_three (l m n : List Int) (hl : Byte l) (hm : Byte m) (hn : Byte n) (h1 : l.length = m.length) (h2 : m.length = n.length) :
    crcSum (xs3 l m n) = Go.bits .xor .u32 (Go.bits .xor .u32 (crcSum l) (crcSum m)) (crcSum n) := by
  have r1 := reg_lt l hl 4294967295 ones_lt
  have r2 := reg_lt m hm 4294967295 ones_lt
  have r3 := reg_lt n hn 4294967295 ones_lt
  have q1 : 4294967295 ^^^ reg 4294967295 l < 2 ^ 32 := Nat.xor_lt_two_pow ones_lt r1
  have q2 : 4294967295 ^^^ reg 4294967295 m < 2 ^ 32 := Nat.xor_lt_two_pow ones_lt r2
  have q3 : 4294967295 ^^^ reg 4294967295 n < 2 ^ 32 := Nat.xor_lt_two_pow ones_lt r3
  have h := reg_three l m n 4294967295 4294967295 4294967295 h1 h2
  have e : (4294967295 ^^^ 4294967295 ^^^ 4294967295 : Nat) = 4294967295 := by decide
  rw [e] at h
  rw [crcSum_reg _ (xs3_byte l m n hl hm hn), crcSum_reg l hl, crcSum_reg m hm, crcSum_reg n hn, xor_u32 _ _ q1 q2, xor_u32 _ _ (Nat.xor_lt_two_pow q1 q2) q3, h]
  congr 1
  rw [← swap6, e]
theorem mn_le (a b : Int) : mn a b ≤ a ∧ mn a b ≤ b ∧ (mn a b = a ∨ mn a b = b) := by unfold mn; split <;> omega
theorem lines_loop (a b c : List Int) (ha : Byte a) (hb : Byte b) (hc : Byte c) (n : Nat) (hn : n ≤ 600) (h1 : n ≤ a.length) (h2 : n ≤ b.length) (h3 : n ≤ c.length) :
    ∀ (d i k : Nat) (x : List Int), i + d = n → d < k → x.length = n → (∀ j, j < i → x[j]? = (xs3 (a.take n) (b.take n) (c.take n))[j]?) → remoralaw02_CrcLines.l0 k a b c (n : Int) x (i : Int) = some true := by
  have la : (a.take n).length = n := by simp; omega
  have lb : (b.take n).length = n := by simp; omega
  have lc : (c.take n).length = n := by simp; omega
  have lx := xs3_len (a.take n) (b.take n) (c.take n) (by omega) (by omega)
  intro d
  induction d with
  | zero =>
    intro i k x hi hk hx hfill
    obtain ⟨k, rfl⟩ : ∃ q, k = q + 1 := ⟨k - 1, by omega⟩
    have e : x = xs3 (a.take n) (b.take n) (c.take n) := by
      apply List.ext_getElem?
      intro j
      by_cases hj : j < n
      · exact hfill j (by omega)
      · rw [List.getElem?_eq_none (by omega), List.getElem?_eq_none (by omega)]
    simp only [remoralaw02_CrcLines.l0]
    rw [if_neg (by omega)]
    simp only [crc_Of1.f, Option.bind_some]
    rw [if_pos (by omega), if_pos (by omega), if_pos (by omega), if_pos (by omega), Int.toNat_natCast, e, if_pos (sum_three _ _ _ (byte_take ha n) (byte_take hb n) (byte_take hc n) (by omega) (by omega))]
    rfl
  | succ d ih =>
    intro i k x hi hk hx hfill
    obtain ⟨k, rfl⟩ : ∃ q, k = q + 1 := ⟨k - 1, by omega⟩
    have ra : rd a (i : Int) = a[i]'(by omega) := by simp [rd, List.getD_eq_getElem?_getD, List.getElem?_eq_getElem (show i < a.length by omega)]
    have rb : rd b (i : Int) = b[i]'(by omega) := by simp [rd, List.getD_eq_getElem?_getD, List.getElem?_eq_getElem (show i < b.length by omega)]
    have rc : rd c (i : Int) = c[i]'(by omega) := by simp [rd, List.getD_eq_getElem?_getD, List.getElem?_eq_getElem (show i < c.length by omega)]
    have hx3 := x3_bits _ _ _ (ha _ (List.getElem_mem (show i < a.length by omega))) (hb _ (List.getElem_mem (show i < b.length by omega))) (hc _ (List.getElem_mem (show i < c.length by omega)))
    simp only [remoralaw02_CrcLines.l0]
    rw [if_pos (by omega), if_pos (by omega), if_pos (by omega), if_pos (by omega), if_pos (by omega), if_pos (by omega), ra, rb, rc, hx3.1, w64' (n := (i : Int) + 1) (by omega) (by omega), show ((i : Int) + 1) = ((i + 1 : Nat) : Int) by omega, Int.toNat_natCast]
    refine ih (i + 1) k _ (by omega) (by omega) (by simpa using hx) (fun j hj => ?_)
    by_cases hji : j = i
    · subst hji
      rw [List.getElem?_set_self (by omega), List.getElem?_eq_getElem (by omega), xs3_get _ _ _ j (by omega) (by omega) (by omega)]
      simp
    · rw [List.getElem?_set_ne (by omega)]
      exact hfill j (by omega)
theorem CrcLines : remoralaw02_CrcLines.Pure := by
  intro a b c _ _ hwa _ _ hwb _ _ hwc
  refine ⟨700, ?_⟩
  unfold remoralaw02_CrcLines.f
  have m1 := mn_le (a.length : Int) (b.length : Int)
  have m2 := mn_le (mn (a.length : Int) (b.length : Int)) (c.length : Int)
  by_cases h : mn (mn (a.length : Int) (b.length : Int)) (c.length : Int) > 600
  · rw [if_pos h]; rfl
  · rw [if_neg h]
    obtain ⟨n, hn⟩ := Int.eq_ofNat_of_zero_le (show 0 ≤ mn (mn (a.length : Int) (b.length : Int)) (c.length : Int) by omega)
    rw [hn] at h m2 ⊢
    rw [if_pos (by omega), if_pos (by omega), Int.toNat_natCast]
    exact lines_loop a b c (wf_byte hwa) (wf_byte hwb) (wf_byte hwc) n (by omega) (by omega) (by omega) (by omega) n 0 700 _ (by omega) (by omega) (by simp) (fun j hj => absurd hj (by omega))
end Go.Proofs.YtplpckppejnicaaDoor.Pure
