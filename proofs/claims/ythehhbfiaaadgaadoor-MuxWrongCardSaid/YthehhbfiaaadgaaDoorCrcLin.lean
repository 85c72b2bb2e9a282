/- The sum of bytes by the register's linear steps: what is xored, what stands behind, and when a seal fits. -/
import Derived.Test.YthehhbfiaaadgaaDoorCrcRef
import Derived.Test.YthehhbfiaaadgaaDoorCrcAlg
set_option linter.unusedVariables false
namespace Go.Proofs.YthehhbfiaaadgaaDoor.P
open Go.RowKit Go.Proofs.YthehhbfiaaadgaaDoorW.PrintWords Go.Proofs.YthehhbfiaaadgaaDoorW.PrintLast Go.Proofs.YthehhbfiaaadgaaDoorW.PrintMore Go.Proofs.YthehhbfiaaadgaaDoor.Crc
theorem shN_shM (n x : Nat) : shN n x = shM n x := by
  induction n generalizing x with
  | zero => rfl
  | succ n ih => exact ih (sh x)
/-- The register behind bytes. -/
def reg (x : Nat) (l : List Int) : Nat := l.foldl (fun x c => shM 8 (x ^^^ c.toNat)) x
theorem reg_nil (x : Nat) : reg x [] = x := rfl
theorem reg_cons (x : Nat) (c : Int) (l : List Int) : reg x (c :: l) = reg (shM 8 (x ^^^ c.toNat)) l := rfl
theorem reg_append (x : Nat) (a b : List Int) : reg x (a ++ b) = reg (reg x a) b := List.foldl_append ..
theorem byte_cons {c : Int} {l : List Int} (h : Byte (c :: l)) : (0 ≤ c ∧ c ≤ 255) ∧ Byte l := ⟨h c (by simp), fun x hx => h x (by simp [hx])⟩
theorem reg_lt (l : List Int) (hl : Byte l) : ∀ x : Nat, x < 2 ^ 32 → reg x l < 2 ^ 32 := by
  induction l with
  | nil => intro x hx; exact hx
  | cons c t ih =>
    intro x hx
    obtain ⟨hc, ht⟩ := byte_cons hl
    exact ih ht _ (shM_lt _ _ (Nat.xor_lt_two_pow hx (by omega)))
theorem crcFold_reg (l : List Int) (hl : Byte l) : ∀ x : Nat, x < 2 ^ 32 → crcFold (x : Int) l = (reg x l : Int) := by
  induction l with
  | nil => intro x _; rfl
  | cons c t ih =>
    intro x hx
    obtain ⟨hc, ht⟩ := byte_cons hl
    obtain ⟨d, rfl⟩ := Int.eq_ofNat_of_zero_le hc.1
    have hd : d < 256 := by omega
    have e : crcFold (x : Int) ((d : Int) :: t) = crcFold (crcByte (x : Int) (d : Int)) t := rfl
    rw [e, crcByte_sh x d hx hd, shN_shM, ih ht _ (shM_lt _ _ (Nat.xor_lt_two_pow hx (by omega)))]
    rfl
theorem ones_lt : 4294967295 < 2 ^ 32 := by decide
theorem crcSum_reg (l : List Int) (hl : Byte l) : crcSum l = ((4294967295 ^^^ reg 4294967295 l : Nat) : Int) := by
  unfold crcSum
  have := crcFold_reg l hl 4294967295 ones_lt
  rw [show ((4294967295 : Nat) : Int) = 4294967295 from rfl] at this
  rw [this, show (4294967295 : Int) = ((4294967295 : Nat) : Int) from rfl, xor_u32 _ _ ones_lt (reg_lt l hl _ ones_lt)]
theorem xor_swap (a b c d : Nat) : (a ^^^ b) ^^^ (c ^^^ d) = (a ^^^ c) ^^^ (b ^^^ d) := by
  rw [Nat.xor_assoc, Nat.xor_assoc, ← Nat.xor_assoc b c d, Nat.xor_comm b c, Nat.xor_assoc]
/-- What is xored ahead is xored behind. -/
theorem reg_xor (l : List Int) : ∀ x d : Nat, reg (x ^^^ d) l = reg x l ^^^ shM (8 * l.length) d := by
  induction l with
  | nil => intro x d; rfl
  | cons c t ih =>
    intro x d
    have e : (x ^^^ d) ^^^ c.toNat = (x ^^^ c.toNat) ^^^ d := by rw [Nat.xor_assoc, Nat.xor_comm d, ← Nat.xor_assoc]
    rw [reg_cons, reg_cons, e, shM_xor, ih, ← shM_add, show 8 * (c :: t).length = 8 + 8 * t.length by simp; omega]
/-- One bit that falls out. -/
theorem shM_bit (j m : Nat) (h : j ≤ m) : shM m (2 ^ j) = shM (m - j) 1 := by
  induction j generalizing m with
  | zero => rfl
  | succ j ih =>
    obtain ⟨m, rfl⟩ : ∃ q, m = q + 1 := ⟨m - 1, by omega⟩
    have e : sh (2 ^ (j + 1)) = 2 ^ j := by
      unfold sh
      rw [if_neg (by rw [Nat.pow_succ]; omega), Nat.pow_succ]; omega
    show shM m (sh (2 ^ (j + 1))) = _
    rw [e, ih m (by omega), show m + 1 - (j + 1) = m - j by omega]
theorem shM_shift (k v : Nat) : shM k (2 ^ k * v) = v := by
  induction k generalizing v with
  | zero => simp [shM]
  | succ k ih =>
    have e : sh (2 ^ (k + 1) * v) = 2 ^ k * v := by
      have h2 : 2 ^ (k + 1) * v = 2 * (2 ^ k * v) := by rw [Nat.pow_succ, Nat.mul_comm (2 ^ k) 2, Nat.mul_assoc]
      unfold sh
      rw [h2, if_neg (by omega)]; omega
    show shM k (sh (2 ^ (k + 1) * v)) = v
    rw [e, ih]
theorem xor_high (a b k : Nat) (ha : a < 2 ^ k) : a ^^^ 2 ^ k * b = a + 2 ^ k * b := by
  rw [Nat.add_comm, Nat.two_pow_add_eq_or_of_lt ha b]
  apply Nat.eq_of_testBit_eq
  intro i
  rw [Nat.testBit_xor, Nat.testBit_or]
  by_cases hi : i < k
  · have hz : (2 ^ k * b).testBit i = false := by rw [Nat.testBit_two_pow_mul, decide_eq_false (by omega), Bool.false_and]
    rw [hz]; simp
  · have hz : a.testBit i = false := Nat.testBit_lt_two_pow (Nat.lt_of_lt_of_le ha (Nat.pow_le_pow_right (by decide) (by omega)))
    rw [hz]; simp
/-- Four bytes go in at once. -/
theorem reg_four (x v0 v1 v2 v3 : Nat) (h0 : v0 < 256) (h1 : v1 < 256) (h2 : v2 < 256) (h3 : v3 < 256) : reg x [(v0 : Int), (v1 : Int), (v2 : Int), (v3 : Int)] = shM 32 (x ^^^ (v0 + 256 * v1 + 65536 * v2 + 16777216 * v3)) := by
  have e : v0 + 256 * v1 + 65536 * v2 + 16777216 * v3 = ((v0 ^^^ 2 ^ 8 * v1) ^^^ 2 ^ 16 * v2) ^^^ 2 ^ 24 * v3 := by
    have q1 := xor_high v0 v1 8 (by omega)
    have q2 := xor_high (v0 + 2 ^ 8 * v1) v2 16 (by omega)
    have q3 := xor_high (v0 + 2 ^ 8 * v1 + 2 ^ 16 * v2) v3 24 (by omega)
    rw [q1, q2, q3]
  rw [e]
  simp only [reg, List.foldl_cons, List.foldl_nil, Int.toNat_natCast]
  rw [← Nat.xor_assoc, ← Nat.xor_assoc, ← Nat.xor_assoc]
  rw [show (32 : Nat) = 24 + 8 from rfl, shM_add, shM_xor 24, shM_shift 24 v3, show (24 : Nat) = 16 + 8 from rfl, shM_add, shM_xor 16, shM_shift 16 v2, show (16 : Nat) = 8 + 8 from rfl, shM_add, shM_xor 8 _ (2 ^ 8 * v1), shM_shift 8 v1]
theorem digits (V : Nat) (hV : V < 2 ^ 32) (v0 v1 v2 v3 : Nat) (h0 : v0 < 256) (h1 : v1 < 256) (h2 : v2 < 256) (h3 : v3 < 256) : ([(v0 : Int), (v1 : Int), (v2 : Int), (v3 : Int)] = sealL (V : Int)) ↔ v0 + 256 * v1 + 65536 * v2 + 16777216 * v3 = V := by
  unfold sealL
  simp only [List.cons.injEq, and_true]
  omega
/-- When a seal fits. -/
theorem seal_fits (a t : List Int) (ha : Byte a) (ht : Byte t) (h4 : t.length = 4) : (t = sealL (crcSum a)) ↔ reg 4294967295 (a ++ t) = shM 32 4294967295 := by
  match t, h4 with
  | [t0, t1, t2, t3], _ =>
    have b0 := ht t0 (by simp)
    have b1 := ht t1 (by simp)
    have b2 := ht t2 (by simp)
    have b3 := ht t3 (by simp)
    obtain ⟨v0, rfl⟩ := Int.eq_ofNat_of_zero_le b0.1
    obtain ⟨v1, rfl⟩ := Int.eq_ofNat_of_zero_le b1.1
    obtain ⟨v2, rfl⟩ := Int.eq_ofNat_of_zero_le b2.1
    obtain ⟨v3, rfl⟩ := Int.eq_ofNat_of_zero_le b3.1
    have hR := reg_lt a ha 4294967295 ones_lt
    have hV : v0 + 256 * v1 + 65536 * v2 + 16777216 * v3 < 2 ^ 32 := by omega
    rw [crcSum_reg a ha, digits _ (Nat.xor_lt_two_pow ones_lt hR) _ _ _ _ (by omega) (by omega) (by omega) (by omega), reg_append, reg_four _ _ _ _ _ (by omega) (by omega) (by omega) (by omega)]
    generalize v0 + 256 * v1 + 65536 * v2 + 16777216 * v3 = V at hV
    generalize reg 4294967295 a = R at hR
    constructor
    · rintro rfl
      congr 1
      rw [Nat.xor_comm, Nat.xor_assoc, Nat.xor_self, Nat.xor_zero]
    · intro h
      have := shM_inj 32 _ _ (Nat.xor_lt_two_pow hR hV) ones_lt h
      rw [← this, Nat.xor_comm R V, Nat.xor_assoc, Nat.xor_self, Nat.xor_zero]
end Go.Proofs.YthehhbfiaaadgaaDoor.P
