/- The rolling sums, in plain Lean: a sum's halves, the sum of a text; the program's functions and the reference's compute them. -/
import Derived.Test.YtnbekpmkjpjneaaNumSpec
import Derived.Test.YtnbekpmkjpjneaaPx1



set_option linter.unusedVariables false
set_option linter.unusedSimpArgs false
namespace Go.Proofs.Ytnbekpmkjpjneaa.P
open Go.RowKit Go.Proofs.YtnbekpmkjpjneaaW.PrintWords Go.Proofs.YtnbekpmkjpjneaaW.PrintLast Go.Proofs.YtnbekpmkjpjneaaW.PrintMore Go.Proofs.Ytnbekpmkjpjneaa.Num

theorem wf_u32 {x : Int} (h : (Lit.int .u32 x).wf = true) : 0 ≤ x ∧ x ≤ 4294967295 := by
  simp [Lit.wf, IntKind.min, IntKind.max, IntKind.signed, IntKind.bits] at h; omega
theorem wraps_u32 (n : Int) (h0 : 0 ≤ n) (h1 : n < 2 ^ 32) : IntKind.u32.wrap n = n := by rw [IntKind.wrap_u32]; omega
theorem and65535_u32 (x : Int) (h0 : 0 ≤ x) (h1 : x < 2 ^ 32) : Go.bits .and .u32 x 65535 = x % 65536 := bits_mask .u32 32 (by decide) wraps_u32 16 (by decide) x h0 h1
theorem or_u32 (a b : Int) (h0 : 0 ≤ a) (h1 : a < 65536) (h2 : 0 ≤ b) (h3 : b < 4294967296) (h4 : b % 65536 = 0) : Go.bits .or .u32 a b = a + b := by
  obtain ⟨x, rfl⟩ := Int.eq_ofNat_of_zero_le h0
  obtain ⟨y, rfl⟩ := Int.eq_ofNat_of_zero_le h2
  have hx : x < 2 ^ 16 := by omega
  have hy : y < 2 ^ 32 := by omega
  rw [(bits_nat .u32 32 (by decide) wraps_u32 x y (by omega) hy).2, Nat.or_comm]
  have hq : y = 2 ^ 16 * (y / 2 ^ 16) := by omega
  rw [hq, ← Nat.two_pow_add_eq_or_of_lt hx (y / 2 ^ 16)]
  omega
theorem and65535_i64 (x : Int) : Go.bits .and .i64 x 65535 = x % 65536 := by
  have h1 : Go.bits .and .i64 x 65535 = IntKind.i64.wrap (((BitVec.ofInt 64 x &&& BitVec.ofInt 64 65535).toNat : Nat) : Int) := rfl
  have h2 : (BitVec.ofInt 64 x &&& BitVec.ofInt 64 65535).toNat = (x % 18446744073709551616).toNat % 2 ^ 16 := by
    rw [BitVec.toNat_and, BitVec.toNat_ofInt, BitVec.toNat_ofInt, ← Nat.and_two_pow_sub_one_eq_mod]
    rfl
  rw [h1, h2, wraps_i64 _ (by omega) (by omega)]
  omega

/-- A sum of two halves, of any numbers. -/
def jn (x y : Int) : Int := x % 65536 + 65536 * (y % 65536)
theorem jn_range (x y : Int) : 0 ≤ jn x y ∧ jn x y ≤ 4294967295 := by unfold jn; omega
theorem jn_lo (x y : Int) : jn x y % 65536 = x % 65536 := by unfold jn; omega
theorem jn_hi (x y : Int) : jn x y / 65536 = y % 65536 := by unfold jn; omega
theorem jn_congr {x y x' y' : Int} (hx : x % 65536 = x' % 65536) (hy : y % 65536 = y' % 65536) : jn x y = jn x' y' := by unfold jn; rw [hx, hy]
theorem halves_f (a : Int) (h : 0 ≤ a ∧ a ≤ 4294967295) : roll_halves.f a = some (a % 65536, a / 65536) := by
  unfold roll_halves.f; rw [and65535_u32 a h.1 (by omega)]
theorem join_f (x y : Int) (hx : 0 ≤ x ∧ x ≤ 4294967295) : roll_join.f x y = some (jn x y) := by
  unfold roll_join.f
  rw [and65535_u32 x hx.1 (by omega), or_u32 _ _ (by omega) (by omega) (by omega) (by omega) (by omega)]
  unfold jn; congr 1; omega
def sIn (a c : Int) : Int := jn (a % 65536 + c + 31) (a / 65536 + (a % 65536 + c + 31))
def sOut (a n c : Int) : Int := jn (a % 65536 - c - 31) (a / 65536 - n * (c + 31))
def sJoin (a b n : Int) : Int := jn (a % 65536 + b % 65536) (a / 65536 + b / 65536 + n * (a % 65536))
theorem in_f (a n c : Int) (h : 0 ≤ a ∧ a ≤ 4294967295) (hc : 0 ≤ c ∧ c ≤ 255) : roll_In.f a n c = some (sIn a c) := by
  unfold roll_In.f
  rw [halves_f a h, Option.bind_some, join_f _ _ (by omega), Option.bind_some]
  unfold sIn
  congr 1
  apply jn_congr <;> simp only <;> omega
theorem mulmod (n x : Int) : ((n % 65536) * x) % 65536 = (n * x) % 65536 := by rw [Int.mul_emod, Int.emod_emod, ← Int.mul_emod]
theorem out_f (a n c : Int) (h : 0 ≤ a ∧ a ≤ 4294967295) (hc : 0 ≤ c ∧ c ≤ 255) : roll_Out.f a n c = some (sOut a n c) := by
  unfold roll_Out.f roll_small.f
  rw [halves_f a h, Option.bind_some, Option.bind_some, and65535_i64, join_f _ _ (by omega), Option.bind_some]
  unfold sOut
  congr 1
  have e1 : (c % 4294967296 + 31) % 4294967296 = c + 31 := by omega
  have e2 : n % 65536 % 4294967296 = n % 65536 := by omega
  have e3 := mulmod n (c + 31)
  rw [e1, e2]
  generalize n % 65536 * (c + 31) = p at e3 ⊢
  generalize n * (c + 31) = q at e3 ⊢
  apply jn_congr <;> simp only <;> omega
theorem sIn_range (a c : Int) : 0 ≤ sIn a c ∧ sIn a c ≤ 4294967295 := jn_range _ _
theorem sOut_range (a n c : Int) : 0 ≤ sOut a n c ∧ sOut a n c ≤ 4294967295 := jn_range _ _
theorem roll_f (a n c d : Int) (h : 0 ≤ a ∧ a ≤ 4294967295) (hc : 0 ≤ c ∧ c ≤ 255) (hd : 0 ≤ d ∧ d ≤ 255) : roll_Roll.f a n c d = some (sIn (sOut a n c) d) := by
  unfold roll_Roll.f
  rw [out_f a n c h hc, Option.bind_some, in_f _ n d (sOut_range _ _ _) hd, Option.bind_some]
theorem joinSums_f (a b n : Int) (ha : 0 ≤ a ∧ a ≤ 4294967295) (hb : 0 ≤ b ∧ b ≤ 4294967295) : roll_Join.f a b n = some (sJoin a b n) := by
  unfold roll_Join.f roll_small.f
  rw [halves_f a ha, Option.bind_some, halves_f b hb, Option.bind_some, Option.bind_some, and65535_i64, join_f _ _ (by omega), Option.bind_some]
  unfold sJoin
  congr 1
  have e2 : n % 65536 % 4294967296 = n % 65536 := by omega
  have e3 := mulmod n (a % 65536)
  rw [e2]
  simp only
  generalize n % 65536 * (a % 65536) = p at e3 ⊢
  generalize n * (a % 65536) = q at e3 ⊢
  apply jn_congr <;> omega

/-! ### the sum of a text -/
def sA : List Int → Int
  | [] => 0
  | c :: t => c + 31 + sA t
def sB : List Int → Int
  | [] => 0
  | c :: t => ((t.length : Int) + 1) * (c + 31) + sB t
theorem sA_append (a b : List Int) : sA (a ++ b) = sA a + sA b := by
  induction a with
  | nil => simp [sA]
  | cons c t ih => simp only [List.cons_append, sA, ih]; omega
theorem sB_append (a b : List Int) : sB (a ++ b) = sB a + sB b + (b.length : Int) * sA a := by
  induction a with
  | nil => simp [sA, sB]
  | cons c t ih =>
    simp only [List.cons_append, sA, sB, ih, List.length_append, Int.natCast_add]
    generalize c + 31 = X
    generalize (t.length : Int) = T
    generalize (b.length : Int) = B
    have h1 : (T + B + 1) * X = (T + 1) * X + B * X := by rw [← Int.add_mul]; congr 1; omega
    have h2 : B * (X + sA t) = B * X + B * sA t := Int.mul_add ..
    rw [h1, h2]
    omega
/-- The sum. -/
def sS (l : List Int) : Int := jn (sA l) (sB l)
theorem sS_range (l : List Int) : 0 ≤ sS l ∧ sS l ≤ 4294967295 := jn_range _ _
theorem sS_in (l : List Int) (c : Int) : sIn (sS l) c = sS (l ++ [c]) := by
  unfold sIn sS
  rw [jn_lo, jn_hi, sA_append, sB_append]
  apply jn_congr <;> simp [sA, sB] <;> omega
theorem sS_join (a b : List Int) : sJoin (sS a) (sS b) (b.length : Int) = sS (a ++ b) := by
  unfold sJoin sS
  rw [jn_lo, jn_hi, jn_lo, jn_hi, sA_append, sB_append]
  have e := mulmod (sA a) (b.length : Int)
  rw [Int.mul_comm, Int.mul_comm (sA a)] at e
  generalize (b.length : Int) * (sA a % 65536) = p at e ⊢
  generalize (b.length : Int) * sA a = q at e ⊢
  apply jn_congr <;> omega
theorem sS_out (c : Int) (t : List Int) : sOut (sS (c :: t)) ((t.length : Int) + 1) c = sS t := by
  unfold sOut sS
  rw [jn_lo, jn_hi]
  simp only [sA, sB]
  generalize ((t.length : Int) + 1) * (c + 31) = p
  apply jn_congr <;> omega
theorem of_l0 (l : List Int) (hb : Byt l) (hl : l.length ≤ 140737488355328) : ∀ (d k i : Nat), i + d = l.length → d + 1 ≤ k → roll_Of.l0 k (sS (l.take i)) l (l.length : Int) (i : Int) = some (sS l) := by
  intro d
  induction d with
  | zero =>
    intro k i hi hk
    obtain ⟨k, rfl⟩ : ∃ m, k = m + 1 := ⟨k - 1, by omega⟩
    simp only [roll_Of.l0]
    rw [if_neg (by omega), List.take_of_length_le (by omega)]
  | succ d ih =>
    intro k i hi hk
    obtain ⟨k, rfl⟩ : ∃ m, k = m + 1 := ⟨k - 1, by omega⟩
    simp only [roll_Of.l0]
    rw [if_pos (by omega), if_pos (by omega), if_pos (by omega), in_f _ _ _ (sS_range _) (rd_byt hb _), Option.bind_some, sS_in, w64 (n := (i : Int) + 1) (by omega) (by omega), show ((i : Int) + 1) = ((i + 1 : Nat) : Int) by omega]
    have ht : l.take i ++ [rd l (i : Int)] = l.take (i + 1) := by
      rw [List.take_succ_eq_append_getElem (by omega)]
      simp [rd, List.getD_eq_getElem?_getD, List.getElem?_eq_getElem (show i < l.length by omega)]
    rw [ht]
    exact ih k (i + 1) (by omega) (by omega)
theorem of_f (k : Nat) (l : List Int) (hk : l.length + 1 ≤ k) (hb : Byt l) (hl : l.length ≤ 140737488355328) : roll_Of.f k l = some (sS l) := by
  unfold roll_Of.f
  have := of_l0 l hb hl l.length k 0 (by omega) hk
  simpa [sS, sA, sB, jn] using this

/-! ### the reference -/
theorem whole_f (a b : Int) (ha : -9223372036854775808 ≤ a ∧ a ≤ 9223372036854775807) (hb : -9223372036854775808 ≤ b ∧ b ≤ 9223372036854775807) : remoraref04_whole.f a b = some (jn a b) := by
  have tm : ∀ x : Int, (Int.tmod x 65536 < 0 → wrap64 (Int.tmod x 65536 + 65536) = x % 65536) ∧ (¬ Int.tmod x 65536 < 0 → Int.tmod x 65536 = x % 65536) := by
    intro x
    have h := Int.emod_emod_of_dvd x (show (65536 : Int) ∣ 65536 from ⟨1, rfl⟩)
    have ht : Int.tmod x 65536 = if 0 ≤ x ∨ x % 65536 = 0 then x % 65536 else x % 65536 - 65536 := by
      rw [Int.tmod_eq_emod]
      have : (65536 : Int) ∣ x ↔ x % 65536 = 0 := Int.dvd_iff_emod_eq_zero
      split <;> rename_i h1
      · rw [if_pos (by rw [← this]; exact h1)]; omega
      · rw [if_neg (by rw [← this]; exact h1)]; simp
    rw [ht]
    split
    · exact ⟨fun h => by omega, fun _ => rfl⟩
    · exact ⟨fun _ => by rw [w64 (by omega) (by omega)]; omega, fun h => by omega⟩
  unfold remoraref04_whole.f jn
  by_cases h1 : Int.tmod a 65536 < 0
  · rw [if_pos h1, (tm a).1 h1]
    by_cases h2 : Int.tmod b 65536 < 0
    · rw [if_pos h2, (tm b).1 h2]; congr 1; omega
    · rw [if_neg h2, (tm b).2 h2]; congr 1; omega
  · rw [if_neg h1, (tm a).2 h1]
    by_cases h2 : Int.tmod b 65536 < 0
    · rw [if_pos h2, (tm b).1 h2]; congr 1; omega
    · rw [if_neg h2, (tm b).2 h2]; congr 1; omega
end Go.Proofs.Ytnbekpmkjpjneaa.P
