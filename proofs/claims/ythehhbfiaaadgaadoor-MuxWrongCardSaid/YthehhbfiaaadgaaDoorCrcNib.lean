/- The program's step by the table is four steps of the register. -/
import Derived.Test.YthehhbfiaaadgaaDoorGT
import Derived.Test.YthehhbfiaaadgaaDoorCrcBits
namespace Go.Proofs.YthehhbfiaaadgaaDoor.P
open Go.RowKit Go.Proofs.YthehhbfiaaadgaaDoorW.PrintWords Go.Proofs.YthehhbfiaaadgaaDoorW.PrintLast Go.Proofs.YthehhbfiaaadgaaDoorW.PrintMore Go.Proofs.YthehhbfiaaadgaaDoor.Crc
theorem wraps_u32 (n : Int) (h0 : 0 ≤ n) (h1 : n < 2 ^ 32) : IntKind.u32.wrap n = n := by rw [IntKind.wrap_u32]; omega
theorem xor_u32 (a b : Nat) (ha : a < 2 ^ 32) (hb : b < 2 ^ 32) : Go.bits .xor .u32 a b = ((a ^^^ b : Nat) : Int) := by
  have ha' : a % 2 ^ 32 = a := Nat.mod_eq_of_lt ha
  have hb' : b % 2 ^ 32 = b := Nat.mod_eq_of_lt hb
  have e : Go.bits .xor .u32 (a : Int) (b : Int) = IntKind.u32.wrap (((BitVec.ofInt 32 (a : Int) ^^^ BitVec.ofInt 32 (b : Int)).toNat : Nat) : Int) := rfl
  rw [e]
  simp only [BitVec.ofInt_natCast, BitVec.toNat_xor, BitVec.toNat_ofNat, ha', hb']
  exact wraps_u32 _ (Int.natCast_nonneg _) (by exact_mod_cast Nat.xor_lt_two_pow ha hb)
theorem crcNib_sh (x : Nat) (hx : x < 2 ^ 32) : crcNib (x : Int) = ((sh (sh (sh (sh x))) : Nat) : Int) := by
  have h1 : Go.bits .and .u32 (x : Int) 15 = ((x % 16 : Nat) : Int) := by
    have := bits_mask .u32 32 (by decide) wraps_u32 4 (by decide) (x : Int) (by omega) (by exact_mod_cast hx)
    rw [show (2 : Int) ^ 4 - 1 = 15 by decide, show (2 : Int) ^ 4 = 16 by decide] at this
    rw [this]; omega
  have ht : ∀ r : Nat, r < 16 → crcTb (r : Int) = ((sh (sh (sh (sh r))) : Nat) : Int) ∧ sh (sh (sh (sh r))) < 2 ^ 32 := by decide
  obtain ⟨t1, t2⟩ := ht (x % 16) (Nat.mod_lt _ (by decide))
  have h2 : x = 16 * (x / 16) + x % 16 := by omega
  unfold crcNib
  rw [h1, t1, show (x : Int) / 16 = ((x / 16 : Nat) : Int) by omega, xor_u32 _ _ (by omega) t2]
  conv => rhs; rw [h2, sh4 _ _ (Nat.mod_lt _ (by decide))]
end Go.Proofs.YthehhbfiaaadgaaDoor.P
