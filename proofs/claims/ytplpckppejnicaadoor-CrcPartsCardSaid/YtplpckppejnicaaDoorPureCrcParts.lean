/- The law CrcParts: what stands in three parts joined has the sum of the whole. For every slice of bytes and every two cuts. -/
import Derived.Test.YtplpckppejnicaaDoorCrcLin
import Derived.Test.YtplpckppejnicaaDoorPx13
import Derived.Test.YtplpckppejnicaaDoorPx17
set_option linter.unusedVariables false
namespace Go.Proofs.YtplpckppejnicaaDoor.Pure
open Go.RowKit Go.Proofs.YtplpckppejnicaaDoor.P Go.Proofs.YtplpckppejnicaaDoorW.PrintWords Go.Proofs.YtplpckppejnicaaDoorW.PrintLast Go.Proofs.YtplpckppejnicaaDoorW.PrintMore Go.Proofs.YtplpckppejnicaaDoor.Crc
theorem join_sum (x y : List Int) (hx : Byte x) (hy : Byte y) (n : Int) (hn : n = (y.length : Int)) (hb : y.length ≤ 1000000) : crc_Join.f (crcSum x) (crcSum y) n = some (crcSum (x ++ y)) := by
  have rx := reg_lt x hx 4294967295 ones_lt
  have ry := reg_lt y hy 4294967295 ones_lt
  have qx : 4294967295 ^^^ reg 4294967295 x < 2 ^ 32 := Nat.xor_lt_two_pow ones_lt rx
  have qy : 4294967295 ^^^ reg 4294967295 y < 2 ^ 32 := Nat.xor_lt_two_pow ones_lt ry
  have e : reg 4294967295 x = 4294967295 ^^^ (4294967295 ^^^ reg 4294967295 x) := by rw [← Nat.xor_assoc, Nat.xor_self, Nat.zero_xor]
  have h : reg 4294967295 (x ++ y) = reg 4294967295 y ^^^ shM (8 * y.length) (4294967295 ^^^ reg 4294967295 x) := by
    rw [reg_append]
    conv => lhs; arg 1; rw [e]
    exact reg_xor y _ _
  rw [crcSum_reg x hx, crcSum_reg y hy, crcSum_reg _ (byte_append hx hy), h, hn]
  generalize 4294967295 ^^^ reg 4294967295 x = X at qx
  unfold crc_Join.f
  have d : 4294967295 ^^^ (reg 4294967295 y ^^^ shM (8 * y.length) X) = shM (8 * y.length) X ^^^ (4294967295 ^^^ reg 4294967295 y) := by
    rw [← Nat.xor_assoc, Nat.xor_comm]
  rw [d]
  generalize 4294967295 ^^^ reg 4294967295 y = Y at qy
  rw [if_pos ⟨⟨by omega, by omega⟩, ⟨by omega, by omega⟩, by omega⟩, Int.toNat_natCast, Int.toNat_natCast, Int.toNat_natCast]
theorem tmod_lt (a b : Int) (ha : 0 ≤ a) (hb : 0 < b) : 0 ≤ Int.tmod a b ∧ Int.tmod a b < b := by
  rw [Int.tmod_eq_emod_of_nonneg ha]
  exact ⟨Int.emod_nonneg _ (by omega), Int.emod_lt_of_pos _ hb⟩
theorem CrcParts : remoralaw02_CrcParts.Pure := by
  intro l a b _ _ hl ha hb
  have ha' : 0 ≤ a ∧ a ≤ 65535 := by simp [Lit.wf, IntKind.min, IntKind.max, IntKind.signed, IntKind.bits] at ha; omega
  have hb' : 0 ≤ b ∧ b ≤ 65535 := by simp [Lit.wf, IntKind.min, IntKind.max, IntKind.signed, IntKind.bits] at hb; omega
  have L := wf_byte hl
  clear ha hb hl
  unfold remoralaw02_CrcParts.f
  by_cases h : (l.length : Int) > 600
  · rw [if_pos h]; rfl
  · rw [if_neg h, w64' (n := a) (by omega) (by omega), w64' (n := b) (by omega) (by omega), w64' (n := (l.length : Int) + 1) (by omega) (by omega)]
    have m1 := tmod_lt a ((l.length : Int) + 1) ha'.1 (by omega)
    generalize Int.tmod a ((l.length : Int) + 1) = i at m1
    obtain ⟨i, rfl⟩ := Int.eq_ofNat_of_zero_le m1.1
    rw [w64' (n := (l.length : Int) - (i : Int)) (by omega) (by omega), w64' (n := (l.length : Int) - (i : Int) + 1) (by omega) (by omega)]
    have m2 := tmod_lt b ((l.length : Int) - (i : Int) + 1) hb'.1 (by omega)
    generalize Int.tmod b ((l.length : Int) - (i : Int) + 1) = j at m2
    obtain ⟨j, rfl⟩ := Int.eq_ofNat_of_zero_le m2.1
    rw [w64' (n := (i : Int) + (j : Int)) (by omega) (by omega)]
    obtain ⟨k, hk⟩ : ∃ k : Nat, k = i + j := ⟨_, rfl⟩
    rw [show (i : Int) + (j : Int) = (k : Int) by omega, w64' (n := (k : Int) - (i : Int)) (by omega) (by omega), w64' (n := (l.length : Int) - (k : Int)) (by omega) (by omega)]
    rw [if_neg (by omega), if_neg (by omega)]
    have o1 : ∀ x, crc_Of1.f x = some (crcSum x) := fun _ => rfl
    have o3 : ∀ x y z, crc_Of3.f x y z = some (crcSum (x ++ y ++ z)) := fun _ _ _ => rfl
    have h1 : (0 : Int) ≤ (i : Int) := by omega
    have h2 : (i : Int) ≤ (l.length : Int) := by omega
    have h3 : (i : Int) ≤ (k : Int) := by omega
    have h4 : (k : Int) ≤ (l.length : Int) := by omega
    have h5 : (0 : Int) ≤ (k : Int) := by omega
    rw [Int.toNat_natCast, Int.toNat_natCast]
    rw [if_pos h1, if_pos h2, o1, Option.bind_some, if_pos h3, if_pos h4, o1, Option.bind_some, if_pos h5, o1, Option.bind_some]
    have bx : Byte (l.take i) := byte_take L i
    have by_ : Byte ((l.take k).drop i) := byte_drop (byte_take L k) i
    have bz : Byte (l.drop k) := byte_drop L k
    have lx : (l.take i).length = i := by simp; omega
    have ly : ((l.take k).drop i).length = k - i := by simp; omega
    have lz : (l.drop k).length = l.length - k := by simp
    have exy : l.take i ++ (l.take k).drop i = l.take k := by
      have : l.take i = (l.take k).take i := by rw [List.take_take, Nat.min_eq_left (by omega)]
      rw [this, List.take_append_drop]
    have eyz : (l.take k).drop i ++ l.drop k = l.drop i := by
      have := List.take_append_drop (k - i) (l.drop i)
      rw [List.drop_drop, show i + (k - i) = k by omega] at this
      rw [List.drop_take]; exact this
    rw [join_sum _ _ bx by_ ((k : Int) - (i : Int)) (by omega) (by omega), Option.bind_some, exy]
    rw [join_sum _ _ (byte_take L k) bz ((l.length : Int) - (k : Int)) (by omega) (by omega), Option.bind_some, List.take_append_drop]
    rw [join_sum _ _ by_ bz ((l.length : Int) - (k : Int)) (by omega) (by omega), Option.bind_some, eyz]
    rw [join_sum _ _ bx (byte_drop L i) ((l.length : Int) - (i : Int)) (by simp; omega) (by simp; omega), Option.bind_some, List.take_append_drop, o1, Option.bind_some]
    rw [if_pos rfl, if_pos rfl, o3, Option.bind_some, exy, List.take_append_drop]
    rw [if_pos rfl]
    rfl
end Go.Proofs.YtplpckppejnicaaDoor.Pure
