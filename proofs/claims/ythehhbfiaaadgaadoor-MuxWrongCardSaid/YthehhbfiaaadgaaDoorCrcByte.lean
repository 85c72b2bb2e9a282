/- Bytes, and a sealed row opened. -/
import Derived.Test.YthehhbfiaaadgaaDoorNumSpec
import Derived.Test.YthehhbfiaaadgaaDoorPx2
set_option linter.unusedVariables false
namespace Go.Proofs.YthehhbfiaaadgaaDoor.P
open Go.RowKit Go.Proofs.YthehhbfiaaadgaaDoorW.PrintWords Go.Proofs.YthehhbfiaaadgaaDoorW.PrintLast Go.Proofs.YthehhbfiaaadgaaDoorW.PrintMore
theorem w64' {n : Int} (h : -9223372036854775808 ≤ n) (h' : n ≤ 9223372036854775807) : wrap64 n = n := by unfold wrap64; omega
def Byte (l : List Int) : Prop := ∀ x ∈ l, 0 ≤ x ∧ x ≤ 255
theorem sealL_byte (s : Int) : Byte (sealL s) := by
  intro x hx
  unfold sealL at hx
  simp only [List.mem_cons, List.not_mem_nil, or_false] at hx
  omega
theorem byte_append {a b : List Int} (ha : Byte a) (hb : Byte b) : Byte (a ++ b) := fun x hx => by
  rcases List.mem_append.1 hx with h | h
  · exact ha x h
  · exact hb x h
theorem byte_take {a : List Int} (ha : Byte a) (n : Nat) : Byte (a.take n) := fun x hx => ha x (List.mem_of_mem_take hx)
theorem byte_drop {a : List Int} (ha : Byte a) (n : Nat) : Byte (a.drop n) := fun x hx => ha x (List.mem_of_mem_drop hx)
theorem wf_byte {l : List Int} (h : ∀ x ∈ l, (Lit.int .u8 x).wf = true) : Byte l := fun x hx => by
  have h := h x hx
  simp [Lit.wf, IntKind.min, IntKind.max, IntKind.signed, IntKind.bits] at h; omega
theorem text_inj {a b : List Int} (ha : Byte a) (hb : Byte b) (h : (strOfNums a).toList = (strOfNums b).toList) : a = b := by
  rw [← Go.Proofs.YthehhbfiaaadgaaDoor.Num.strOfNums_bytes (l := a) ha, ← Go.Proofs.YthehhbfiaaadgaaDoor.Num.strOfNums_bytes (l := b) hb]
  rw [ByteArray.toList_eq, ByteArray.toList_eq] at h
  unfold bytesOf
  rw [h]
theorem open_seal (b : List Int) (hb : Byte b) (hl : b.length ≤ 140737488352000) : crc_Open.f (b ++ sealL (crcSum b)) = some (b, 0) := by
  have h4 : (b ++ sealL (crcSum b)).length = b.length + 4 := by simp [sealL]
  unfold crc_Open.f
  rw [if_neg (by omega), if_pos (by omega), h4, show b.length + 4 - 4 = b.length by omega, List.drop_left, List.take_left, if_pos rfl]
end Go.Proofs.YthehhbfiaaadgaaDoor.P
