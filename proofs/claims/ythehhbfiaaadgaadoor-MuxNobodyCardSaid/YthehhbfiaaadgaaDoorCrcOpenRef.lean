/- The reference's Open is the program's. -/
import Derived.Test.YthehhbfiaaadgaaDoorCrcLin
import Derived.Test.YthehhbfiaaadgaaDoorNumSpec
import Derived.Test.YthehhbfiaaadgaaDoorPx4
import Derived.Test.YthehhbfiaaadgaaDoorPx2
set_option linter.unusedVariables false
namespace Go.Proofs.YthehhbfiaaadgaaDoor.P
open Go.RowKit Go.Proofs.YthehhbfiaaadgaaDoorW.PrintWords Go.Proofs.YthehhbfiaaadgaaDoorW.PrintLast Go.Proofs.YthehhbfiaaadgaaDoorW.PrintMore Go.Proofs.YthehhbfiaaadgaaDoor.Crc
theorem text_inj {a b : List Int} (ha : Byte a) (hb : Byte b) (h : (strOfNums a).toList = (strOfNums b).toList) : a = b := by
  rw [← Go.Proofs.YthehhbfiaaadgaaDoor.Num.strOfNums_bytes (l := a) ha, ← Go.Proofs.YthehhbfiaaadgaaDoor.Num.strOfNums_bytes (l := b) hb]
  rw [ByteArray.toList_eq, ByteArray.toList_eq] at h
  unfold bytesOf
  rw [h]
theorem refOpen_f (k : Nat) (l : List Int) (hb : Byte l) (hl : l.length ≤ 140737488352000) (hk : l.length + 30 ≤ k) : remoraref02_Open.f k l = crc_Open.f l := by
  unfold remoraref02_Open.f crc_Open.f
  by_cases h4 : l.length < 4
  · rw [if_pos (by omega), if_pos h4]
  · have e4 : wrap64 ((l.length : Int) - 4) = ((l.length - 4 : Nat) : Int) := by rw [w64' (by omega) (by omega)]; omega
    rw [if_neg (by omega), if_neg h4, if_pos (by omega), Option.bind_some, e4, if_pos (by omega), if_pos (by omega), Int.toNat_natCast, if_pos (by simp; omega), Option.bind_some, List.nil_append,
      refSeal_f k _ (byte_take hb _) (by simp; omega) (by simp; omega), Option.bind_some]
    have ht : l.take (l.length - 4) ++ l.drop (l.length - 4) = l := List.take_append_drop _ _
    by_cases he : l.drop (l.length - 4) = sealL (crcSum (l.take (l.length - 4)))
    · rw [if_pos he, if_pos (by rw [← he, ht])]
    · rw [if_neg he, if_neg (fun hc => he ?_)]
      have := text_inj (byte_append (byte_take hb _) (sealL_byte _)) hb hc
      have h3 : l.take (l.length - 4) ++ l.drop (l.length - 4) = l.take (l.length - 4) ++ sealL (crcSum (l.take (l.length - 4))) := by rw [ht, this]
      exact List.append_cancel_left h3
theorem open_seal (b : List Int) (hb : Byte b) (hl : b.length ≤ 140737488352000) : crc_Open.f (b ++ sealL (crcSum b)) = some (b, 0) := by
  have h4 : (b ++ sealL (crcSum b)).length = b.length + 4 := by simp [sealL]
  unfold crc_Open.f
  rw [if_neg (by omega), if_pos (by omega), h4, show b.length + 4 - 4 = b.length by omega, List.drop_left, List.take_left, if_pos rfl]
end Go.Proofs.YthehhbfiaaadgaaDoor.P
