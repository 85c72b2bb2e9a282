/- The reference's Open is the program's: the short road. -/
import Derived.Test.YtniboafnkiijcaaDoorCrcRef
import Derived.Test.YtniboafnkiijcaaDoorNumSpec
import Derived.Test.YtniboafnkiijcaaDoorPx2
import Derived.Test.YtniboafnkiijcaaDoorPx1
set_option linter.unusedVariables false
namespace Go.Proofs.YtniboafnkiijcaaDoor.P
open Go.RowKit Go.Proofs.YtniboafnkiijcaaDoorW.PrintWords Go.Proofs.YtniboafnkiijcaaDoorW.PrintLast Go.Proofs.YtniboafnkiijcaaDoorW.PrintMore Go.Proofs.YtniboafnkiijcaaDoor.Crc
theorem sealL_byte (s : Int) : Byte (sealL s) := by
  intro x hx
  unfold sealL at hx
  simp only [List.mem_cons, List.not_mem_nil, or_false] at hx
  omega
theorem byte_append {a b : List Int} (ha : Byte a) (hb : Byte b) : Byte (a ++ b) := fun x hx => by
  rcases List.mem_append.1 hx with h | h
  · exact ha x h
  · exact hb x h
theorem byte_take {a : List Int} (ha : Byte a) (n : Nat) : Byte (a.take n) := fun x hx => ha x (List.mem_of_mem_take hx)
theorem text_inj {a b : List Int} (ha : Byte a) (hb : Byte b) (h : (strOfNums a).toList = (strOfNums b).toList) : a = b := by
  rw [← Go.Proofs.YtniboafnkiijcaaDoor.Num.strOfNums_bytes (l := a) ha, ← Go.Proofs.YtniboafnkiijcaaDoor.Num.strOfNums_bytes (l := b) hb]
  rw [ByteArray.toList_eq, ByteArray.toList_eq] at h
  unfold bytesOf
  rw [h]
theorem refOpen_f (k : Nat) (l : List Int) (hb : Byte l) (hl : l.length ≤ 140737488352000) (hk : l.length + 30 ≤ k) : remoraref02_Open.f k l = crc_Open.f l := by
  unfold remoraref02_Open.f crc_Open.f
  by_cases h4 : l.length < 4
  · rw [if_pos (by omega), if_pos h4]
  · have e4 : wrap64 ((l.length : Int) - 4) = ((l.length - 4 : Nat) : Int) := by rw [w64' (by omega) (by omega)]; omega
    rw [if_neg (by omega), if_neg h4, if_pos (by omega), Option.bind_some, e4, if_pos (by omega), if_pos (by omega), Int.toNat_natCast, if_pos (by simp; omega), Option.bind_some, List.nil_append,
      refSeal_f k _ (byte_take hb _) (by simp; omega) (by simp; omega), Option.bind_some]
    have ht : l.take (l.length - 4) ++ l.drop (l.length - 4) = l := List.take_append_drop _ _
    by_cases he : l.drop (l.length - 4) = sealL (crcSum (l.take (l.length - 4)))
    · rw [if_pos he, if_pos (by rw [← he, ht])]
    · rw [if_neg he, if_neg (fun hc => he ?_)]
      have := text_inj (byte_append (byte_take hb _) (sealL_byte _)) hb hc
      have h3 : l.take (l.length - 4) ++ l.drop (l.length - 4) = l.take (l.length - 4) ++ sealL (crcSum (l.take (l.length - 4))) := by rw [ht, this]
      exact List.append_cancel_left h3
end Go.Proofs.YtniboafnkiijcaaDoor.P
