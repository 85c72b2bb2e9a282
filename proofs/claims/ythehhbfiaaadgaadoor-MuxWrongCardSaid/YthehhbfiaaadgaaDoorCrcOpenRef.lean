/- The reference's Open is the program's. -/
import Derived.Test.YthehhbfiaaadgaaDoorCrcLin
import Derived.Test.YthehhbfiaaadgaaDoorNumSpec
import Derived.Test.YthehhbfiaaadgaaDoorPx4
import Derived.Test.YthehhbfiaaadgaaDoorPx2
set_option linter.unusedVariables false
namespace Go.Proofs.YthehhbfiaaadgaaDoor.P
open Go.RowKit Go.Proofs.YthehhbfiaaadgaaDoorW.PrintWords Go.Proofs.YthehhbfiaaadgaaDoorW.PrintLast Go.Proofs.YthehhbfiaaadgaaDoorW.PrintMore Go.Proofs.YthehhbfiaaadgaaDoor.Crc
theorem refOpen_f (k : Nat) (l : List Int) (hb : Byte l) (hl : l.length ≤ 140737488352000) (hk : l.length + 30 ≤ k) : remoraref02_Open.f k l = crc_Open.f l := by
  unfold remoraref02_Open.f crc_Open.f
  by_cases h4 : l.length < 4
  · rw [if_pos (by omega), if_pos h4]
  · have e4 : wrap64 ((l.length : Int) - 4) = ((l.length - 4 : Nat) : Int) := by rw [w64' (by omega) (by omega)]; omega
    rw [if_neg (by omega), if_neg h4, if_pos (by omega), Option.bind_some, e4, if_pos (by omega), if_pos (by omega), Int.toNat_natCast, if_pos (by simp; omega), Option.bind_some, List.nil_append,
      refSeal_f k _ (byte_take hb _) (by simp; omega) (by simp; omega), Option.bind_some]
    have ht : l.take (l.length - 4) ++ l.drop (l.length - 4) = l := List.take_append_drop _ _
    by_cases he : l.drop (l.length - 4) = sealL (crcSum (l.take (l.length - 4)))
    · rw [if_pos he, if_pos (by rw [← he, ht])]
    · rw [if_neg he, if_neg (fun hc => he ?_)]
      have := text_inj (byte_append (byte_take hb _) (sealL_byte _)) hb hc
      have h3 : l.take (l.length - 4) ++ l.drop (l.length - 4) = l.take (l.length - 4) ++ sealL (crcSum (l.take (l.length - 4))) := by rw [ht, this]
      exact List.append_cancel_left h3
end Go.Proofs.YthehhbfiaaadgaaDoor.P
