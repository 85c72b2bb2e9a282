/- The reference's functions of numbers with a sign, and of texts, that write. -/
import Derived.Test.YtniboafnkiijcaaDoorNumRef
import Derived.Test.YtniboafnkiijcaaDoorPx1

set_option linter.unusedVariables false
set_option linter.unusedSimpArgs false
namespace Go.Proofs.YtniboafnkiijcaaDoor.P
open Go.RowKit Go.Proofs.YtniboafnkiijcaaDoorW.PrintWords Go.Proofs.YtniboafnkiijcaaDoorW.PrintLast Go.Proofs.YtniboafnkiijcaaDoorW.PrintMore Go.Proofs.YtniboafnkiijcaaDoor.Num
theorem heldI_f (a : Int) : remoraref01_held.f a (-2305843009213693952) 2305843009213693951 = some (clI a) := by
  unfold remoraref01_held.f clI mn mx
  by_cases h : a < -2305843009213693952
  · rw [if_pos h, if_pos h]; rfl
  · rw [if_neg h, if_neg h]
    by_cases h2 : a > 2305843009213693951
    · rw [if_pos h2, if_pos (by omega)]
    · rw [if_neg h2, if_neg (by omega)]
theorem refPutInt_f (k : Nat) (l : List Int) (a : Int) (hk : 12 ≤ k) (hl : l.length ≤ 140737488355300) : remoraref01_PutInt.f k l a = some (l ++ enc (zig (clI a))) := by
  have hc := clI_le a
  have hz := zig_le hc.1 hc.2
  have h9 := enc_len9 (n := zig (clI a)) (by omega)
  unfold remoraref01_PutInt.f
  rw [heldI_f, Option.bind_some]
  generalize clI a = c at *
  by_cases h : c < 0
  · have e : wrap64 (wrap64 (2 * wrap64 (-wrap64 (c + 1))) + 1) = ((zig c : Nat) : Int) := by
      rw [w64 (n := c + 1) (by omega) (by omega), w64 (n := -(c + 1)) (by omega) (by omega), w64 (n := 2 * -(c + 1)) (by omega) (by omega), w64 (by omega) (by omega)]
      unfold zig; rw [if_pos h]; omega
    rw [if_pos h, e, groups_f k _ hk (by omega), Option.bind_some, behind_f _ _ (by omega), Option.bind_some]
  · have e : wrap64 (2 * c) = ((zig c : Nat) : Int) := by
      rw [w64 (by omega) (by omega)]
      unfold zig; rw [if_neg h]; omega
    rw [if_neg h, e, groups_f k _ hk (by omega), Option.bind_some, behind_f _ _ (by omega), Option.bind_some]
theorem refPutText_f (k : Nat) (l : List Int) (s : ByteArray) (hk : 12 ≤ k) (hl : l.length + s.size ≤ 140737488351000) : remoraref01_PutText.f k l s = some (l ++ (enc s.size ++ bytesOf s)) := by
  have h9 := enc_len9 (n := s.size) (by omega)
  unfold remoraref01_PutText.f
  rw [if_pos (by omega), refPut_f k l _ hk (by omega), Option.bind_some, cl_nat _ (by omega), behind_f _ _ (by rw [List.length_append, bytesOf_length]; omega), List.append_assoc]
end Go.Proofs.YtniboafnkiijcaaDoor.P
