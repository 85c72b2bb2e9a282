/- The numbers' functions with a sign, and of texts; the reference's functions compute the same. -/
import Derived.Test.YtniboafnkiijcaaDoorNum
import Derived.Test.YtniboafnkiijcaaDoorPx0
import Derived.Test.YtniboafnkiijcaaDoorPx1

set_option linter.unusedVariables false
set_option linter.unusedSimpArgs false
namespace Go.Proofs.YtniboafnkiijcaaDoor.P
open Go.RowKit Go.Proofs.YtniboafnkiijcaaDoorW.PrintWords Go.Proofs.YtniboafnkiijcaaDoorW.PrintLast Go.Proofs.YtniboafnkiijcaaDoorW.PrintMore Go.Proofs.YtniboafnkiijcaaDoor.Num

theorem putInt_f (k : Nat) (l : List Int) (a : Int) (hk : 12 ≤ k) (hl : l.length ≤ 140737488355300) : num_PutInt.f k l a = some (l ++ enc (zig (clI a))) := by
  have hc := clI_le a
  unfold num_PutInt.f
  rw [show mn (mx a (-2305843009213693952)) 2305843009213693951 = clI a from rfl]
  by_cases h : clI a < 0
  · have hz : (((-2) * clI a) - 1) = ((zig (clI a) : Nat) : Int) := by unfold zig; rw [if_pos h]; omega
    rw [if_pos h, hz, put_f k l _ hk hl, Option.bind_some, cl_nat _ (zig_le hc.1 hc.2)]
  · have hz : (2 * clI a) = ((zig (clI a) : Nat) : Int) := by unfold zig; rw [if_neg h]; omega
    rw [if_neg h, hz, put_f k l _ hk hl, Option.bind_some, cl_nat _ (zig_le hc.1 hc.2)]
theorem putText_f (k : Nat) (l : List Int) (s : ByteArray) (hk : 12 ≤ k) (hl : l.length + s.size ≤ 140737488355300) : num_PutText.f k l s = some (l ++ (enc s.size ++ bytesOf s)) := by
  have h9 := enc_len9 (n := s.size) (by omega)
  unfold num_PutText.f
  rw [put_f k l _ hk (by omega), Option.bind_some, cl_nat _ (by omega), if_pos (by rw [List.length_append]; omega), List.append_assoc]
theorem getInt_f (k : Nat) (l : List Int) (at_ : Int) (hk : 15 ≤ k) (hb : Byt l) (hl : l.length ≤ 140737488355328) : num_GetInt.f k l at_ = some (getIntS l at_) := by
  unfold num_GetInt.f getIntS
  rw [get_f k l at_ hk hb hl, Option.bind_some]
  rcases getS_range l at_ hb with ⟨h, _⟩ | ⟨h, x, hx, hm, _⟩
  · rw [if_neg h, if_neg h]
  · rw [if_pos h, if_pos h, hx, and1_i64 _ (by omega) (by omega), Int.tdiv_eq_ediv_of_nonneg (by omega)]
    unfold zag
    by_cases ho : (x : Int) % 2 = 1
    · rw [if_pos ho, if_pos ho, w64 (n := (x : Int) / 2) (by omega) (by omega), w64 (n := -((x : Int) / 2)) (by omega) (by omega), w64 (by omega) (by omega)]
    · rw [if_neg ho, if_neg ho, w64 (by omega) (by omega)]
theorem getText_f (k : Nat) (l : List Int) (at_ most : Int) (hk : 15 ≤ k) (hb : Byt l) (hl : l.length ≤ 140737488355328) : num_GetText.f k l at_ most = some (getTextS l at_ most) := by
  unfold num_GetText.f getTextS
  rw [get_f k l at_ hk hb hl, Option.bind_some]
  rcases getS_range l at_ hb with ⟨h, _⟩ | ⟨h, x, hx, hm, h0, hn, hle, _⟩
  · rw [if_neg h, if_neg h]
  · rw [if_pos h, if_pos h]
    have h1 := enc_pos x
    generalize getS l at_ = r at *
    obtain ⟨a, b, c⟩ := r
    simp only at hx hn h ⊢
    subst hx hn h
    by_cases c1 : (x : Int) > mx most 0
    · rw [if_pos c1, if_pos c1]
    · rw [if_neg c1, if_neg c1, w64 (n := (l.length : Int) - (at_ + ((enc x).length : Int))) (by omega) (by omega)]
      by_cases c2 : (x : Int) > (l.length : Int) - (at_ + ((enc x).length : Int))
      · rw [if_pos c2, if_pos c2]
      · rw [if_neg c2, if_neg c2, w64 (n := at_ + ((enc x).length : Int) + (x : Int)) (by omega) (by omega), if_pos (by omega), if_pos (by omega), if_pos (by omega)]
end Go.Proofs.YtniboafnkiijcaaDoor.P
