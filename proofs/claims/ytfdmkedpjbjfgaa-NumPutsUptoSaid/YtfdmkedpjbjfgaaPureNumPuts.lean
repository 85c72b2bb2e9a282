/- The law NumPuts of the numbers: Put, PutInt, PutText and Size agree with the reference. Where what comes in is of bulk at most 1,048,576. -/
import Derived.Test.YtfdmkedpjbjfgaaNumAwake
import Derived.Test.YtfdmkedpjbjfgaaNumMore
import Derived.Test.YtfdmkedpjbjfgaaNumRef
import Derived.Test.YtfdmkedpjbjfgaaPx4
namespace Go.Proofs.Ytfdmkedpjbjfgaa.Pure
open Go.RowKit Go.Proofs.Ytfdmkedpjbjfgaa.P Go.Proofs.YtfdmkedpjbjfgaaW.PrintWords Go.Proofs.YtfdmkedpjbjfgaaW.PrintLast Go.Proofs.YtfdmkedpjbjfgaaW.PrintMore Go.Proofs.Ytfdmkedpjbjfgaa.Num
theorem heldI_f (a : Int) : remoraref01_held.f a (-2305843009213693952) 2305843009213693951 = some (clI a) := by
  unfold remoraref01_held.f clI mn mx
  by_cases h : a < -2305843009213693952
  · rw [if_pos h, if_pos h]; rfl
  · rw [if_neg h, if_neg h]
    by_cases h2 : a > 2305843009213693951
    · rw [if_pos h2, if_pos (by omega)]
    · rw [if_neg h2, if_neg (by omega)]
theorem refPutInt_f (k : Nat) (l : List Int) (a : Int) (hk : 12 ≤ k) (hl : l.length ≤ 140737488355300) : remoraref01_PutInt.f k l a = some (l ++ enc (zig (clI a))) := by
  have hc := clI_le a
  have hz := zig_le hc.1 hc.2
  have h9 := enc_len9 (n := zig (clI a)) (by omega)
  unfold remoraref01_PutInt.f
  rw [heldI_f, Option.bind_some]
  generalize clI a = c at *
  by_cases h : c < 0
  · have e : wrap64 (wrap64 (2 * wrap64 (-wrap64 (c + 1))) + 1) = ((zig c : Nat) : Int) := by
      rw [w64 (n := c + 1) (by omega) (by omega), w64 (n := -(c + 1)) (by omega) (by omega), w64 (n := 2 * -(c + 1)) (by omega) (by omega), w64 (by omega) (by omega)]
      unfold zig; rw [if_pos h]; omega
    rw [if_pos h, e, groups_f k _ hk (by omega), Option.bind_some, behind_f _ _ (by omega), Option.bind_some]
  · have e : wrap64 (2 * c) = ((zig c : Nat) : Int) := by
      rw [w64 (by omega) (by omega)]
      unfold zig; rw [if_neg h]; omega
    rw [if_neg h, e, groups_f k _ hk (by omega), Option.bind_some, behind_f _ _ (by omega), Option.bind_some]
theorem refPutText_f (k : Nat) (l : List Int) (s : ByteArray) (hk : 12 ≤ k) (hl : l.length + s.size ≤ 140737488351000) : remoraref01_PutText.f k l s = some (l ++ (enc s.size ++ bytesOf s)) := by
  have h9 := enc_len9 (n := s.size) (by omega)
  unfold remoraref01_PutText.f
  rw [if_pos (by omega), refPut_f k l _ hk (by omega), Option.bind_some, cl_nat _ (by omega), behind_f _ _ (by rw [List.length_append, bytesOf_length]; omega), List.append_assoc]
theorem refSize_f (k : Nat) (a : Int) (hk : 12 ≤ k) : remoraref01_Size.f k a = some ((enc (cl a)).length : Int) := by
  have := cl_le a
  unfold remoraref01_Size.f
  rw [held_f, Option.bind_some, groups_f k _ hk (by omega), Option.bind_some]
theorem NumPuts : remoralaw01_NumPuts.Pure := by
  intro l a s hm hl hb _ hs
  have hsame : ∀ q, remoralaw01_same.f q q = some true := by intro q; simp [remoralaw01_same.f]
  refine ⟨41, ?_⟩
  unfold remoralaw01_NumPuts.f
  rw [put_f 41 _ _ (by omega) (by omega), Option.bind_some, refPut_f 41 _ _ (by omega) (by omega), Option.bind_some, hsame, Option.bind_some]
  simp only [if_true]
  rw [putInt_f 41 _ _ (by omega) (by omega), Option.bind_some, refPutInt_f 41 _ _ (by omega) (by omega), Option.bind_some, hsame, Option.bind_some]
  simp only [if_true]
  rw [putText_f 41 _ _ (by omega) (by omega), Option.bind_some, refPutText_f 41 _ _ (by omega) (by omega), Option.bind_some, hsame, Option.bind_some]
  simp only [if_true]
  rw [size_f 41 _ (by omega), Option.bind_some, refSize_f 41 _ (by omega), Option.bind_some]
  simp only [if_true]
  exact awake_end 41 (by omega)
end Go.Proofs.Ytfdmkedpjbjfgaa.Pure
