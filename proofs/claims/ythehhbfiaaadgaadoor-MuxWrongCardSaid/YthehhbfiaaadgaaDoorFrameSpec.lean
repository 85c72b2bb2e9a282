/- A frame's bytes, and what Get tells of them: whole, cut short, or with another sum. -/
import Derived.Test.YthehhbfiaaadgaaDoorNum
import Derived.Test.YthehhbfiaaadgaaDoorCrcByte
import Derived.Test.YthehhbfiaaadgaaDoorPx1
import Derived.Test.YthehhbfiaaadgaaDoorPx6

set_option linter.unusedVariables false
namespace Go.Proofs.YthehhbfiaaadgaaDoor.Pure
open Go.RowKit Go.Proofs.YthehhbfiaaadgaaDoor.P Go.Proofs.YthehhbfiaaadgaaDoorW.PrintWords Go.Proofs.YthehhbfiaaadgaaDoorW.PrintLast Go.Proofs.YthehhbfiaaadgaaDoorW.PrintMore Go.Proofs.YthehhbfiaaadgaaDoor.Num
/-- What is sealed of a frame. -/
def ownF (kind : Int) (body : List Int) : List Int := kind :: (enc body.length ++ body)
def encF (kind : Int) (body : List Int) : List Int := ownF kind body ++ sealL (crcSum (ownF kind body))
theorem sealL_len (s : Int) : (sealL s).length = 4 := rfl
theorem ownF_len (kind : Int) (body : List Int) : (ownF kind body).length = 1 + (enc body.length).length + body.length := by unfold ownF; simp; omega
theorem encF_len (kind : Int) (body : List Int) : (encF kind body).length = 5 + (enc body.length).length + body.length := by unfold encF; rw [List.length_append, ownF_len, sealL_len]; omega
theorem ownF_byte {kind : Int} {body : List Int} (h0 : 0 ≤ kind) (h1 : kind ≤ 255) (hb : Byte body) : Byte (ownF kind body) := fun x hx => by
  unfold ownF at hx
  rcases List.mem_cons.1 hx with rfl | hx
  · omega
  · rcases List.mem_append.1 hx with hx | hx
    · exact enc_byt _ x hx
    · exact hb x hx
theorem encF_byte {kind : Int} {body : List Int} (h0 : 0 ≤ kind) (h1 : kind ≤ 255) (hb : Byte body) : Byte (encF kind body) := byte_append (ownF_byte h0 h1 hb) (sealL_byte _)
theorem put_encF (k : Nat) (kind : Int) (body : List Int) (hk : 20 ≤ k) (h0 : 0 ≤ kind) (h1 : kind ≤ 255) (hb : Byte body) (hl : body.length ≤ 524288) : frame_Put.f (k + 1) kind body = some (encF kind body, 0) := by
  unfold frame_Put.f
  rw [if_neg (by omega)]
  simp only [frame_Put.j0]
  rw [show decide (kind > 255) = false from decide_eq_false (by omega), if_neg (by simp), if_neg (by omega), show kind % 256 = kind by omega, put_f k [kind] (body.length : Int) (by omega) (by simp), cl_nat _ (by omega), Option.bind_some]
  have h9 := enc_len9 (n := body.length) (by omega)
  have e : [kind] ++ enc body.length ++ body = ownF kind body := by unfold ownF; simp
  rw [if_pos (by simp; omega), e]
  unfold crc_Seal.f
  rw [ownF_len, if_pos (by omega)]
  rfl
theorem scan_short (f : Nat) : ∀ (i n x m : Nat), (enc x).length ≤ f → m < (enc x).length → scan f ((enc x).take m) i n = (0, 0, 4) := by
  induction f with
  | zero => intro i n x m h; have := enc_pos x; omega
  | succ f ih =>
    intro i n x m hf hm
    by_cases hs : x ≤ 127
    · rw [enc_small hs] at hm ⊢
      simp only [List.length_singleton] at hm
      obtain rfl : m = 0 := by omega
      rfl
    · rw [enc_big hs] at hm hf ⊢
      simp only [List.length_cons] at hm hf
      cases m with
      | zero => rfl
      | succ m =>
        rw [List.take_succ_cons]
        simp only [scan]
        rw [if_pos (by omega)]
        exact ih _ _ _ m (by omega) (by omega)
/-- What stands behind a place, made of parts. -/
theorem rd_at (pre : List Int) (c : Int) (t : List Int) : rd (pre ++ c :: t) (pre.length : Int) = c := by simp [rd, List.getD_eq_getElem?_getD]
theorem cut_mid' (a b c : List Int) (i j : Nat) (hi : i = a.length) (hj : j = a.length + b.length) : ((a ++ (b ++ c)).take j).drop i = b := by
  subst hi hj
  rw [← List.append_assoc, ← List.length_append, List.take_left, List.drop_left]
/-- A whole frame, whatever stands ahead and behind. -/
theorem get_encF (k : Nat) (pre post : List Int) (kind : Int) (body : List Int) (hk : 20 ≤ k) (hp : Byte pre) (hq : Byte post) (h0 : 0 ≤ kind) (h1 : kind ≤ 255) (hb : Byte body) (hl : body.length ≤ 524288) (hall : pre.length + post.length ≤ 140737480000000) :
    frame_Get.f k (pre ++ (encF kind body ++ post)) (pre.length : Int) = some (kind, body, ((pre.length + (encF kind body).length : Nat) : Int), 0) := by
  have hF := encF_len kind body
  have h9 := enc_len9 (n := body.length) (by omega)
  have hL : (pre ++ (encF kind body ++ post)).length = pre.length + (5 + (enc body.length).length + body.length) + post.length := by rw [List.length_append, List.length_append, hF]; omega
  have hB : Byte (pre ++ (encF kind body ++ post)) := byte_append hp (byte_append (encF_byte h0 h1 hb) hq)
  have e1 : pre ++ (encF kind body ++ post) = (pre ++ [kind]) ++ (enc body.length ++ (body ++ (sealL (crcSum (ownF kind body)) ++ post))) := by
    unfold encF ownF; simp only [List.append_assoc, List.cons_append, List.nil_append]
  have e2 : pre ++ (encF kind body ++ post) = ((pre ++ [kind]) ++ enc body.length) ++ (body ++ (sealL (crcSum (ownF kind body)) ++ post)) := by rw [e1]; simp only [List.append_assoc]
  have e3 : rd (pre ++ (encF kind body ++ post)) (pre.length : Int) = kind := by unfold encF ownF; exact rd_at pre kind _
  have hg := getS_enc (pre ++ [kind]) (body ++ (sealL (crcSum (ownF kind body)) ++ post)) body.length (by omega) ((pre.length : Int) + 1) (by simp)
  rw [← e1] at hg
  have c1 := cut_mid' pre (encF kind body) post pre.length (pre.length + (encF kind body).length) rfl rfl
  have c2 := cut_mid' ((pre ++ [kind]) ++ enc body.length) body (sealL (crcSum (ownF kind body)) ++ post) (pre.length + 1 + (enc body.length).length) (pre.length + 1 + (enc body.length).length + body.length) (by simp; omega) (by simp; omega)
  rw [← e2] at c2
  have ho := open_seal (ownF kind body) (ownF_byte h0 h1 hb) (by rw [ownF_len]; omega)
  generalize pre ++ (encF kind body ++ post) = l at hL hB e3 hg c1 c2 ⊢
  unfold frame_Get.f
  rw [if_neg (by omega), if_neg (by omega), get_f k l _ (by omega) hB (by omega), hg, Option.bind_some]
  dsimp only
  rw [if_pos rfl, if_pos (by omega), w64' (n := (body.length : Int) + 4) (by omega) (by omega), w64' (n := (l.length : Int) - ((pre.length : Int) + 1 + ((enc body.length).length : Int))) (by omega) (by omega), if_pos (by omega)]
  rw [w64' (n := (pre.length : Int) + 1 + ((enc body.length).length : Int) + (body.length : Int)) (by omega) (by omega), w64' (n := (pre.length : Int) + 1 + ((enc body.length).length : Int) + (body.length : Int) + 4) (by omega) (by omega), if_pos (by omega)]
  have n1 : ((pre.length : Int) + 1 + ((enc body.length).length : Int) + (body.length : Int) + 4).toNat = pre.length + (encF kind body).length := by omega
  have n2 : ((pre.length : Int)).toNat = pre.length := by omega
  have n3 : ((pre.length : Int) + 1 + ((enc body.length).length : Int) + (body.length : Int)).toNat = pre.length + 1 + (enc body.length).length + body.length := by omega
  have n4 : ((pre.length : Int) + 1 + ((enc body.length).length : Int)).toNat = pre.length + 1 + (enc body.length).length := by omega
  rw [n1, n2, n3, n4, c1, c2, show encF kind body = ownF kind body ++ sealL (crcSum (ownF kind body)) from rfl, ho, Option.bind_some]
  dsimp only
  rw [if_pos rfl, e3, w64' (n := kind) (by omega) (by omega)]
  have n5 : ((pre.length : Int) + 1 + ((enc body.length).length : Int) + (body.length : Int) + 4) = ((pre.length + (ownF kind body ++ sealL (crcSum (ownF kind body))).length : Nat) : Int) := by
    rw [show ownF kind body ++ sealL (crcSum (ownF kind body)) = encF kind body from rfl]; omega
  rw [n5]
/-- A frame that is cut short. -/
theorem get_short (k : Nat) (kind : Int) (body : List Int) (m : Nat) (hk : 20 ≤ k) (h0 : 0 ≤ kind) (h1 : kind ≤ 255) (hb : Byte body) (hl : body.length ≤ 524288) (hm : m < (encF kind body).length) : frame_Get.f k ((encF kind body).take m) 0 = some (0, [], 0, 4) := by
  have hF := encF_len kind body
  have h9 := enc_len9 (n := body.length) (by omega)
  have hp := enc_pos body.length
  have hL : ((encF kind body).take m).length = m := by rw [List.length_take]; omega
  have hB : Byte ((encF kind body).take m) := byte_take (encF_byte h0 h1 hb) m
  unfold frame_Get.f
  rw [if_neg (by omega), hL]
  by_cases hm0 : m = 0
  · rw [if_pos (by omega)]
  rw [if_neg (by omega), get_f k _ _ (by omega) hB (by omega)]
  obtain ⟨j, rfl⟩ : ∃ j, m = j + 1 := ⟨m - 1, by omega⟩
  have e0 : (encF kind body).take (j + 1) = kind :: (enc body.length ++ (body ++ sealL (crcSum (ownF kind body)))).take j := by
    unfold encF; rw [show ownF kind body = kind :: (enc body.length ++ body) from rfl]; simp only [List.cons_append, List.append_assoc, List.take_succ_cons]
  by_cases hj : j < (enc body.length).length
  · have e1 : (enc body.length ++ (body ++ sealL (crcSum (ownF kind body)))).take j = (enc body.length).take j := List.take_append_of_le_length (by omega)
    have hg : getS ((encF kind body).take (j + 1)) (0 + 1) = (0, 0, 4) := by
      rw [e0, e1]
      unfold getS
      rw [if_neg (by simp; omega), show ((0 : Int) + 1).toNat = 1 from rfl, List.drop_succ_cons, List.drop_zero, scan_short 9 0 0 _ j h9 hj]
      rfl
    rw [hg, Option.bind_some]
    rfl
  · have e1 : (enc body.length ++ (body ++ sealL (crcSum (ownF kind body)))).take j = enc body.length ++ (body ++ sealL (crcSum (ownF kind body))).take (j - (enc body.length).length) := by
      rw [List.take_append, List.take_of_length_le (by omega)]
    have hg := getS_enc [kind] ((body ++ sealL (crcSum (ownF kind body))).take (j - (enc body.length).length)) body.length (by omega) (0 + 1) (by simp)
    rw [List.singleton_append, ← e1, ← e0] at hg
    rw [hg, Option.bind_some]
    dsimp only
    rw [if_pos rfl, if_pos (by omega), w64' (by omega) (by omega), w64' (by omega) (by omega), if_neg (by omega)]
/-- A frame whose sum is another one. -/
theorem get_wrong (k : Nat) (kind : Int) (body s : List Int) (hk : 20 ≤ k) (h0 : 0 ≤ kind) (h1 : kind ≤ 255) (hb : Byte body) (hs : Byte s) (hl : body.length ≤ 524288) (hs4 : s.length = 4) (hne : s ≠ sealL (crcSum (ownF kind body))) : frame_Get.f k (ownF kind body ++ s) 0 = some (0, [], 0, 6) := by
  have hO := ownF_len kind body
  have h9 := enc_len9 (n := body.length) (by omega)
  have hL : (ownF kind body ++ s).length = 5 + (enc body.length).length + body.length := by rw [List.length_append, hO, hs4]; omega
  have hB : Byte (ownF kind body ++ s) := byte_append (ownF_byte h0 h1 hb) hs
  have e1 : ownF kind body ++ s = [kind] ++ (enc body.length ++ (body ++ s)) := by unfold ownF; simp
  have hg := getS_enc [kind] (body ++ s) body.length (by omega) (0 + 1) (by simp)
  rw [← e1] at hg
  have ho : crc_Open.f (ownF kind body ++ s) = some ([], 6) := by
    unfold crc_Open.f
    rw [if_neg (by omega), if_pos (by omega), show (ownF kind body ++ s).length - 4 = (ownF kind body).length by omega, List.drop_left, List.take_left, if_neg hne]
  have hT : (ownF kind body ++ s).take (5 + (enc body.length).length + body.length) = ownF kind body ++ s := List.take_of_length_le (by omega)
  generalize ownF kind body ++ s = l at hL hB hg ho hT ⊢
  unfold frame_Get.f
  rw [if_neg (by omega), if_neg (by omega), get_f k l _ (by omega) hB (by omega), hg, Option.bind_some]
  dsimp only
  rw [if_pos rfl, if_pos (by omega), w64' (n := (body.length : Int) + 4) (by omega) (by omega), w64' (n := (l.length : Int) - ((0 : Int) + 1 + ((enc body.length).length : Int))) (by omega) (by omega), if_pos (by omega)]
  rw [w64' (n := (0 : Int) + 1 + ((enc body.length).length : Int) + (body.length : Int)) (by omega) (by omega), w64' (n := (0 : Int) + 1 + ((enc body.length).length : Int) + (body.length : Int) + 4) (by omega) (by omega), if_pos (by omega)]
  rw [show ((0 : Int) + 1 + ((enc body.length).length : Int) + (body.length : Int) + 4).toNat = 5 + (enc body.length).length + body.length by omega, hT, show (0 : Int).toNat = 0 from rfl, List.drop_zero, ho, Option.bind_some]
  rfl
end Go.Proofs.YthehhbfiaaadgaaDoor.Pure
