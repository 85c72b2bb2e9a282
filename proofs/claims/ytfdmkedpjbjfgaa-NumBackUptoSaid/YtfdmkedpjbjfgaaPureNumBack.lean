/- The law NumBack of the numbers: what is put behind any bytes is got there, whatever is put behind it; what stands ahead stays. Where what comes in is of bulk at most 1,048,576. -/
import Derived.Test.YtfdmkedpjbjfgaaNumAwake
import Derived.Test.YtfdmkedpjbjfgaaNumMore
import Derived.Test.YtfdmkedpjbjfgaaPx6
namespace Go.Proofs.Ytfdmkedpjbjfgaa.Pure
open Go.RowKit Go.Proofs.Ytfdmkedpjbjfgaa.P Go.Proofs.YtfdmkedpjbjfgaaW.PrintWords Go.Proofs.YtfdmkedpjbjfgaaW.PrintLast Go.Proofs.YtfdmkedpjbjfgaaW.PrintMore Go.Proofs.Ytfdmkedpjbjfgaa.Num
theorem strOfNums_bytesOf (s : ByteArray) : strOfNums (bytesOf s) = s := by
  obtain ⟨d⟩ := s
  unfold strOfNums bytesOf
  congr 1
  simp only [List.map_map]
  have : ∀ l : List UInt8, l.map ((fun n : Int => UInt8.ofNat n.toNat) ∘ fun b => (b.toNat : Int)) = l := by
    intro l
    induction l with
    | nil => rfl
    | cons a t ih => rw [List.map_cons, ih]; simp
  rw [this]
theorem NumBack : remoralaw01_NumBack.Pure := by
  intro l a s hm hl hb _ hs
  have hb' := byt_of hb
  have h9 := enc_cl a
  have hci := clI_le a
  have hz := zig_le hci.1 hci.2
  have hz9 := enc_len9 (n := zig (clI a)) (by omega)
  have hcl := cl_le a
  have hs9 := enc_len9 (n := s.size) (by omega)
  have p1 := enc_pos (cl a)
  refine ⟨41, ?_⟩
  unfold remoralaw01_NumBack.f
  rw [put_f 41 _ _ (by omega) (by omega), Option.bind_some, putInt_f 41 _ _ (by omega) (by rw [List.length_append]; omega), Option.bind_some, putText_f 41 _ _ (by omega) (by rw [List.length_append, List.length_append]; omega), Option.bind_some]
  generalize hall : l ++ enc (cl a) ++ enc (zig (clI a)) ++ (enc s.size ++ bytesOf s) = B
  have hBl : B.length = l.length + (enc (cl a)).length + (enc (zig (clI a))).length + (enc s.size).length + s.size := by
    rw [← hall]; simp only [List.length_append, bytesOf_length]; omega
  have hBb : Byt B := by rw [← hall]; exact ((hb'.append (enc_byt _)).append (enc_byt _)).append ((enc_byt _).append (bytesOf_byt s))
  have hBm : B.length ≤ 140737488355328 := by omega
  have g1 : getS B (l.length : Int) = (((cl a : Nat) : Int), (l.length : Int) + (enc (cl a)).length, 0) := by
    have := getS_enc l (enc (zig (clI a)) ++ (enc s.size ++ bytesOf s)) (cl a) hcl (l.length : Int) rfl
    rw [← hall, List.append_assoc, List.append_assoc]; exact this
  have g2 : getS B ((l.length : Int) + (enc (cl a)).length) = (((zig (clI a) : Nat) : Int), (l.length : Int) + (enc (cl a)).length + (enc (zig (clI a))).length, 0) := by
    have := getS_enc (l ++ enc (cl a)) (enc s.size ++ bytesOf s) (zig (clI a)) hz ((l.length : Int) + (enc (cl a)).length) (by simp)
    rw [← hall, List.append_assoc (l ++ enc (cl a))]; exact this
  have g3 : getS B ((l.length : Int) + (enc (cl a)).length + (enc (zig (clI a))).length) = (((s.size : Nat) : Int), (l.length : Int) + (enc (cl a)).length + (enc (zig (clI a))).length + (enc s.size).length, 0) := by
    have := getS_enc (l ++ enc (cl a) ++ enc (zig (clI a))) (bytesOf s) s.size (by omega) ((l.length : Int) + (enc (cl a)).length + (enc (zig (clI a))).length) (by simp only [List.length_append]; omega)
    rw [← hall]; exact this
  have gi : getIntS B ((l.length : Int) + (enc (cl a)).length) = (clI a, (l.length : Int) + (enc (cl a)).length + (enc (zig (clI a))).length, 0) := by
    unfold getIntS; rw [g2]; simp [zag_zig]
  have gt : getTextS B ((l.length : Int) + (enc (cl a)).length + (enc (zig (clI a))).length) (s.size : Int) = (s, (B.length : Int), 0) := by
    unfold getTextS
    rw [g3]
    simp only
    have hcut : (B.take ((l.length : Int) + (enc (cl a)).length + (enc (zig (clI a))).length + (enc s.size).length + (s.size : Int)).toNat).drop ((l.length : Int) + (enc (cl a)).length + (enc (zig (clI a))).length + (enc s.size).length).toNat = bytesOf s := by
      rw [List.take_of_length_le (by omega), ← hall]
      have e : ((l.length : Int) + (enc (cl a)).length + (enc (zig (clI a))).length + (enc s.size).length).toNat = (l ++ enc (cl a) ++ enc (zig (clI a)) ++ enc s.size).length := by simp only [List.length_append]; omega
      rw [e, ← List.append_assoc, List.drop_left]
    simp only [if_true]
    rw [if_neg (by unfold mx; split <;> omega), if_neg (by omega), hcut, strOfNums_bytesOf]
    rw [show (l.length : Int) + (enc (cl a)).length + (enc (zig (clI a))).length + (enc s.size).length + (s.size : Int) = (B.length : Int) by omega]
  have htk : B.take ((l.length : Int) : Int).toNat = l := by
    rw [← hall, Int.toNat_natCast, List.append_assoc, List.append_assoc]; simp
  rw [if_neg (by omega), if_pos (by omega), if_pos (by omega), htk]
  have hsame : remoralaw01_same.f l l = some true := by simp [remoralaw01_same.f]
  rw [hsame, Option.bind_some]
  simp only [remoralaw01_NumBack.j0, Bool.not_true]
  rw [if_neg (by simp), get_f 40 _ _ (by omega) hBb hBm, Option.bind_some, g1, getInt_f 40 _ _ (by omega) hBb hBm, Option.bind_some, gi, getText_f 40 _ _ _ (by omega) hBb hBm, Option.bind_some, gt]
  simp only [if_true]
  rw [cl_eq, if_pos rfl, if_pos (show clI a = mn (mx a (-2305843009213693952)) 2305843009213693951 from rfl)]
  exact awake_end 40 (by omega)
end Go.Proofs.Ytfdmkedpjbjfgaa.Pure
