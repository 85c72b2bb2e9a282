/- What is read of the bytes of lines that may be: the lines. -/
import Derived.Test.YtniboafnkiijcaaDoorLedSpecP
import Derived.Test.YtniboafnkiijcaaDoorPx0
import Derived.Test.YtniboafnkiijcaaDoorPx1
set_option linter.unusedVariables false
set_option linter.unusedSimpArgs false
namespace Go.Proofs.YtniboafnkiijcaaDoor.P
open Go.RowKit Go.Proofs.YtniboafnkiijcaaDoorW.PrintWords Go.Proofs.YtniboafnkiijcaaDoorW.PrintLast Go.Proofs.YtniboafnkiijcaaDoorW.PrintMore Go.Proofs.YtniboafnkiijcaaDoor.Num
theorem open_seal (b : List Int) (hl : b.length ≤ 140737488352000) : crc_Open.f (b ++ sealL (crcSum b)) = some (b, 0) := by
  have h4 : (b ++ sealL (crcSum b)).length = b.length + 4 := by simp [sealL]
  unfold crc_Open.f
  rw [if_neg (by omega), if_pos (by omega), h4, show b.length + 4 - 4 = b.length by omega, List.drop_left, List.take_left, if_pos rfl]
theorem str_bytes (s : ByteArray) : strOfNums (bytesOf s) = s := by
  obtain ⟨d⟩ := s
  unfold strOfNums bytesOf
  congr 1
  simp only [List.map_map]
  have : ∀ l : List UInt8, l.map ((fun n : Int => UInt8.ofNat n.toNat) ∘ fun b => (b.toNat : Int)) = l := by
    intro l
    induction l with
    | nil => rfl
    | cons a t ih => rw [List.map_cons, ih]; simp
  rw [this]
theorem text_enc (a b : List Int) (p : ByteArray) (hp : p.size ≤ 200) (at_ : Int) (ha : at_ = (a.length : Int)) : getTextS (a ++ ((enc p.size ++ bytesOf p) ++ b)) at_ 200 = (p, at_ + (enc p.size ++ bytesOf p).length, 0) := by
  have h1 := getS_enc a (bytesOf p ++ b) p.size (by omega) at_ ha
  rw [← List.append_assoc (enc p.size)] at h1
  unfold getTextS
  rw [h1, if_pos rfl, if_neg (by unfold mx; split <;> omega), if_neg (by simp only [List.length_append, bytesOf_length]; omega)]
  have e1 : (at_ + ((enc p.size).length : Int) + (p.size : Int)).toNat = (a ++ (enc p.size ++ bytesOf p)).length := by simp only [List.length_append, bytesOf_length]; omega
  have e2 : (at_ + ((enc p.size).length : Int)).toNat = (a ++ enc p.size).length := by simp only [List.length_append]; omega
  dsimp only
  rw [e1, e2, show a ++ ((enc p.size ++ bytesOf p) ++ b) = (a ++ (enc p.size ++ bytesOf p)) ++ b by simp only [List.append_assoc], List.take_left, show a ++ (enc p.size ++ bytesOf p) = (a ++ enc p.size) ++ bytesOf p by simp only [List.append_assoc], List.drop_left, str_bytes]
  simp only [List.length_append, bytesOf_length]
  congr 2
  omega
theorem num_enc (a b : List Int) (n : Int) (h0 : 0 ≤ n) (h1 : n ≤ 4611686018427387903) (at_ : Int) (ha : at_ = (a.length : Int)) : getS (a ++ (enc (cl n) ++ b)) at_ = (n, at_ + (enc (cl n)).length, 0) := by
  rw [getS_enc a b (cl n) (cl_le n) at_ ha]
  have : (cl n : Int) = n := by unfold cl mn mx; split <;> split <;> omega
  rw [this]
theorem int_enc (a b : List Int) (n : Int) (h0 : -2305843009213693952 ≤ n) (h1 : n ≤ 2305843009213693951) (at_ : Int) (ha : at_ = (a.length : Int)) : getIntS (a ++ (enc (zig (clI n)) ++ b)) at_ = (n, at_ + (enc (zig (clI n))).length, 0) := by
  have hc : clI n = n := by unfold clI mn mx; split <;> split <;> omega
  unfold getIntS
  rw [getS_enc a b (zig (clI n)) (zig_le (clI_le n).1 (clI_le n).2) at_ ha, if_pos rfl]
  dsimp only
  rw [zag_zig, hc]
theorem stepG_ok {G : Int → Int × Int × Int} {a : Int} : stepG G (a, 0) = ((G a).1, (G a).2) := by unfold stepG; rw [if_pos rfl]
theorem rdLine_enc (a b : List Int) (x : Ln) (h : mayF x = 0) (at_ : Int) (ha : at_ = (a.length : Int)) : rdLine (a ++ (encLine x ++ b)) at_ = (x, (at_ + (encLine x).length, 0)) := by
  have hs := may_sizes h
  obtain ⟨O, hO⟩ : ∃ O, a ++ (encLine x ++ b) = O := ⟨_, rfl⟩
  obtain ⟨p, ino, size, sec, nano, sum⟩ := x
  dsimp only at hs
  have f0 : rdA O at_ = (p, at_ + (enc p.size ++ bytesOf p).length, 0) := by
    rw [← hO]
    unfold rdA encLine
    dsimp only
    rw [List.append_assoc (enc p.size ++ bytesOf p)]
    exact text_enc a _ p hs.1 at_ ha
  have f1 : rd1 O at_ = (ino, (at_ + (enc p.size ++ bytesOf p).length + (enc (cl ino)).length, 0)) := by
    unfold rd1
    rw [f0, stepG_ok, ← hO]
    have := num_enc (a ++ (enc p.size ++ bytesOf p)) (enc (cl size) ++ (enc (zig (clI sec)) ++ (enc (cl nano) ++ (bytesOf sum ++ b)))) ino (by omega) (by omega) (at_ + (enc p.size ++ bytesOf p).length) (by simp only [List.length_append]; omega)
    unfold encLine
    simp only [List.append_assoc] at this ⊢
    rw [this]
  have f2 : rd2 O at_ = (size, (at_ + (enc p.size ++ bytesOf p).length + (enc (cl ino)).length + (enc (cl size)).length, 0)) := by
    unfold rd2
    rw [f1, stepG_ok, ← hO]
    have := num_enc (a ++ ((enc p.size ++ bytesOf p) ++ enc (cl ino))) (enc (zig (clI sec)) ++ (enc (cl nano) ++ (bytesOf sum ++ b))) size (by omega) (by omega) (at_ + (enc p.size ++ bytesOf p).length + (enc (cl ino)).length) (by simp only [List.length_append]; omega)
    unfold encLine
    simp only [List.append_assoc] at this ⊢
    rw [this]
  have f3 : rd3 O at_ = (sec, (at_ + (enc p.size ++ bytesOf p).length + (enc (cl ino)).length + (enc (cl size)).length + (enc (zig (clI sec))).length, 0)) := by
    unfold rd3
    rw [f2, stepG_ok, ← hO]
    have := int_enc (a ++ ((enc p.size ++ bytesOf p) ++ (enc (cl ino) ++ enc (cl size)))) (enc (cl nano) ++ (bytesOf sum ++ b)) sec (by omega) (by omega) (at_ + (enc p.size ++ bytesOf p).length + (enc (cl ino)).length + (enc (cl size)).length) (by simp only [List.length_append]; omega)
    unfold encLine
    simp only [List.append_assoc] at this ⊢
    rw [this]
  have f4 : rd4 O at_ = (nano, (at_ + (enc p.size ++ bytesOf p).length + (enc (cl ino)).length + (enc (cl size)).length + (enc (zig (clI sec))).length + (enc (cl nano)).length, 0)) := by
    unfold rd4
    rw [f3, stepG_ok, ← hO]
    have := num_enc (a ++ ((enc p.size ++ bytesOf p) ++ (enc (cl ino) ++ (enc (cl size) ++ enc (zig (clI sec)))))) (bytesOf sum ++ b) nano (by omega) (by omega) (at_ + (enc p.size ++ bytesOf p).length + (enc (cl ino)).length + (enc (cl size)).length + (enc (zig (clI sec))).length) (by simp only [List.length_append]; omega)
    unfold encLine
    simp only [List.append_assoc] at this ⊢
    rw [this]
  have hlen : (O.length : Int) = at_ + (enc p.size ++ bytesOf p).length + (enc (cl ino)).length + (enc (cl size)).length + (enc (zig (clI sec))).length + (enc (cl nano)).length + 32 + b.length := by
    rw [← hO]
    unfold encLine
    simp only [List.length_append, bytesOf_length]
    omega
  have fE : rdE O at_ = 0 := by
    unfold rdE
    rw [f4, if_pos rfl, if_neg (by dsimp only; omega)]
  have fS : rdSm O at_ = sum := by
    unfold rdSm
    rw [f4]
    dsimp only
    obtain ⟨c, hc⟩ : ∃ c, a ++ ((enc p.size ++ bytesOf p) ++ (enc (cl ino) ++ (enc (cl size) ++ (enc (zig (clI sec)) ++ enc (cl nano))))) = c := ⟨_, rfl⟩
    have hcl : (c.length : Int) = at_ + (enc p.size ++ bytesOf p).length + (enc (cl ino)).length + (enc (cl size)).length + (enc (zig (clI sec))).length + (enc (cl nano)).length := by
      rw [← hc]
      simp only [List.length_append]
      omega
    have hOc : O = c ++ (bytesOf sum ++ b) := by
      rw [← hO, ← hc]
      unfold encLine
      simp only [List.append_assoc]
    rw [← hcl, hOc, ← List.append_assoc, show ((c.length : Int) + 32).toNat = (c ++ bytesOf sum).length by rw [List.length_append, bytesOf_length]; omega, List.take_left, Int.toNat_natCast, List.drop_left, str_bytes]
  rw [hO]
  unfold rdLine
  rw [if_pos fE]
  unfold rdX
  rw [f0, f1, f2, f3, f4, fS]
  dsimp only
  rw [h]
  have e : ((encLine ⟨p, ino, size, sec, nano, sum⟩).length : Int) = (enc p.size ++ bytesOf p).length + (enc (cl ino)).length + (enc (cl size)).length + (enc (zig (clI sec))).length + (enc (cl nano)).length + 32 := by
    unfold encLine
    simp only [List.length_append, bytesOf_length]
    omega
  rw [e]
  congr 2
  omega
theorem rdLines_enc (b : List Int) : ∀ (S : List Ln) (a : List Int) (T : List Ln) (at_ : Int), at_ = (a.length : Int) → (∀ x ∈ S, mayF x = 0) → (paths (T ++ S)).Nodup → rdLines (a ++ (encLines S ++ b)) S.length at_ T = (0, (at_ + (encLines S).length, T ++ S))
  | [], a, T, at_, ha, h, hn => by
    show (0, (at_, T)) = _
    simp [encLines]
  | x :: S, a, T, at_, ha, h, hn => by
    have hx := h x (by simp)
    have e : a ++ (encLines (x :: S) ++ b) = a ++ (encLine x ++ (encLines S ++ b)) := by
      unfold encLines
      rw [List.flatMap_cons, List.append_assoc]
    have hr := rdLine_enc a (encLines S ++ b) x hx at_ ha
    have hno : T.any (fun y => eqP x.path y.path) = false := by
      rw [List.any_eq_false]
      intro y hy he
      have h1 := (eqP_iff _ _).1 he
      unfold paths at hn
      rw [List.map_append, List.nodup_append] at hn
      exact hn.2.2 y.path (List.mem_map.2 ⟨y, hy, rfl⟩) x.path (by simp) h1
    rw [e, List.length_cons, rdLines, hr, if_pos rfl]
    dsimp only
    rw [hno, if_neg (by simp)]
    have ih := rdLines_enc b S (a ++ encLine x) (T ++ [x]) (at_ + (encLine x).length) (by rw [List.length_append]; omega) (fun y hy => h y (by simp [hy])) (by rw [List.append_assoc]; exact hn)
    rw [List.append_assoc] at ih
    rw [ih]
    unfold encLines
    rw [List.flatMap_cons, List.length_append]
    simp only [List.append_assoc, List.singleton_append, Prod.mk.injEq, and_true, true_and]
    omega
theorem rdTop_body (S : List Ln) (room : Int) (h : ∀ x ∈ S, mayF x = 0) (hn : (paths S).Nodup) (hl : (S.length : Int) ≤ room) (hr : room ≤ 100000) : rdTop (bodyL S) room = (0, S) := by
  have h1 := getS_enc [] (encLines S) S.length (by omega) 0 (by simp)
  rw [List.nil_append] at h1
  have h2 := rdLines_enc [] S (enc S.length) [] ((enc S.length).length : Int) rfl h (by simpa using hn)
  rw [List.append_nil] at h2
  unfold rdTop
  show (if (getS (enc S.length ++ encLines S) 0).2.2 ≠ 0 then _ else _) = _
  rw [show bodyL S = enc S.length ++ encLines S from rfl, h1]
  dsimp only
  rw [Int.zero_add, Int.toNat_natCast, h2, if_neg (by simp), if_neg (by omega), if_neg (by simp), if_neg (by simp only [List.length_append]; omega)]
  rfl
theorem backHyp (S : List Ln) (h : ∀ x ∈ S, mayF x = 0) (hl : S.length ≤ 300) (hn : (paths S).Nodup) : BackHyp S := by
  have hb := bodyL_len S h (by omega)
  have hb2 : (bodyL S).length ≤ 100000 := by
    have h1 := encLines_len S h
    have h2 := enc_le9 (n := S.length) (by omega)
    unfold bodyL
    rw [List.length_append]
    omega
  have hO : (bodyL S).length ≤ 140737488355328 := by omega
  have hy := bodyL_byt S
  exact ⟨2000000, _, bodyL S, bytes_f 2000000 S (Nat.le_refl _) h (by omega), open_seal _ (by omega), hy, by omega, fun room h1 h2 => rdTop_body S room h hn h1 (by omega),
    fun a => get_f _ _ a (by omega) hy hO, fun a => getInt_f _ _ a (by omega) hy hO, fun a => getText_f _ _ a 200 (by omega) hy hO⟩
end Go.Proofs.YtniboafnkiijcaaDoor.P
