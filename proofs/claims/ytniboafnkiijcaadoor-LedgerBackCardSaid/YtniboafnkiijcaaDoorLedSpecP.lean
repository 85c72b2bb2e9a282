/- The bytes of a ledger's lines: the program's alone. -/
import Derived.Test.YtniboafnkiijcaaDoorNumMore
import Derived.Test.YtniboafnkiijcaaDoorPx0
set_option linter.unusedVariables false
set_option linter.unusedSimpArgs false
namespace Go.Proofs.YtniboafnkiijcaaDoor.P
open Go.RowKit Go.Proofs.YtniboafnkiijcaaDoorW.PrintWords Go.Proofs.YtniboafnkiijcaaDoorW.PrintLast Go.Proofs.YtniboafnkiijcaaDoorW.PrintMore Go.Proofs.YtniboafnkiijcaaDoor.Num
def encLine (x : Ln) : List Int := (enc x.path.size ++ bytesOf x.path) ++ (enc (cl x.ino) ++ (enc (cl x.size) ++ (enc (zig (clI x.sec)) ++ (enc (cl x.nano) ++ bytesOf x.sum))))
def encLines (S : List Ln) : List Int := S.flatMap encLine
def bodyL (S : List Ln) : List Int := enc S.length ++ encLines S
theorem may_parts {x : Ln} (h : mayF x = 0) : rightF x.path = true ∧ x.path.toList.isEmpty = false ∧ wrongF x = false := by
  unfold mayF at h
  split at h
  · omega
  · rename_i h1
    split at h
    · omega
    · rename_i h2
      have h3 : (!rightF x.path || x.path.toList.isEmpty) = false := by simpa using h1
      obtain ⟨h4, h5⟩ := Bool.or_eq_false_iff.1 h3
      exact ⟨by simpa using h4, h5, by simpa using h2⟩
theorem may_sizes {x : Ln} (h : mayF x = 0) : x.path.size ≤ 200 ∧ x.sum.size = 32 ∧ 1 ≤ x.ino ∧ x.ino ≤ 4611686018427387903 ∧ 0 ≤ x.size ∧ x.size ≤ 65536 ∧ -1099511627776 ≤ x.sec ∧ x.sec ≤ 1099511627776 ∧ 0 ≤ x.nano ∧ x.nano ≤ 999999999 := by
  obtain ⟨h1, _, h3⟩ := may_parts h
  unfold rightF at h1
  rw [Bool.and_eq_true] at h1
  unfold wrongF at h3
  simp only [Bool.or_eq_false_iff, Bool.not_eq_false', decide_eq_false_iff_not, decide_eq_true_eq] at h3
  obtain ⟨⟨⟨⟨⟨⟨⟨⟨a1, a2⟩, a3⟩, a4⟩, a5⟩, a6⟩, a7⟩, a8⟩, a9⟩ := h3
  exact ⟨of_decide_eq_true h1.2, a9, by omega, by omega, by omega, by omega, by omega, by omega, by omega, by omega⟩
theorem enc_le9 {n : Nat} (h : n ≤ 4611686018427387903) : (enc n).length ≤ 9 := enc_len9 (by omega)
theorem encLine_len {x : Ln} (h : mayF x = 0) : (encLine x).length ≤ 300 := by
  have hs := may_sizes h
  have h1 := enc_le9 (n := x.path.size) (by omega)
  have h2 := enc_le9 (cl_le x.ino)
  have h3 := enc_le9 (cl_le x.size)
  have h4 := enc_le9 (zig_le (clI_le x.sec).1 (clI_le x.sec).2)
  have h5 := enc_le9 (cl_le x.nano)
  unfold encLine
  simp only [List.length_append, bytesOf_length]
  omega
theorem ledLine_f (k : Nat) (b : List Int) (x : Ln) (hk : 12 ≤ k) (h : mayF x = 0) (hl : b.length ≤ 140737480000000) : ledLine k b x = some (b ++ encLine x) := by
  have hs := may_sizes h
  have h1 := enc_le9 (n := x.path.size) (by omega)
  have h2 := enc_le9 (cl_le x.ino)
  have h3 := enc_le9 (cl_le x.size)
  have h4 := enc_le9 (zig_le (clI_le x.sec).1 (clI_le x.sec).2)
  have h5 := enc_le9 (cl_le x.nano)
  unfold ledLine
  rw [putText_f k b _ hk (by omega), Option.bind_some, put_f k _ _ hk (by simp only [List.length_append, bytesOf_length]; omega), Option.bind_some, put_f k _ _ hk (by simp only [List.length_append, bytesOf_length]; omega), Option.bind_some, putInt_f k _ _ hk (by simp only [List.length_append, bytesOf_length]; omega), Option.bind_some, put_f k _ _ hk (by simp only [List.length_append, bytesOf_length]; omega), Option.bind_some, if_pos (by simp only [List.length_append, bytesOf_length]; omega)]
  unfold encLine
  simp only [List.append_assoc]
theorem ledLines_f (k : Nat) (hk : 12 ≤ k) : ∀ (S : List Ln) (b : List Int), (∀ x ∈ S, mayF x = 0) → b.length + 300 * S.length ≤ 140737480000000 → ledLines k b S = some (b ++ encLines S)
  | [], b, _, _ => by simp [ledLines, encLines]
  | x :: S, b, h, hl => by
    have hx := h x (by simp)
    have h1 := encLine_len hx
    simp only [List.length_cons] at hl
    have ih := ledLines_f k hk S (b ++ encLine x) (fun y hy => h y (by simp [hy])) (by simp only [List.length_append]; omega)
    have e : b ++ encLine x ++ encLines S = b ++ encLines (x :: S) := by
      unfold encLines
      rw [List.flatMap_cons, List.append_assoc]
    rw [e] at ih
    rw [ledLines, ledLine_f k b x hk hx (by omega), Option.bind_some]
    exact ih
theorem encLines_len : ∀ (S : List Ln), (∀ x ∈ S, mayF x = 0) → (encLines S).length ≤ 300 * S.length
  | [], _ => by simp [encLines]
  | x :: S, h => by
    have h1 := encLine_len (h x (by simp))
    have ih := encLines_len S (fun y hy => h y (by simp [hy]))
    unfold encLines at ih ⊢
    rw [List.flatMap_cons, List.length_append, List.length_cons]
    omega
theorem encLine_byt (x : Ln) : Byt (encLine x) := ((enc_byt _).append (bytesOf_byt _)).append ((enc_byt _).append ((enc_byt _).append ((enc_byt _).append ((enc_byt _).append (bytesOf_byt _)))))
theorem encLines_byt (S : List Ln) : Byt (encLines S) := fun y hy => by
  obtain ⟨x, _, hx⟩ := List.mem_flatMap.1 hy
  exact encLine_byt x y hx
theorem bodyL_byt (S : List Ln) : Byt (bodyL S) := (enc_byt _).append (encLines_byt S)
theorem bodyL_len (S : List Ln) (h : ∀ x ∈ S, mayF x = 0) (hl : S.length ≤ 5000) : (bodyL S).length ≤ 1500009 := by
  have h1 := encLines_len S h
  have h2 := enc_le9 (n := S.length) (by omega)
  unfold bodyL
  rw [List.length_append]
  omega
theorem bytes_f (k : Nat) (S : List Ln) (hk : 2000000 ≤ k) (h : ∀ x ∈ S, mayF x = 0) (hl : S.length ≤ 5000) : ledBytesF k S = some (bodyL S ++ sealL (crcSum (bodyL S))) := by
  have hc : cl (S.length : Int) = S.length := cl_nat _ (by omega)
  have h2 := enc_le9 (n := S.length) (by omega)
  have hb := bodyL_len S h hl
  have h3 := ledLines_f k (by omega) S (enc S.length) h (by omega)
  unfold ledBytesF
  rw [put_f k [] _ (by omega) (by simp), Option.bind_some, hc, List.nil_append, h3, Option.bind_some]
  unfold crc_Seal.f
  exact if_pos (show (bodyL S).length + 4 ≤ _ by omega)
end Go.Proofs.YtniboafnkiijcaaDoor.P
