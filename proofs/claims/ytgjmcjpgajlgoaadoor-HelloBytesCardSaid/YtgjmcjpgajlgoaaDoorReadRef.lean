/- Five numbers read one behind the other, by the program and by the document; the offer of bytes; an offer's bytes. -/
import Derived.Test.YtgjmcjpgajlgoaaDoorNumRef
import Derived.Test.YtgjmcjpgajlgoaaDoorCrcOpenRef
import Derived.Test.YtgjmcjpgajlgoaaDoorHelloRefCheck
import Derived.Test.YtgjmcjpgajlgoaaDoorPx4
import Derived.Test.YtgjmcjpgajlgoaaDoorPx6
import Derived.Test.YtgjmcjpgajlgoaaDoorPx5
import Derived.Test.YtgjmcjpgajlgoaaDoorPx2
import Derived.Test.YtgjmcjpgajlgoaaDoorPx3
set_option linter.unusedVariables false
namespace Go.Proofs.YtgjmcjpgajlgoaaDoor.Pure
open Go.RowKit Go.Proofs.YtgjmcjpgajlgoaaDoor.P Go.Proofs.YtgjmcjpgajlgoaaDoorW.PrintWords Go.Proofs.YtgjmcjpgajlgoaaDoorW.PrintLast Go.Proofs.YtgjmcjpgajlgoaaDoorW.PrintMore Go.Proofs.YtgjmcjpgajlgoaaDoor.Crc Go.Proofs.YtgjmcjpgajlgoaaDoor.Num
theorem readN_congr {G H : List Int → Int → Option (Int × Int × Int)} (l : List Int) (h : ∀ a, G l a = H l a) : ∀ (m : Nat) (a : Int), readN G l m a = readN H l m a
  | 0, a => rfl
  | m + 1, a => by
    unfold readN
    rw [h a]
    congr 1
    funext g
    rw [readN_congr l h m]
/-- What is read of m numbers. -/
def getL (l : List Int) (a : Int) : Option (Int × Int × Int) := some (getS l a)
theorem readN_some (l : List Int) : ∀ (m : Nat) (a : Int), ∃ vs af ef, readN getL l m a = some (vs, af, ef)
  | 0, a => ⟨_, _, _, rfl⟩
  | m + 1, a => by
    unfold readN getL
    rw [Option.bind_some]
    by_cases h : (getS l a).2.2 = 0
    · rw [if_pos h]
      obtain ⟨vs, af, ef, e⟩ := readN_some l m (getS l a).2.1
      rw [show (fun l a => some (getS l a)) = getL from rfl, e]
      exact ⟨_, _, _, rfl⟩
    · rw [if_neg h]
      exact ⟨_, _, _, rfl⟩
theorem open_len (l O : List Int) (e : Int) (hb : Byte l) (h : crc_Open.f l = some (O, e)) : Byte O ∧ O.length ≤ l.length := by
  unfold crc_Open.f at h
  split at h
  · simp only [Option.some.injEq, Prod.mk.injEq] at h
    obtain ⟨rfl, rfl⟩ := h
    exact ⟨fun x hx => (by cases hx), Nat.zero_le _⟩
  · split at h
    · split at h
      · simp only [Option.some.injEq, Prod.mk.injEq] at h
        obtain ⟨rfl, rfl⟩ := h
        exact ⟨byte_take hb _, by rw [List.length_take]; omega⟩
      · simp only [Option.some.injEq, Prod.mk.injEq] at h
        obtain ⟨rfl, rfl⟩ := h
        exact ⟨fun x hx => (by cases hx), Nat.zero_le _⟩
    · cases h
theorem open_some (l : List Int) (hl : l.length ≤ 140737488351232) : ∃ O e, crc_Open.f l = some (O, e) := by
  unfold crc_Open.f
  split
  · exact ⟨_, _, rfl⟩
  · rw [if_pos (by omega)]
    split <;> exact ⟨_, _, rfl⟩
/-- The offer of bytes, in plain words. -/
def readS (l : List Int) : Option (Int × Int × Int × Int × Int × Int) :=
  (crc_Open.f l).bind fun o => if o.2 = 0 then (if o.1.length = 0 then some (0, 0, 0, 0, 0, 5) else if rd o.1 0 = 82 then ((readN getL o.1 5 1).bind fun r => if r.2.2 = 0 then (if r.2.1 < (o.1.length : Int) then some (0, 0, 0, 0, 0, 5) else
    if OK (five r.1 0) (five r.1 1) (five r.1 2) (five r.1 3) (five r.1 4) then some (five r.1 0, five r.1 1, five r.1 2, five r.1 3, five r.1 4, 0) else some (0, 0, 0, 0, 0, 2)) else some (0, 0, 0, 0, 0, r.2.2)) else some (0, 0, 0, 0, 0, 5)) else some (0, 0, 0, 0, 0, o.2)
theorem read_f (k : Nat) (l : List Int) (hb : Byte l) (hl : l.length ≤ 140737488351232) (hk : 50 ≤ k) : hello_Read.f k l = readS l := by
  obtain ⟨O, e, ho⟩ := open_some l hl
  obtain ⟨hOb, hOl⟩ := open_len l O e hb ho
  unfold hello_Read.f readS
  rw [ho, Option.bind_some, Option.bind_some]
  dsimp only
  rw [readN_congr (G := num_Get.f k) (H := getL) O (fun a => get_f k O a (by omega) hOb (by omega))]
  congr 3
  congr 1
  funext r
  congr 2
  rw [check_f, Option.bind_some]
  by_cases h : OK (five r.1 0) (five r.1 1) (five r.1 2) (five r.1 3) (five r.1 4)
  · rw [if_pos h, if_pos h, if_pos rfl]
  · rw [if_neg h, if_neg h, if_neg (by decide)]
theorem refRead_f (k : Nat) (l : List Int) (hb : Byte l) (hl : l.length ≤ 140737488351232) (hk : l.length + 50 ≤ k) : remoraref32_Read.f k l = readS l := by
  obtain ⟨O, e, ho⟩ := open_some l hl
  obtain ⟨hOb, hOl⟩ := open_len l O e hb ho
  unfold remoraref32_Read.f readS
  rw [refOpen_f k l hb (by omega) (by omega), ho, Option.bind_some, Option.bind_some]
  dsimp only
  rw [readN_congr (G := remoraref01_Get.f k) (H := getL) O (fun a => refGet_f k O a (by omega) hOb (by omega))]
  congr 3
  congr 1
  funext r
  congr 2
  rw [refCheck_f, Option.bind_some]
  by_cases h : OK (five r.1 0) (five r.1 1) (five r.1 2) (five r.1 3) (five r.1 4)
  · rw [if_pos h, if_pos h, if_pos rfl]
  · rw [if_neg h, if_neg h, if_neg (by decide)]
theorem readS_some (l : List Int) (hl : l.length ≤ 140737488351232) : ∃ x, readS l = some x := by
  obtain ⟨O, e, ho⟩ := open_some l hl
  unfold readS
  rw [ho, Option.bind_some]
  obtain ⟨vs, af, ef, hn⟩ := readN_some O 5 1
  dsimp only
  rw [hn, Option.bind_some]
  split
  · split
    · exact ⟨_, rfl⟩
    · split
      · split
        · split
          · exact ⟨_, rfl⟩
          · split <;> exact ⟨_, rfl⟩
        · exact ⟨_, rfl⟩
      · exact ⟨_, rfl⟩
  · exact ⟨_, rfl⟩
/-- What is sealed of an offer. -/
def ownH (a b c d e : Int) : List Int := [82] ++ enc (cl a) ++ enc (cl b) ++ enc (cl c) ++ enc (cl d) ++ enc (cl e)
def encH (a b c d e : Int) : List Int := ownH a b c d e ++ sealL (crcSum (ownH a b c d e))
theorem encl_len (a : Int) : (enc (cl a)).length ≤ 9 := enc_len9 (by have := cl_le a; omega)
theorem ownH_len (a b c d e : Int) : (ownH a b c d e).length ≤ 46 := by
  have h1 := encl_len a
  have h2 := encl_len b
  have h3 := encl_len c
  have h4 := encl_len d
  have h5 := encl_len e
  unfold ownH
  simp only [List.length_append, List.length_singleton]
  omega
theorem ownH_byte (a b c d e : Int) : Byte (ownH a b c d e) := by
  unfold ownH
  exact byte_append (byte_append (byte_append (byte_append (byte_append (fun x hx => by rw [List.mem_singleton.1 hx]; omega) (enc_byt _)) (enc_byt _)) (enc_byt _)) (enc_byt _)) (enc_byt _)
theorem bytes_step (k : Nat) (x L : List Int) (i v : Int) (hv : rd L i = v) (h0 : 0 ≤ i) (h1 : i < 5) (hL : L.length = 5) (hk : 12 ≤ k) (hx : x.length ≤ 1000) : hello_Bytes.l0 (k + 1) x L 5 i = hello_Bytes.l0 k (x ++ enc (cl v)) L 5 (i + 1) := by
  subst hv
  rw [hello_Bytes.l0, if_pos h1, if_pos h0, if_pos (by omega), put_f k x _ hk (by omega), Option.bind_some, w64' (by omega) (by omega)]
theorem bytes_f (k : Nat) (a b c d e : Int) (hk : 30 ≤ k) : hello_Bytes.f (k + 6) a b c d e = some (if OK a b c d e then (encH a b c d e, 0) else ([], 2)) := by
  unfold hello_Bytes.f
  rw [check_f, Option.bind_some]
  by_cases h : OK a b c d e
  · rw [if_pos h, if_pos h, if_pos rfl, Option.bind_some]
    have h1 := encl_len a
    have h2 := encl_len b
    have h3 := encl_len c
    have h4 := encl_len d
    have h5 := encl_len e
    rw [show (([a, b, c, d, e] : List Int).length : Int) = 5 from rfl, bytes_step (k + 5) _ _ 0 a rfl (by omega) (by omega) rfl (by omega) (by simp), bytes_step (k + 4) _ _ (0 + 1) b rfl (by omega) (by omega) rfl (by omega) (by simp; omega), bytes_step (k + 3) _ _ (0 + 1 + 1) c rfl (by omega) (by omega) rfl (by omega) (by simp; omega),
      bytes_step (k + 2) _ _ (0 + 1 + 1 + 1) d rfl (by omega) (by omega) rfl (by omega) (by simp; omega), bytes_step (k + 1) _ _ (0 + 1 + 1 + 1 + 1) e rfl (by omega) (by omega) rfl (by omega) (by simp; omega), hello_Bytes.l0, if_neg (by omega)]
    show (crc_Seal.f (ownH a b c d e)).bind _ = _
    have := ownH_len a b c d e
    unfold crc_Seal.f
    rw [if_pos (by omega)]
    rfl
  · rw [if_neg h, if_neg h, if_neg (by decide)]
theorem refBytes_f (k : Nat) (a b c d e : Int) (hk : 200 ≤ k) : remoraref32_Bytes.f k a b c d e = some (if OK a b c d e then (encH a b c d e, 0) else ([], 2)) := by
  unfold remoraref32_Bytes.f
  rw [refCheck_f, Option.bind_some]
  by_cases h : OK a b c d e
  · rw [if_pos h, if_pos h, if_pos rfl]
    have h1 := encl_len a
    have h2 := encl_len b
    have h3 := encl_len c
    have h4 := encl_len d
    have h5 := encl_len e
    have h6 := ownH_len a b c d e
    rw [refPut_f k _ a (by omega) (by simp), Option.bind_some, refPut_f k _ b (by omega) (by simp; omega), Option.bind_some, refPut_f k _ c (by omega) (by simp; omega), Option.bind_some, refPut_f k _ d (by omega) (by simp; omega), Option.bind_some, refPut_f k _ e (by omega) (by simp; omega), Option.bind_some]
    show (remoraref02_Seal.f k (ownH a b c d e)).bind _ = _
    rw [refSeal_f k _ (ownH_byte a b c d e) (by omega) (by omega), Option.bind_some]
    rfl
  · rw [if_neg h, if_neg h, if_neg (by decide)]
end Go.Proofs.YtgjmcjpgajlgoaaDoor.Pure
