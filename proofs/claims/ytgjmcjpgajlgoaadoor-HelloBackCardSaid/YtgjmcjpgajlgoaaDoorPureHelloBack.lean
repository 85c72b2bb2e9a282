/- The law HelloBack: what is put is read, what is read is put as the same bytes, and a turned sum is seen. -/
import Derived.Test.YtgjmcjpgajlgoaaDoorReadRef
import Derived.Test.YtgjmcjpgajlgoaaDoorPx7
set_option linter.unusedVariables false
namespace Go.Proofs.YtgjmcjpgajlgoaaDoor.Pure
open Go.RowKit Go.Proofs.YtgjmcjpgajlgoaaDoor.P Go.Proofs.YtgjmcjpgajlgoaaDoorW.PrintWords Go.Proofs.YtgjmcjpgajlgoaaDoorW.PrintLast Go.Proofs.YtgjmcjpgajlgoaaDoorW.PrintMore Go.Proofs.YtgjmcjpgajlgoaaDoor.Crc Go.Proofs.YtgjmcjpgajlgoaaDoor.Num
def encs : List Nat → List Int
  | [] => []
  | x :: t => enc x ++ encs t
def ints (xs : List Nat) : List Int := xs.map fun (x : Nat) => (x : Int)
theorem read_back : ∀ (xs : List Nat) (A B : List Int) (a : Int), (∀ x ∈ xs, x ≤ 4611686018427387903) → a = (A.length : Int) → readN getL (A ++ (encs xs ++ B)) xs.length a = some (ints xs, a + ((encs xs).length : Int), 0)
  | [], A, B, a, _, _ => by simp [readN, ints, encs]
  | x :: t, A, B, a, hx, ha => by
    have h1 := getS_enc A (encs t ++ B) x (hx x (by simp)) a ha
    have e : A ++ (encs (x :: t) ++ B) = A ++ (enc x ++ (encs t ++ B)) := by simp [encs]
    have ih := read_back t (A ++ enc x) B (a + (enc x).length) (fun y hy => hx y (by simp [hy])) (by rw [ha]; simp)
    rw [List.length_cons, readN, e]
    unfold getL
    rw [h1, Option.bind_some, if_pos rfl]
    rw [show A ++ enc x ++ (encs t ++ B) = A ++ (enc x ++ (encs t ++ B)) by simp] at ih
    rw [show (fun l a => some (getS l a)) = getL from rfl, ih, Option.bind_some]
    simp only [ints, List.map_cons, encs, List.length_append, Option.some.injEq, Prod.mk.injEq, true_and, and_true]
    omega
theorem read_inv (O : List Int) (hb : Byte O) : ∀ (m : Nat) (a : Int) (vs : List Int) (af : Int), 0 ≤ a → a ≤ (O.length : Int) → readN getL O m a = some (vs, af, 0) →
    ∃ xs : List Nat, xs.length = m ∧ vs = ints xs ∧ (∀ x ∈ xs, x ≤ 4611686018427387903) ∧ af = a + ((encs xs).length : Int) ∧ af ≤ (O.length : Int) ∧ (O.drop a.toNat).take (encs xs).length = encs xs
  | 0, a, vs, af, h0, h1, h => by
    simp only [readN, Option.some.injEq, Prod.mk.injEq, and_true] at h
    obtain ⟨rfl, rfl⟩ := h
    exact ⟨[], rfl, rfl, fun x hx => (by cases hx), by simp [encs], h1, by simp [encs]⟩
  | m + 1, a, vs, af, h0, h1, h => by
    unfold readN getL at h
    rw [Option.bind_some] at h
    rcases getS_range O a hb with ⟨hw, _⟩ | ⟨hw, x, hn, hx, _, hf, hfl, hen⟩
    · rw [if_neg hw] at h
      simp only [Option.some.injEq, Prod.mk.injEq] at h
      exact absurd h.2.2 hw
    · rw [if_pos hw] at h
      obtain ⟨⟨r1, r2, r3⟩, hr, he⟩ := Option.bind_eq_some_iff.1 h
      simp only [Option.some.injEq, Prod.mk.injEq] at he
      obtain ⟨rfl, rfl, rfl⟩ := he
      obtain ⟨xs, e1, e2, e3, e4, e5, e6⟩ := read_inv O hb m _ _ _ (by omega) (by omega) hr
      refine ⟨x :: xs, by simp [e1], by rw [hn, e2]; rfl, fun y hy => ?_, ?_, e5, ?_⟩
      · rcases List.mem_cons.1 hy with rfl | hy
        · exact hx
        · exact e3 y hy
      · rw [e4, hf]; simp only [encs, List.length_append]; omega
      · obtain ⟨r, hr'⟩ : ∃ r, O.drop a.toNat = enc x ++ r := ⟨(O.drop a.toNat).drop (enc x).length, by conv => lhs; rw [← List.take_append_drop (enc x).length (O.drop a.toNat), hen]⟩
        have hd : O.drop (getS O a).2.1.toNat = r := by
          rw [hf, show (a + ((enc x).length : Int)).toNat = a.toNat + (enc x).length by omega, ← List.drop_drop, hr', List.drop_left]
        rw [hd] at e6
        simp only [encs, List.length_append]
        rw [hr', List.take_append, List.take_of_length_le (by omega), Nat.add_sub_cancel_left, e6]
theorem five_ints (a b c d e : Nat) : ints [a, b, c, d, e] = [(a : Int), (b : Int), (c : Int), (d : Int), (e : Int)] := rfl
theorem ownH_encs (a b c d e : Nat) (ha : a ≤ 4611686018427387903) (hb : b ≤ 4611686018427387903) (hc : c ≤ 4611686018427387903) (hd : d ≤ 4611686018427387903) (he : e ≤ 4611686018427387903) : ownH a b c d e = [82] ++ (encs [a, b, c, d, e] ++ []) := by
  unfold ownH
  rw [cl_nat a ha, cl_nat b hb, cl_nat c hc, cl_nat d hd, cl_nat e he]
  simp [encs]
theorem rd_cons (x : Int) (t : List Int) : rd (x :: t) 0 = x := rfl
/-- What is put is read. -/
theorem read_enc (a b c d e : Nat) (h : OK a b c d e) : readS (encH a b c d e) = some ((a : Int), (b : Int), (c : Int), (d : Int), (e : Int), 0) ∧ 6 ≤ (ownH (a : Int) b c d e).length := by
  have h' := h
  obtain ⟨k1, k2, k3, k4, k5, k6, k7, k8⟩ := h
  have ho := ownH_encs a b c d e (by omega) (by omega) (by omega) (by omega) (by omega)
  have hl := ownH_len a b c d e
  have hr := read_back [a, b, c, d, e] [82] [] 1 (fun x hx => by simp at hx; rcases hx with rfl | rfl | rfl | rfl | rfl <;> omega) (by simp)
  rw [← ho] at hr
  have p1 := enc_pos a
  have p2 := enc_pos b
  have p3 := enc_pos c
  have p4 := enc_pos d
  have p5 := enc_pos e
  have hlen : (ownH (a : Int) b c d e).length = 1 + (encs [a, b, c, d, e]).length := by rw [ho]; simp; omega
  have hl6 : 6 ≤ (ownH (a : Int) b c d e).length := by rw [hlen]; simp only [encs, List.length_append, List.length_nil]; omega
  refine ⟨?_, hl6⟩
  unfold readS encH
  rw [open_seal _ (ownH_byte _ _ _ _ _) (by omega), Option.bind_some]
  dsimp only
  rw [if_pos rfl, if_neg (by omega), show rd (ownH (a : Int) b c d e) 0 = 82 by rw [ho]; rfl, if_pos rfl, show (5 : Nat) = [a, b, c, d, e].length from rfl, hr, Option.bind_some]
  dsimp only
  rw [if_pos rfl, if_neg (by rw [hlen]; omega), five_ints, show five [(a : Int), b, c, d, e] 0 = a from rfl, show five [(a : Int), b, c, d, e] 1 = b from rfl, show five [(a : Int), b, c, d, e] 2 = c from rfl, show five [(a : Int), b, c, d, e] 3 = d from rfl, show five [(a : Int), b, c, d, e] 4 = e from rfl, if_pos h']
theorem open_inv (l O : List Int) (h : crc_Open.f l = some (O, 0)) : l = O ++ sealL (crcSum O) := by
  unfold crc_Open.f at h
  split at h
  · simp at h
  · split at h
    · split at h
      · rename_i hs
        simp only [Option.some.injEq, Prod.mk.injEq, and_true] at h
        rw [h] at hs
        rw [← hs, ← h, List.take_append_drop]
      · simp at h
    · cases h
/-- What is read of bytes that are right is put as these bytes. -/
theorem read_put (l : List Int) (hb : Byte l) (hl : l.length ≤ 140737488351232) (p0 p1 p2 p3 p4 f : Int) (h : readS l = some (p0, p1, p2, p3, p4, f)) :
    (f ≠ 0 ∧ p0 = 0 ∧ p1 = 0 ∧ p2 = 0 ∧ p3 = 0 ∧ p4 = 0) ∨ (f = 0 ∧ OK p0 p1 p2 p3 p4 ∧ encH p0 p1 p2 p3 p4 = l) := by
  obtain ⟨O, e, ho⟩ := open_some l hl
  obtain ⟨hOb, hOl⟩ := open_len l O e hb ho
  unfold readS at h
  rw [ho, Option.bind_some] at h
  dsimp only at h
  by_cases he : e = 0
  rotate_left
  · rw [if_neg he] at h
    simp only [Option.some.injEq, Prod.mk.injEq] at h
    obtain ⟨rfl, rfl, rfl, rfl, rfl, rfl⟩ := h
    exact .inl ⟨he, rfl, rfl, rfl, rfl, rfl⟩
  rw [if_pos he] at h
  subst he
  by_cases h0 : O.length = 0
  · rw [if_pos h0] at h
    simp only [Option.some.injEq, Prod.mk.injEq] at h
    obtain ⟨rfl, rfl, rfl, rfl, rfl, rfl⟩ := h
    exact .inl ⟨by decide, rfl, rfl, rfl, rfl, rfl⟩
  rw [if_neg h0] at h
  by_cases h82 : rd O 0 = 82
  rotate_left
  · rw [if_neg h82] at h
    simp only [Option.some.injEq, Prod.mk.injEq] at h
    obtain ⟨rfl, rfl, rfl, rfl, rfl, rfl⟩ := h
    exact .inl ⟨by decide, rfl, rfl, rfl, rfl, rfl⟩
  rw [if_pos h82] at h
  obtain ⟨vs, af, ef, hn⟩ := readN_some O 5 1
  rw [hn, Option.bind_some] at h
  dsimp only at h
  by_cases hf : ef = 0
  rotate_left
  · rw [if_neg hf] at h
    simp only [Option.some.injEq, Prod.mk.injEq] at h
    obtain ⟨rfl, rfl, rfl, rfl, rfl, rfl⟩ := h
    exact .inl ⟨hf, rfl, rfl, rfl, rfl, rfl⟩
  rw [if_pos hf] at h
  subst hf
  by_cases hlt : af < (O.length : Int)
  · rw [if_pos hlt] at h
    simp only [Option.some.injEq, Prod.mk.injEq] at h
    obtain ⟨rfl, rfl, rfl, rfl, rfl, rfl⟩ := h
    exact .inl ⟨by decide, rfl, rfl, rfl, rfl, rfl⟩
  rw [if_neg hlt] at h
  obtain ⟨xs, e1, rfl, e3, e4, e5, e6⟩ := read_inv O hOb 5 1 vs af (by omega) (by omega) hn
  match xs, e1 with
  | [a, b, c, d, e], _ =>
    rw [five_ints, show five [(a : Int), b, c, d, e] 0 = a from rfl, show five [(a : Int), b, c, d, e] 1 = b from rfl, show five [(a : Int), b, c, d, e] 2 = c from rfl, show five [(a : Int), b, c, d, e] 3 = d from rfl, show five [(a : Int), b, c, d, e] 4 = e from rfl] at h
    by_cases hok : OK a b c d e
    rotate_left
    · rw [if_neg hok] at h
      simp only [Option.some.injEq, Prod.mk.injEq] at h
      obtain ⟨rfl, rfl, rfl, rfl, rfl, rfl⟩ := h
      exact .inl ⟨by decide, rfl, rfl, rfl, rfl, rfl⟩
    rw [if_pos hok] at h
    simp only [Option.some.injEq, Prod.mk.injEq] at h
    obtain ⟨rfl, rfl, rfl, rfl, rfl, rfl⟩ := h
    refine .inr ⟨rfl, hok, ?_⟩
    have hO : O = ownH a b c d e := by
      rw [ownH_encs a b c d e (e3 a (by simp)) (e3 b (by simp)) (e3 c (by simp)) (e3 d (by simp)) (e3 e (by simp)), List.append_nil]
      match O, h82, h0, e4, e5, e6 with
      | [], _, h0, _, _, _ => exact absurd rfl h0
      | x :: t, h82, _, e4, e5, e6 =>
        rw [rd_cons] at h82
        subst h82
        rw [show ((1 : Int)).toNat = 1 from rfl, List.drop_succ_cons, List.drop_zero] at e6
        have hlt2 : (encs [a, b, c, d, e]).length = t.length := by
          have : ((82 :: t : List Int).length : Int) = (t.length : Int) + 1 := by simp
          omega
        rw [hlt2, List.take_of_length_le (Nat.le_refl _)] at e6
        rw [e6]
        rfl
    unfold encH
    rw [← hO]
    exact (open_inv l O ho).symm
theorem xor_u8h (a b : Nat) (ha : a < 2 ^ 8) (hb : b < 2 ^ 8) : Go.bits .xor .u8 a b = ((a ^^^ b : Nat) : Int) ∧ a ^^^ b < 2 ^ 8 := by
  have ha' : a % 2 ^ 8 = a := Nat.mod_eq_of_lt ha
  have hb' : b % 2 ^ 8 = b := Nat.mod_eq_of_lt hb
  have e : Go.bits .xor .u8 (a : Int) (b : Int) = IntKind.u8.wrap (((BitVec.ofInt 8 (a : Int) ^^^ BitVec.ofInt 8 (b : Int)).toNat : Nat) : Int) := rfl
  have hlt : a ^^^ b < 2 ^ 8 := Nat.xor_lt_two_pow ha hb
  refine ⟨?_, hlt⟩
  rw [e]
  simp only [BitVec.ofInt_natCast, BitVec.toNat_xor, BitVec.toNat_ofNat, ha', hb']
  rw [IntKind.wrap_u8]; omega
theorem turned (a t : Int) (h0 : 0 ≤ a) (h1 : a ≤ 255) (ht0 : 1 ≤ t) (ht1 : t ≤ 255) : 0 ≤ Go.bits .xor .u8 a t ∧ Go.bits .xor .u8 a t ≤ 255 ∧ Go.bits .xor .u8 a t ≠ a := by
  obtain ⟨x, rfl⟩ : ∃ x : Nat, a = (x : Int) := ⟨a.toNat, by omega⟩
  obtain ⟨y, rfl⟩ : ∃ y : Nat, t = (y : Int) := ⟨t.toNat, by omega⟩
  obtain ⟨e, hlt⟩ := xor_u8h x y (by omega) (by omega)
  rw [e]
  refine ⟨by omega, by omega, fun h => ?_⟩
  have h2 : x ^^^ y = x := by omega
  have h3 : x ^^^ (x ^^^ y) = x ^^^ x := by rw [h2]
  rw [← Nat.xor_assoc, Nat.xor_self, Nat.zero_xor] at h3
  omega
/-- A sealed text of which the last byte was turned. -/
theorem open_turned (o : List Int) (hb : Byte o) (hl : o.length ≤ 1000) (t : Int) (ht0 : 0 ≤ t) : crc_Open.f ((o ++ sealL (crcSum o)).set ((o ++ sealL (crcSum o)).length - 1) (Go.bits .xor .u8 ((o ++ sealL (crcSum o)).getD ((o ++ sealL (crcSum o)).length - 1) 0) (1 + t % 255))) = some ([], 6) ∧
    Byte ((o ++ sealL (crcSum o)).set ((o ++ sealL (crcSum o)).length - 1) (Go.bits .xor .u8 ((o ++ sealL (crcSum o)).getD ((o ++ sealL (crcSum o)).length - 1) 0) (1 + t % 255))) := by
  have hs := crcSum_range o hb
  generalize hS : crcSum o = S at hs
  have hsl : sealL S = [S % 256, S / 256 % 256, S / 65536 % 256, S / 16777216 % 256] := rfl
  have hlen : (o ++ sealL S).length = o.length + 4 := by rw [hsl]; simp
  have e3 : (o ++ sealL S).length - 1 = o.length + 3 := by omega
  have e4 : (o ++ sealL S).getD ((o ++ sealL S).length - 1) 0 = S / 16777216 % 256 := by rw [e3, hsl]; simp [List.getD_eq_getElem?_getD]
  obtain ⟨t0, t1, t2⟩ := turned (S / 16777216 % 256) (1 + t % 255) (by omega) (by omega) (by omega) (by omega)
  rw [e4]
  generalize Go.bits .xor .u8 (S / 16777216 % 256) (1 + t % 255) = X at t0 t1 t2 ⊢
  have e5 : (o ++ sealL S).set ((o ++ sealL S).length - 1) X = o ++ [S % 256, S / 256 % 256, S / 65536 % 256, X] := by
    rw [e3, hsl, List.set_append_right _ _ (by omega), show o.length + 3 - o.length = 3 by omega]
    rfl
  rw [e5]
  refine ⟨?_, byte_append hb (fun y hy => ?_)⟩
  · unfold crc_Open.f
    rw [if_neg (by simp), if_pos (by simp; omega), show (o ++ [S % 256, S / 256 % 256, S / 65536 % 256, X]).length - 4 = o.length by simp, List.drop_left, List.take_left, hS, hsl, if_neg (fun h => t2 (by simp at h; exact h))]
  · simp at hy
    rcases hy with rfl | rfl | rfl | rfl <;> omega
theorem HelloBack : remoralaw32_HelloBack.Pure := by
  intro a0 a1 a2 a3 a4 t l ht0 ht1 hl hw
  have hb := wf_byte hw
  have hE : backEnd (l.length + 300 + 6) l := by
    obtain ⟨⟨p0, p1, p2, p3, p4, f⟩, hx⟩ := readS_some l hl
    refine ⟨p0, p1, p2, p3, p4, f, (read_f _ l hb hl (by omega)).trans hx, ?_⟩
    rcases read_put l hb hl p0 p1 p2 p3 p4 f hx with h | ⟨h1, h2, h3⟩
    · exact .inl h
    · refine .inr ⟨h1, ?_⟩
      rw [bytes_f (l.length + 300) p0 p1 p2 p3 p4 (by omega), if_pos h2, h3]
  by_cases hok : OK a0 a1 a2 a3 a4
  · refine ⟨l.length + 300 + 6, encH a0 a1 a2 a3 a4, 0, by rw [bytes_f _ _ _ _ _ _ (by omega), if_pos hok], by rw [check_f, if_pos hok], .inr ⟨rfl, ?_, ?_, ?_⟩, hE⟩
    all_goals
      have hok' := hok
      obtain ⟨k1, k2, k3, k4, k5, k6, k7, k8⟩ := hok
      obtain ⟨a, rfl⟩ : ∃ n : Nat, a0 = (n : Int) := ⟨a0.toNat, by omega⟩
      obtain ⟨b, rfl⟩ : ∃ n : Nat, a1 = (n : Int) := ⟨a1.toNat, by omega⟩
      obtain ⟨c, rfl⟩ : ∃ n : Nat, a2 = (n : Int) := ⟨a2.toNat, by omega⟩
      obtain ⟨d, rfl⟩ : ∃ n : Nat, a3 = (n : Int) := ⟨a3.toNat, by omega⟩
      obtain ⟨e, rfl⟩ : ∃ n : Nat, a4 = (n : Int) := ⟨a4.toNat, by omega⟩
      obtain ⟨hr, h6⟩ := read_enc a b c d e hok'
      have hlo := ownH_len a b c d e
      have hle : (encH (a : Int) b c d e).length = (ownH (a : Int) b c d e).length + 4 := by unfold encH; simp [sealL]
      have hby : Byte (encH (a : Int) b c d e) := by unfold encH; exact byte_append (ownH_byte _ _ _ _ _) (sealL_byte _)
    · omega
    · exact (read_f _ _ hby (by omega) (by omega)).trans hr
    · refine ⟨ownH a b c d e, open_seal _ (ownH_byte _ _ _ _ _) (by omega), h6, ?_, 0, 0, 0, 0, 0, ?_⟩
      · rw [ownH_encs a b c d e (by omega) (by omega) (by omega) (by omega) (by omega)]; rfl
      · obtain ⟨o1, o2⟩ := open_turned (ownH a b c d e) (ownH_byte _ _ _ _ _) (by omega) t ht0
        refine (read_f _ _ o2 (by rw [List.length_set]; unfold encH at hle; omega) (by omega)).trans ?_
        unfold readS
        rw [o1, Option.bind_some]
        rfl
  · exact ⟨l.length + 300 + 6, [], 2, by rw [bytes_f _ _ _ _ _ _ (by omega), if_neg hok], by rw [check_f, if_neg hok], .inl (by decide), hE⟩
end Go.Proofs.YtgjmcjpgajlgoaaDoor.Pure
