/- Squash, packing: the packing as told runs and matches; they make the text; a packing cut short. -/
import Derived.Test.YtaneollgpllbiaaSquashTxt
import Derived.Test.YtaneollgpllbiaaPx5
import Derived.Test.YtaneollgpllbiaaPx12
import Derived.Test.YtaneollgpllbiaaPx6

set_option linter.unusedVariables false
set_option linter.unusedSimpArgs false
namespace Go.Proofs.Ytaneollgpllbiaa.P
open Go.RowKit Go.Proofs.YtaneollgpllbiaaW.PrintWords Go.Proofs.YtaneollgpllbiaaW.PrintLast Go.Proofs.YtaneollgpllbiaaW.PrintMore Go.Proofs.Ytaneollgpllbiaa.Num

inductive Tok where
  | lit (xs : List Int)
  | mat (n far : Nat)
def encT : Tok → List Int
  | .lit xs => enc (2 * xs.length) ++ xs
  | .mat n far => enc (2 * (n - 4) + 1) ++ enc far
def flat : List Tok → List Int
  | [] => []
  | t :: ts => encT t ++ flat ts
def full : List Int → List Tok → List Int
  | T, [] => T
  | T, .lit xs :: ts => full (T ++ xs) ts
  | T, .mat n far :: ts => full (wh_copy (far : Int) n T) ts
def Valid : List Int → Bool → List Tok → Prop
  | _, _, [] => True
  | T, run, .lit xs :: ts => 0 < xs.length ∧ run = false ∧ T.length + xs.length ≤ 65536 ∧ Valid (T ++ xs) true ts
  | T, run, .mat n far :: ts => 4 ≤ n ∧ n ≤ 130 ∧ 1 ≤ far ∧ far ≤ 4096 ∧ far ≤ T.length ∧ T.length + n ≤ 65536 ∧ Valid (wh_copy (far : Int) n T) false ts
theorem flat_append (a b : List Tok) : flat (a ++ b) = flat a ++ flat b := by
  induction a with
  | nil => rfl
  | cons t ts ih => rw [List.cons_append, flat, flat, ih, List.append_assoc]
theorem copy_prefix (far : Int) : ∀ (n : Nat) (T : List Int), T <+: wh_copy far n T
  | 0, T => List.prefix_refl T
  | n + 1, T => (List.prefix_append T _).trans (copy_prefix far n _)
theorem full_prefix : ∀ (ts : List Tok) (T : List Int), T <+: full T ts
  | [], T => List.prefix_refl T
  | .lit xs :: ts, T => (List.prefix_append T xs).trans (full_prefix ts _)
  | .mat n far :: ts, T => (copy_prefix far n T).trans (full_prefix ts _)
theorem encT_pos (t : Tok) : 0 < (encT t).length := by
  cases t with
  | lit xs => have := enc_pos (2 * xs.length); simp only [encT, List.length_append]; omega
  | mat n far => have := enc_pos (2 * (n - 4) + 1); simp only [encT, List.length_append]; omega

/-! a number cut short -/
theorem scan_cut : ∀ (f x m i n : Nat), m < (enc x).length → m < f → scan f ((enc x).take m) i n = (0, 0, 4)
  | 0, _, _, _, _, _, h => by omega
  | f + 1, x, 0, i, n, _, _ => by rw [List.take_zero]; rfl
  | f + 1, x, m + 1, i, n, h, hf => by
    by_cases hs : x ≤ 127
    · rw [enc_small hs] at h
      simp at h
    · rw [enc_big hs] at h ⊢
      simp only [List.length_cons] at h
      rw [List.take_succ_cons]
      simp only [scan]
      rw [if_pos (by omega)]
      exact scan_cut f (x / 128) m _ _ (by omega) (by omega)
theorem getS_cut (a : List Int) (x m : Nat) (hx : x ≤ 4611686018427387903) (hm : m < (enc x).length) : getS (a ++ (enc x).take m) (a.length : Int) = (0, 0, 4) := by
  have h9 := enc_len9 (n := x) (by omega)
  unfold getS
  rw [if_neg (by simp only [List.length_append]; omega)]
  have e : (a ++ (enc x).take m).drop (a.length : Int).toNat = (enc x).take m := by rw [Int.toNat_natCast]; simp
  rw [e, scan_cut 9 x m 0 0 hm (by omega)]
  rfl
theorem take_app {α : Type} (a b : List α) (m : Nat) (h : a.length ≤ m) : (a ++ b).take m = a ++ b.take (m - a.length) := by
  rw [List.take_append, List.take_of_length_le h]
theorem take_app2 {α : Type} (a b : List α) (m : Nat) (h : m ≤ a.length) : (a ++ b).take m = a.take m := by
  rw [List.take_append, Nat.sub_eq_zero_of_le h]; simp

def Cut (ts : List Tok) (T : List Int) (m : Nat) (r : List Int × Int) : Prop :=
  (r.2 = 0 ∧ r.1 <+: full T ts ∧ (m = (flat ts).length → r.1 = full T ts)) ∨ (r.2 = 4 ∧ m < (flat ts).length)
theorem txt_cut : ∀ (ts : List Tok) (A : List Int) (m q : Nat) (T : List Int) (run : Bool), Valid T run ts → m ≤ (flat ts).length → m < q → Cut ts T m (txt (A ++ (flat ts).take m) q (A.length : Int) T run)
  | [], A, m, q + 1, T, run, hv, hm, hq => by
    refine .inl ?_
    rw [flat, List.take_nil, List.append_nil, txt, if_neg (by omega)]
    exact ⟨rfl, List.prefix_refl _, fun _ => rfl⟩
  | t :: ts, A, 0, q + 1, T, run, hv, hm, hq => by
    refine .inl ?_
    rw [List.take_zero, List.append_nil, txt, if_neg (by omega)]
    refine ⟨rfl, full_prefix _ _, fun h => ?_⟩
    have := encT_pos t
    rw [flat, List.length_append] at h
    omega
  | .lit xs :: ts, A, m + 1, q + 1, T, run, hv, hm, hq => by
    obtain ⟨h1, h2, h3, h4⟩ := hv
    have he : flat (Tok.lit xs :: ts) = enc (2 * xs.length) ++ (xs ++ flat ts) := by rw [flat, encT, List.append_assoc]
    rw [he] at hm ⊢
    have hlen : (flat (Tok.lit xs :: ts)).length = (enc (2 * xs.length)).length + (xs.length + (flat ts).length) := by rw [he]; simp only [List.length_append]
    simp only [List.length_append] at hm
    have hp := enc_pos (2 * xs.length)
    generalize hs : (enc (2 * xs.length)).length = s at hm hlen hp
    by_cases c1 : m + 1 < s
    · refine .inr ?_
      rw [take_app2 _ _ _ (by omega), txt, if_pos (by simp only [List.length_append, List.length_take]; omega), getS_cut A _ _ (by omega) (by omega)]
      dsimp only
      rw [if_neg (by decide)]
      exact ⟨rfl, by omega⟩
    · rw [take_app _ _ _ (by omega), hs]
      have hg := getS_enc A ((xs ++ flat ts).take (m + 1 - s)) (2 * xs.length) (by omega) (A.length : Int) rfl
      rw [hs] at hg
      have hBl : (A ++ (enc (2 * xs.length) ++ (xs ++ flat ts).take (m + 1 - s))).length = A.length + (s + (m + 1 - s)) := by
        simp only [List.length_append, List.length_take, hs]; omega
      rw [txt, if_pos (by rw [hBl]; omega), hg]
      dsimp only
      rw [if_pos rfl, if_pos (by omega), if_neg (by rintro (h | h); omega; rw [h2] at h; cases h), if_neg (by omega), hBl]
      have hd : ((2 * xs.length : Nat) : Int) / 2 = (xs.length : Int) := by omega
      rw [hd]
      by_cases c2 : m + 1 - s < xs.length
      · rw [if_pos (by omega)]
        exact .inr ⟨rfl, by omega⟩
      · rw [if_neg (by omega)]
        have hB : A ++ (enc (2 * xs.length) ++ (xs ++ flat ts).take (m + 1 - s)) = (A ++ (enc (2 * xs.length) ++ xs)) ++ (flat ts).take (m + 1 - s - xs.length) := by
          rw [take_app _ _ _ (by omega), List.append_assoc, List.append_assoc]
        have hA : ((A ++ (enc (2 * xs.length) ++ xs)).length : Int) = (A.length : Int) + (s : Int) + (xs.length : Int) := by simp only [List.length_append, hs]; omega
        have hx : ((A ++ (enc (2 * xs.length) ++ (xs ++ flat ts).take (m + 1 - s))).take ((A.length : Int) + (s : Int) + (xs.length : Int)).toNat).drop ((A.length : Int) + (s : Int)).toNat = xs := by
          rw [hB, ← hA, Int.toNat_natCast, List.take_left, show ((A.length : Int) + (s : Int)).toNat = (A ++ enc (2 * xs.length)).length by simp only [List.length_append, hs]; omega, ← List.append_assoc, List.drop_left]
        rw [hx, hB, ← hA]
        have ih := txt_cut ts (A ++ (enc (2 * xs.length) ++ xs)) (m + 1 - s - xs.length) q (T ++ xs) true h4 (by omega) (by omega)
        rcases ih with ⟨i1, i2, i3⟩ | ⟨i1, i2⟩
        · exact .inl ⟨i1, i2, fun h => i3 (by omega)⟩
        · exact .inr ⟨i1, by omega⟩
  | .mat n far :: ts, A, m + 1, q + 1, T, run, hv, hm, hq => by
    obtain ⟨h1, h2, h3, h4, h5, h6, h7⟩ := hv
    have he : flat (Tok.mat n far :: ts) = enc (2 * (n - 4) + 1) ++ (enc far ++ flat ts) := by rw [flat, encT, List.append_assoc]
    rw [he] at hm ⊢
    have hlen : (flat (Tok.mat n far :: ts)).length = (enc (2 * (n - 4) + 1)).length + ((enc far).length + (flat ts).length) := by rw [he]; simp only [List.length_append]
    simp only [List.length_append] at hm
    have hp := enc_pos (2 * (n - 4) + 1)
    have hp2 := enc_pos far
    generalize hs : (enc (2 * (n - 4) + 1)).length = s at hm hlen hp
    generalize hs2 : (enc far).length = s2 at hm hlen hp2
    by_cases c1 : m + 1 < s
    · refine .inr ?_
      rw [take_app2 _ _ _ (by omega), txt, if_pos (by simp only [List.length_append, List.length_take]; omega), getS_cut A _ _ (by omega) (by omega)]
      dsimp only
      rw [if_neg (by decide)]
      exact ⟨rfl, by omega⟩
    · rw [take_app _ _ _ (by omega), hs]
      have hg := getS_enc A ((enc far ++ flat ts).take (m + 1 - s)) (2 * (n - 4) + 1) (by omega) (A.length : Int) rfl
      rw [hs] at hg
      have hBl : (A ++ (enc (2 * (n - 4) + 1) ++ (enc far ++ flat ts).take (m + 1 - s))).length = A.length + (s + (m + 1 - s)) := by
        simp only [List.length_append, List.length_take, hs, hs2]; omega
      have hA : ((A ++ enc (2 * (n - 4) + 1)).length : Int) = (A.length : Int) + (s : Int) := by simp only [List.length_append, hs]; omega
      rw [txt, if_pos (by rw [hBl]; omega), hg]
      dsimp only
      rw [if_pos rfl, if_neg (by omega), if_neg (by omega)]
      have hd : ((2 * (n - 4) + 1 : Nat) : Int) / 2 + 4 = (n : Int) := by omega
      rw [hd]
      by_cases c2 : m + 1 - s < s2
      · have hg2 : getS (A ++ (enc (2 * (n - 4) + 1) ++ (enc far ++ flat ts).take (m + 1 - s))) ((A.length : Int) + (s : Int)) = (0, 0, 4) := by
          rw [take_app2 _ _ _ (by omega), ← List.append_assoc, ← hA]
          exact getS_cut _ _ _ (by omega) (by omega)
        rw [hg2]
        dsimp only
        rw [if_neg (by decide)]
        exact .inr ⟨rfl, by omega⟩
      · have hB : A ++ (enc (2 * (n - 4) + 1) ++ (enc far ++ flat ts).take (m + 1 - s)) = (A ++ enc (2 * (n - 4) + 1)) ++ (enc far ++ (flat ts).take (m + 1 - s - s2)) := by
          rw [take_app _ _ _ (by omega), hs2, List.append_assoc]
        have hg2 := getS_enc (A ++ enc (2 * (n - 4) + 1)) ((flat ts).take (m + 1 - s - s2)) far (by omega) ((A.length : Int) + (s : Int)) hA.symm
        rw [hB, hg2]
        dsimp only
        rw [if_pos rfl, if_neg (by omega), if_neg (by omega), Int.toNat_natCast, hs2]
        have hA2 : (((A ++ enc (2 * (n - 4) + 1)) ++ enc far).length : Int) = (A.length : Int) + (s : Int) + (s2 : Int) := by simp only [List.length_append, hs, hs2]; omega
        rw [← List.append_assoc, ← hA2]
        have ih := txt_cut ts ((A ++ enc (2 * (n - 4) + 1)) ++ enc far) (m + 1 - s - s2) q (wh_copy (far : Int) n T) false h7 (by omega) (by omega)
        rcases ih with ⟨i1, i2, i3⟩ | ⟨i1, i2⟩
        · exact .inl ⟨i1, i2, fun h => i3 (by omega)⟩
        · exact .inr ⟨i1, by omega⟩
theorem txt0_cut (ts : List Tok) (m : Nat) (hv : Valid [] false ts) (hm : m ≤ (flat ts).length) : Cut ts [] m (txt0 ((flat ts).take m)) := by
  have h := txt_cut ts [] m (m + 1) [] false hv hm (by omega)
  unfold txt0
  rw [List.length_take, Nat.min_eq_left hm]
  exact h
theorem txt0_flat (ts : List Tok) (hv : Valid [] false ts) : txt0 (flat ts) = (full [] ts, 0) := by
  have h := txt0_cut ts _ hv (Nat.le_refl _)
  rw [List.take_length] at h
  rcases h with ⟨h1, _, h3⟩ | ⟨_, h2⟩
  · exact Prod.ext (h3 rfl) h1
  · omega

/-! what Pack makes -/
def litT (B : List Int) (fr te : Nat) : List Tok := if fr < te then [.lit ((B.take te).drop fr)] else []
def toks (B : List Int) : Nat → Nat → Nat → List Tok
  | 0, _, fr => litT B fr B.length
  | q + 1, i, fr => if i < B.length then (if (bestR B i).1 < 4 then toks B q (i + 1) fr else litT B fr i ++ .mat (bestR B i).1 (bestR B i).2 :: toks B q (i + (bestR B i).1) (i + (bestR B i).1)) else litT B fr B.length
theorem flush_lit (B : List Int) (fr te : Nat) (OUT : List Int) (h : te ≤ B.length) : flushL B fr te OUT = OUT ++ flat (litT B fr te) := by
  unfold flushL litT
  by_cases c : fr < te
  · have hl : ((B.take te).drop fr).length = te - fr := by rw [List.length_drop, List.length_take]; omega
    rw [if_pos c, if_pos c, flat, flat, encT, hl, List.append_nil, List.append_assoc]
  · rw [if_neg c, if_neg c, flat, List.append_nil]
theorem packL_toks (B : List Int) : ∀ (q i fr : Nat) (OUT : List Int), packL B q i fr OUT = OUT ++ flat (toks B q i fr)
  | 0, i, fr, OUT => flush_lit B fr _ OUT (Nat.le_refl _)
  | q + 1, i, fr, OUT => by
    rw [packL, toks]
    by_cases c : i < B.length
    · rw [if_pos c, if_pos c]
      by_cases c2 : (bestR B i).1 < 4
      · rw [if_pos c2, if_pos c2]; exact packL_toks B q _ _ _
      · rw [if_neg c2, if_neg c2, packL_toks B q _ _ _, flush_lit B fr i OUT (by omega), flat_append, flat, encT]
        simp only [List.append_assoc]
    · rw [if_neg c, if_neg c]; exact flush_lit B fr _ OUT (Nat.le_refl _)

/-! matches are right -/
theorem lg_match (B : List Int) (i far : Nat) : ∀ q n j, n ≤ j → j < lg B i far q n → i + j < B.length ∧ rd B ((i + j : Nat) : Int) = rd B ((i + j - far : Nat) : Int)
  | 0, n, j, h, h2 => by rw [lg] at h2; omega
  | q + 1, n, j, h, h2 => by
    rw [lg] at h2
    by_cases c : n < 130 ∧ i + n < B.length ∧ rd B ((i + n : Nat) : Int) = rd B ((i + n - far : Nat) : Int)
    · rw [if_pos c] at h2
      by_cases e : j = n
      · subst e; exact c.2
      · exact lg_match B i far q (n + 1) j (by omega) h2
    · rw [if_neg c] at h2; omega
theorem chainB_inv (B : List Int) (i : Nat) : ∀ q (a : Int) len far, a < i → (len = 0 ∨ (1 ≤ far ∧ far ≤ 4096 ∧ far ≤ i ∧ len = longN B i far)) →
    (chainB B i q a len far).1 = 0 ∨ (1 ≤ (chainB B i q a len far).2 ∧ (chainB B i q a len far).2 ≤ 4096 ∧ (chainB B i q a len far).2 ≤ i ∧ (chainB B i q a len far).1 = longN B i (chainB B i q a len far).2)
  | 0, a, len, far, ha, h => h
  | q + 1, a, len, far, ha, h => by
    rw [chainB]
    by_cases c : a < 0 ∨ (i : Int) - a > 4096 ∨ len = 130
    · rw [if_pos c]; exact h
    · rw [if_neg c]
      have hk := lastK_lt (key4 B) (key4 B a.toNat) a.toNat
      by_cases c2 : longN B i (i - a.toNat) > len
      · rw [if_pos c2]
        exact chainB_inv B i q _ _ _ (by omega) (.inr ⟨by omega, by omega, by omega, rfl⟩)
      · rw [if_neg c2]
        exact chainB_inv B i q _ _ _ (by omega) h
theorem bestR_inv (B : List Int) (i : Nat) : (bestR B i).1 = 0 ∨ (1 ≤ (bestR B i).2 ∧ (bestR B i).2 ≤ 4096 ∧ (bestR B i).2 ≤ i ∧ (bestR B i).1 = longN B i (bestR B i).2) := by
  unfold bestR
  by_cases c : i + 4 ≤ B.length
  · rw [if_pos c]
    exact chainB_inv B i _ _ _ _ (by have := lastK_lt (key4 B) (key4 B i) i; omega) (.inl rfl)
  · rw [if_neg c]; exact .inl rfl
theorem rd_take (B : List Int) (m : Nat) (j : Int) (h0 : 0 ≤ j) (h : j < (m : Int)) : rd (B.take m) j = rd B j := by
  unfold rd
  rw [List.getD_eq_getElem?_getD, List.getD_eq_getElem?_getD, List.getElem?_take, if_pos (by omega)]
theorem take_snoc (l : List Int) (i : Nat) (h : i < l.length) : l.take (i + 1) = l.take i ++ [rd l (i : Int)] := by
  rw [List.take_succ_eq_append_getElem h]
  simp [rd, List.getD_eq_getElem?_getD, List.getElem?_eq_getElem h]
theorem copy_take (B : List Int) (far : Nat) (hf : 1 ≤ far) : ∀ (n i : Nat), far ≤ i → (∀ j, j < n → i + j < B.length ∧ rd B ((i + j : Nat) : Int) = rd B ((i + j - far : Nat) : Int)) → i ≤ B.length → wh_copy (far : Int) n (B.take i) = B.take (i + n)
  | 0, i, h1, h2, h3 => rfl
  | n + 1, i, h1, h2, h3 => by
    obtain ⟨k1, k2⟩ := h2 0 (by omega)
    rw [Nat.add_zero] at k1 k2
    have hl : (B.take i).length = i := by rw [List.length_take]; omega
    rw [wh_copy, hl, rd_take B i _ (by omega) (by omega), show (i : Int) - (far : Int) = ((i - far : Nat) : Int) by omega, ← k2, ← take_snoc B i k1, copy_take B far hf n (i + 1) (by omega) (fun j hj => ?_) (by omega)]
    · congr 1; omega
    · have := h2 (j + 1) (by omega)
      rw [show i + (j + 1) = i + 1 + j by omega] at this
      exact this
theorem best_copy (B : List Int) (i : Nat) (hi : i ≤ B.length) (h : ¬ (bestR B i).1 < 4) : 1 ≤ (bestR B i).2 ∧ (bestR B i).2 ≤ 4096 ∧ (bestR B i).2 ≤ i ∧ wh_copy ((bestR B i).2 : Int) (bestR B i).1 (B.take i) = B.take (i + (bestR B i).1) := by
  rcases bestR_inv B i with h0 | ⟨h1, h2, h3, h4⟩
  · omega
  · refine ⟨h1, h2, h3, copy_take B _ h1 _ i h3 (fun j hj => ?_) hi⟩
    rw [h4] at hj
    exact lg_match B i _ 130 0 j (Nat.zero_le _) hj
theorem lit_valid (B : List Int) (fr te : Nat) (ts : List Tok) (hB : B.length ≤ 65536) (h1 : fr ≤ te) (h2 : te ≤ B.length) (hv : ∀ run, Valid (B.take te) run ts) : Valid (B.take fr) false (litT B fr te ++ ts) := by
  unfold litT
  have hx : B.take fr ++ (B.take te).drop fr = B.take te := by
    have := List.take_append_drop fr (B.take te)
    rwa [List.take_take, Nat.min_eq_left h1] at this
  by_cases c : fr < te
  · rw [if_pos c, List.singleton_append, Valid, hx]
    refine ⟨by rw [List.length_drop, List.length_take]; omega, rfl, by rw [List.length_drop, List.length_take, List.length_take]; omega, hv true⟩
  · rw [if_neg c, List.nil_append, show fr = te by omega]
    exact hv false
theorem lit_full (B : List Int) (fr te : Nat) (ts : List Tok) (h1 : fr ≤ te) : full (B.take fr) (litT B fr te ++ ts) = full (B.take te) ts := by
  unfold litT
  have hx : B.take fr ++ (B.take te).drop fr = B.take te := by
    have := List.take_append_drop fr (B.take te)
    rwa [List.take_take, Nat.min_eq_left h1] at this
  by_cases c : fr < te
  · rw [if_pos c, List.singleton_append, full, hx]
  · rw [if_neg c, List.nil_append, show fr = te by omega]
theorem toks_valid (B : List Int) (hB : B.length ≤ 65536) : ∀ (q i fr : Nat), fr ≤ i → i ≤ B.length → Valid (B.take fr) false (toks B q i fr) ∧ full (B.take fr) (toks B q i fr) = B
  | 0, i, fr, h1, h2 => by
    rw [toks]
    have e := List.append_nil (litT B fr B.length)
    refine ⟨?_, ?_⟩
    · rw [← e]; exact lit_valid B fr _ [] hB (by omega) (Nat.le_refl _) (fun _ => trivial)
    · rw [← e, lit_full B fr _ [] (by omega), full, List.take_length]
  | q + 1, i, fr, h1, h2 => by
    rw [toks]
    by_cases c : i < B.length
    rotate_left
    · rw [if_neg c]
      have e := List.append_nil (litT B fr B.length)
      refine ⟨?_, ?_⟩
      · rw [← e]; exact lit_valid B fr _ [] hB (by omega) (Nat.le_refl _) (fun _ => trivial)
      · rw [← e, lit_full B fr _ [] (by omega), full, List.take_length]
    rw [if_pos c]
    by_cases c2 : (bestR B i).1 < 4
    · rw [if_pos c2]; exact toks_valid B hB q (i + 1) fr (by omega) (by omega)
    · rw [if_neg c2]
      obtain ⟨k1, k2, k3, k4⟩ := best_copy B i h2 c2
      have hle := bestR_le B i
      obtain ⟨i1, i2⟩ := toks_valid B hB q (i + (bestR B i).1) (i + (bestR B i).1) (Nat.le_refl _) (by omega)
      have hti : (B.take i).length = i := by rw [List.length_take]; omega
      refine ⟨lit_valid B fr i _ hB h1 h2 (fun run => ?_), ?_⟩
      · rw [Valid, k4, hti]
        exact ⟨by omega, hle.2.1, k1, k2, k3, by omega, i1⟩
      · rw [lit_full B fr i _ h1, full, k4]
        exact i2
def ptoks (B : List Int) : List Tok := toks B B.length 0 0
theorem ptoks_valid (B : List Int) (hB : B.length ≤ 65536) : Valid [] false (ptoks B) := (toks_valid B hB B.length 0 0 (Nat.le_refl _) (Nat.zero_le _)).1
theorem ptoks_full (B : List Int) (hB : B.length ≤ 65536) : full [] (ptoks B) = B := (toks_valid B hB B.length 0 0 (Nat.le_refl _) (Nat.zero_le _)).2
theorem pack_f (B : List Int) (hb : Byt B) (hB : B.length ≤ 65536) : squash_Pack.f B = some (flat (ptoks B)) := by
  unfold squash_Pack.f
  rw [if_pos (by rw [List.all_eq_true]; intro x hx; simpa using hb x hx), if_neg (by omega), packL_toks, List.nil_append]
  rfl
theorem pack_big (B : List Int) (hb : Byt B) (hB : ¬ B.length ≤ 65536) : squash_Pack.f B = some [] := by
  unfold squash_Pack.f
  rw [if_pos (by rw [List.all_eq_true]; intro x hx; simpa using hb x hx), if_pos (by omega)]
theorem flat_byt : ∀ (ts : List Tok), (∀ t ∈ ts, ∀ xs, t = .lit xs → Byt xs) → Byt (flat ts)
  | [], _ => byt_nil
  | t :: ts, h => by
    rw [flat]
    refine Byt.append ?_ (flat_byt ts fun t' ht => h t' (List.mem_cons_of_mem _ ht))
    cases t with
    | lit xs => exact Byt.append (enc_byt _) (h _ List.mem_cons_self xs rfl)
    | mat n far => exact Byt.append (enc_byt _) (enc_byt _)
theorem lit_byt (B : List Int) (hb : Byt B) (fr te : Nat) : ∀ t ∈ litT B fr te, ∀ xs, t = .lit xs → Byt xs := by
  unfold litT
  intro t ht xs e
  by_cases c : fr < te
  · rw [if_pos c] at ht
    simp only [List.mem_singleton] at ht
    rw [ht] at e
    injection e with e
    rw [← e]
    exact (hb.take _).drop _
  · rw [if_neg c] at ht; cases ht
theorem toks_byt (B : List Int) (hb : Byt B) : ∀ (q i fr : Nat), ∀ t ∈ toks B q i fr, ∀ xs, t = .lit xs → Byt xs
  | 0, i, fr => lit_byt B hb fr _
  | q + 1, i, fr => by
    rw [toks]
    by_cases c : i < B.length
    · rw [if_pos c]
      by_cases c2 : (bestR B i).1 < 4
      · rw [if_pos c2]; exact toks_byt B hb q _ _
      · rw [if_neg c2]
        intro t ht xs e
        rcases List.mem_append.1 ht with h | h
        · exact lit_byt B hb fr i t h xs e
        · rcases List.mem_cons.1 h with h | h
          · rw [h] at e; cases e
          · exact toks_byt B hb q _ _ t h xs e
    · rw [if_neg c]; exact lit_byt B hb fr _
theorem ptoks_byt (B : List Int) (hb : Byt B) : Byt (flat (ptoks B)) := flat_byt _ (toks_byt B hb _ _ _)

/-! how long it is -/
theorem enc_run (L : Nat) (h : L ≤ 65536) : (enc (2 * L)).length ≤ 1 + L / 64 := by
  by_cases c : L < 64
  · have := enc_len 0 (2 * L) (by omega); omega
  by_cases c2 : L < 8192
  · have := enc_len 1 (2 * L) (by omega); omega
  · have := enc_len 2 (2 * L) (by omega); omega
theorem enc_mat (n far : Nat) (h1 : 4 ≤ n) (h2 : n ≤ 130) (h3 : far ≤ 4096) : (enc (2 * (n - 4) + 1)).length + (enc far).length ≤ n - 1 := by
  have := enc_len 1 far (by omega)
  by_cases c : n < 68
  · have := enc_len 0 (2 * (n - 4) + 1) (by omega); omega
  · have := enc_len 1 (2 * (n - 4) + 1) (by omega); omega
theorem lit_len (B : List Int) (fr te : Nat) (h1 : fr ≤ te) (h2 : te ≤ B.length) (hB : B.length ≤ 65536) : (flat (litT B fr te)).length ≤ (te - fr) + (te - fr) / 64 + 1 := by
  unfold litT
  by_cases c : fr < te
  · have hl : ((B.take te).drop fr).length = te - fr := by rw [List.length_drop, List.length_take]; omega
    have := enc_run (te - fr) (by omega)
    rw [if_pos c, flat, flat, encT, hl]
    simp only [List.length_append, List.length_nil, hl]
    omega
  · rw [if_neg c, flat]; simp
theorem toks_len (B : List Int) (hB : B.length ≤ 65536) : ∀ (q i fr : Nat), fr ≤ i → i ≤ B.length → (flat (toks B q i fr)).length ≤ (B.length - fr) + (B.length - fr) / 64 + 1
  | 0, i, fr, h1, h2 => by rw [toks]; exact lit_len B fr _ (by omega) (Nat.le_refl _) hB
  | q + 1, i, fr, h1, h2 => by
    rw [toks]
    by_cases c : i < B.length
    rotate_left
    · rw [if_neg c]; exact lit_len B fr _ (by omega) (Nat.le_refl _) hB
    rw [if_pos c]
    by_cases c2 : (bestR B i).1 < 4
    · rw [if_pos c2]; exact toks_len B hB q _ _ (by omega) (by omega)
    · rw [if_neg c2]
      obtain ⟨k1, k2, k3, k4⟩ := best_copy B i h2 c2
      have hle := bestR_le B i
      have ih := toks_len B hB q (i + (bestR B i).1) (i + (bestR B i).1) (Nat.le_refl _) (by omega)
      have hl := lit_len B fr i h1 h2 hB
      have hm := enc_mat (bestR B i).1 (bestR B i).2 (by omega) hle.2.1 k2
      rw [flat_append, flat, encT]
      simp only [List.length_append]
      omega
theorem ptoks_len (B : List Int) (hB : B.length ≤ 65536) : (flat (ptoks B)).length ≤ B.length + B.length / 64 + 1 := by
  have := toks_len B hB B.length 0 0 (Nat.le_refl _) (Nat.zero_le _)
  unfold ptoks
  simpa using this
theorem bound_f (n : Nat) (h : n ≤ 65536) : squash_Bound.f (n : Int) = some ((n + n / 64 + 3 : Nat) : Int) := by
  unfold squash_Bound.f
  rw [if_neg (by omega), if_neg (by omega), Int.tdiv_eq_ediv_of_nonneg (by omega), w64 (n := (n : Int) / 64) (by omega) (by omega), w64 (n := (n : Int) + (n : Int) / 64) (by omega) (by omega), w64 (by omega) (by omega)]
  congr 1
theorem same_f (l : List Int) : remoralaw10_same.f l l = some true := by
  unfold remoralaw10_same.f
  congr 1
  exact beq_self_eq_true _
theorem awake_f : remoralaw10_awake.f = some true := rfl
end Go.Proofs.Ytaneollgpllbiaa.P
