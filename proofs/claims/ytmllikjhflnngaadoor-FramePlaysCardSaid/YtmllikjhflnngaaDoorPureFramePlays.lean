/- The law FramePlays: what any calls of a stream answer is the document's. -/
import Derived.Test.YtmllikjhflnngaaDoorFrameSpec
import Derived.Test.YtmllikjhflnngaaDoorPx12
import Derived.Test.YtmllikjhflnngaaDoorPx20
set_option linter.unusedVariables false
namespace Go.Proofs.YtmllikjhflnngaaDoor.Pure
open Go.RowKit Go.Proofs.YtmllikjhflnngaaDoor.P Go.Proofs.YtmllikjhflnngaaDoorW.PrintWords Go.Proofs.YtmllikjhflnngaaDoorW.PrintLast Go.Proofs.YtmllikjhflnngaaDoorW.PrintMore Go.Proofs.YtmllikjhflnngaaDoor.Crc Go.Proofs.YtmllikjhflnngaaDoor.Num
theorem open_cases (l : List Int) (h4 : 4 ≤ l.length) (hl : l.length ≤ 140737488355328) : ∃ o1 o2, crc_Open.f l = some (o1, o2) ∧ (o2 = 0 ∨ o2 = 6) := by
  unfold crc_Open.f
  rw [if_neg (by omega), if_pos hl]
  split
  · exact ⟨_, _, rfl, .inl rfl⟩
  · exact ⟨_, _, rfl, .inr rfl⟩
theorem gets_eq (l : List Int) (hb : Byte l) (hl : l.length ≤ 140737488351232) (a : Int) (k : Nat) (hk : 2000000 ≤ k) : ∃ x, frame_Get.f (k + 1) l a = some x ∧ remoraref29_Get.f (k + 1) l a = some x := by
  unfold frame_Get.f remoraref29_Get.f
  by_cases h1 : a < 0
  · rw [if_pos (.inl h1), if_pos h1]
    exact ⟨_, rfl, by simp only [remoraref29_Get.j0]; rfl⟩
  rw [if_neg h1]
  simp only [remoraref29_Get.j0]
  by_cases h2 : (l.length : Int) < a
  · rw [if_pos (.inr h2), if_pos (decide_eq_true h2)]
    exact ⟨_, rfl, rfl⟩
  have e2 : decide (a > (l.length : Int)) = false := decide_eq_false h2
  rw [if_neg (fun h => h.elim h1 h2), e2, if_neg (show ¬ (false = true) by simp)]
  by_cases h3 : a = (l.length : Int)
  · rw [if_pos h3, if_pos h3]
    exact ⟨_, rfl, rfl⟩
  rw [if_neg h3, if_neg h3, w64' (n := a + 1) (by omega) (by omega), get_f (k + 1) l (a + 1) (by omega) hb (by omega), refGet_f k l (a + 1) (by omega) hb (by omega), Option.bind_some, Option.bind_some]
  rcases getS_range l (a + 1) hb with ⟨hw, _⟩ | ⟨hw, x, hn, hx, _, hf, hfl, _⟩
  · rw [if_neg hw, if_neg hw]
    exact ⟨_, rfl, rfl⟩
  rw [if_pos hw, if_pos hw]
  have hp := enc_pos x
  have h9 := enc_len9 (n := x) (by omega)
  generalize hfr : (getS l (a + 1)).2.1 = fr at hf ⊢
  generalize hnn : (getS l (a + 1)).1 = n at hn ⊢
  clear hfr hnn hw
  have hfr2 : a + 1 ≤ fr ∧ fr ≤ (l.length : Int) ∧ fr ≤ a + 10 := by omega
  clear hf hfl
  by_cases h4 : n ≤ 524288
  rotate_left
  · rw [if_neg h4, if_pos (show n > 524288 by omega)]
    exact ⟨_, rfl, rfl⟩
  rw [if_pos h4, if_neg (show ¬ n > 524288 by omega), w64' (n := n + 4) (by omega) (by omega), w64' (n := (l.length : Int) - fr) (by omega) (by omega)]
  by_cases h5 : n + 4 ≤ (l.length : Int) - fr
  rotate_left
  · rw [if_neg h5, if_pos (show n + 4 > (l.length : Int) - fr by omega)]
    exact ⟨_, rfl, rfl⟩
  rw [if_pos h5, if_neg (show ¬ (n + 4 > (l.length : Int) - fr) by omega), w64' (n := fr + n) (by omega) (by omega), w64' (n := fr + n + 4) (by omega) (by omega), if_pos ⟨by omega, by omega, by omega, by omega, by omega, by omega⟩]
  have hLO : ((l.take (fr + n + 4).toNat).drop a.toNat).length = (fr + n + 4 - a).toNat := by rw [List.length_drop, List.length_take]; omega
  have hLOb : Byte ((l.take (fr + n + 4).toNat).drop a.toNat) := fun y hy => hb y (List.mem_of_mem_take (List.mem_of_mem_drop hy))
  obtain ⟨o1, o2, ho, ho2⟩ := open_cases ((l.take (fr + n + 4).toNat).drop a.toNat) (by rw [hLO]; omega) (by rw [hLO]; omega)
  rw [if_pos (show 0 ≤ a by omega), if_pos (show a ≤ fr + n + 4 by omega), if_pos (show fr + n + 4 ≤ (l.length : Int) by omega), refOpen_f k _ hLOb (by rw [hLO]; omega) (by rw [hLO]; omega), ho, Option.bind_some, Option.bind_some]
  dsimp only
  have hB : ((l.take (fr + n).toNat).drop fr.toNat).length = n.toNat := by rw [List.length_drop, List.length_take]; omega
  rcases ho2 with rfl | rfl
  · rw [if_pos rfl, if_pos rfl, if_pos (show a < (l.length : Int) by omega), if_pos (show 0 ≤ fr by omega), if_pos (show fr ≤ fr + n by omega), if_pos (show fr + n ≤ (l.length : Int) by omega), if_pos (by rw [hB]; simp only [List.length_nil]; omega)]
    exact ⟨_, rfl, by rw [List.nil_append]⟩
  · rw [if_neg (show ¬ ((6 : Int) = 0) by decide), if_neg (show ¬ ((6 : Int) = 0) by decide)]
    exact ⟨_, rfl, rfl⟩
theorem open_any (l : List Int) (hl : l.length ≤ 140737488355328) (h4 : 4 ≤ l.length) : (crc_Open.f l = some (l.take (l.length - 4), 0) ∧ l.drop (l.length - 4) = sealL (crcSum (l.take (l.length - 4)))) ∨ crc_Open.f l = some ([], 6) := by
  unfold crc_Open.f
  rw [if_neg (by omega), if_pos hl]
  by_cases h : l.drop (l.length - 4) = sealL (crcSum (l.take (l.length - 4)))
  · exact .inl ⟨if_pos h, h⟩
  · exact .inr (if_neg h)
/-- What Get tells at the head of any bytes: an error and nothing, or a frame that is put as these bytes. -/
theorem get_any (k : Nat) (l : List Int) (hk : 20 ≤ k) (hb : Byte l) (hl : l.length ≤ 1000000) :
    ∃ (y : Int) (Y : List Int) (nx h : Int), frame_Get.f (k + 1) l 0 = some (y, Y, nx, h) ∧ ((h ≠ 0 ∧ y = 0 ∧ Y = [] ∧ nx = 0) ∨ (h = 0 ∧ ∃ Z, frame_Put.f (k + 1) y Y = some (Z, 0) ∧ 0 ≤ nx ∧ nx ≤ (l.length : Int) ∧ Z = l.take nx.toNat)) := by
  have nil : ∀ e : Int, e ≠ 0 → frame_Get.f (k + 1) l 0 = some (0, [], 0, e) → ∃ (y : Int) (Y : List Int) (nx h : Int), frame_Get.f (k + 1) l 0 = some (y, Y, nx, h) ∧ ((h ≠ 0 ∧ y = 0 ∧ Y = [] ∧ nx = 0) ∨ (h = 0 ∧ ∃ Z, frame_Put.f (k + 1) y Y = some (Z, 0) ∧ 0 ≤ nx ∧ nx ≤ (l.length : Int) ∧ Z = l.take nx.toNat)) :=
    fun e he h => ⟨0, [], 0, e, h, .inl ⟨he, rfl, rfl, rfl⟩⟩
  match l, hb, hl, nil with
  | [], _, _, nil => exact nil 4 (by decide) rfl
  | c :: t, hb, hl, nil =>
    have hl1 : (c :: t).length = t.length + 1 := rfl
    have hc := hb c (by simp)
    have hbt : Byte t := fun x hx => hb x (by simp [hx])
    have eG : frame_Get.f (k + 1) (c :: t) 0 = ((some (getS (c :: t) 1)).bind fun g =>
    (if g.2.2 = 0 then (if g.1 ≤ 524288 then (if wrap64 (g.1 + 4) ≤ wrap64 (((c :: t).length : Int) - g.2.1) then
      (if 0 ≤ g.2.1 ∧ g.2.1 ≤ wrap64 (g.2.1 + g.1) ∧ wrap64 (g.2.1 + g.1) ≤ ((c :: t).length : Int) ∧ (0 : Int) ≤ wrap64 (wrap64 (g.2.1 + g.1) + 4) ∧ wrap64 (wrap64 (g.2.1 + g.1) + 4) ≤ ((c :: t).length : Int) ∧ wrap64 (g.2.1 + g.1) - g.2.1 ≤ 524288 then
        ((crc_Open.f (((c :: t).take (wrap64 (wrap64 (g.2.1 + g.1) + 4)).toNat).drop (0 : Int).toNat)).bind fun o =>
          (if o.2 = 0 then some (wrap64 (rd (c :: t) 0), ((c :: t).take (wrap64 (g.2.1 + g.1)).toNat).drop g.2.1.toNat, wrap64 (wrap64 (g.2.1 + g.1) + 4), 0) else some (0, [], 0, o.2)))
      else none) else some (0, [], 0, 4)) else some (0, [], 0, 7)) else some (0, [], 0, g.2.2))) := by
      unfold frame_Get.f
      rw [if_neg (by omega), if_neg (by omega), get_f (k + 1) (c :: t) (0 + 1) (by omega) hb (by omega)]
      rfl
    rcases getS_range (c :: t) 1 hb with ⟨hw, _⟩ | ⟨hw, x, hn, hx, _, hf, hfl, hen⟩
    · refine nil _ hw ?_
      rw [eG, Option.bind_some, if_neg hw]
    rw [show (1 : Int).toNat = 1 from rfl, List.drop_succ_cons, List.drop_zero] at hen
    have h9 := enc_len9 (n := x) (by omega)
    have hp := enc_pos x
    rw [Option.bind_some, if_pos hw, hn, hf] at eG
    by_cases h4 : (x : Int) ≤ 524288
    rotate_left
    · exact nil 7 (by decide) (by rw [eG, if_neg h4])
    rw [if_pos h4, w64' (n := (x : Int) + 4) (by omega) (by omega), w64' (n := ((c :: t).length : Int) - (1 + ((enc x).length : Int))) (by omega) (by omega)] at eG
    by_cases h5 : (x : Int) + 4 ≤ ((c :: t).length : Int) - (1 + ((enc x).length : Int))
    rotate_left
    · exact nil 4 (by decide) (by rw [eG, if_neg h5])
    rw [if_pos h5, w64' (n := (1 : Int) + ((enc x).length : Int) + (x : Int)) (by omega) (by omega), w64' (n := (1 : Int) + ((enc x).length : Int) + (x : Int) + 4) (by omega) (by omega), if_pos (by omega)] at eG
    -- the bytes in their parts
    obtain ⟨r, hr⟩ : ∃ r, t = enc x ++ r := ⟨t.drop (enc x).length, by rw [← hen, List.length_take, ← List.take_append_drop (enc x).length t]; simp [hen]⟩
    subst hr
    have hrl : x + 4 ≤ r.length := by rw [List.length_append] at hl1; omega
    have e0 : c :: (enc x ++ r) = (c :: enc x) ++ r := rfl
    have n1 : ((1 : Int) + ((enc x).length : Int) + (x : Int) + 4).toNat = (c :: enc x).length + (x + 4) := by simp only [List.length_cons]; omega
    have n2 : ((1 : Int) + ((enc x).length : Int) + (x : Int)).toNat = (c :: enc x).length + x := by simp only [List.length_cons]; omega
    have n3 : ((1 : Int) + ((enc x).length : Int)).toNat = (c :: enc x).length := by simp only [List.length_cons]; omega
    have hrx : (r.take x).length = x := by rw [List.length_take]; omega
    have eU : (c :: enc x) ++ r.take x = ownF c (r.take x) := by unfold ownF; rw [hrx]; rfl
    have tk : ∀ j, (c :: (enc x ++ r)).take ((c :: enc x).length + j) = (c :: enc x) ++ r.take j := fun j => by rw [e0, List.take_append, List.take_of_length_le (by omega), Nat.add_sub_cancel_left]
    rw [n1, n2, n3, show ((0 : Int)).toNat = 0 from rfl, List.drop_zero, tk, tk, List.drop_left] at eG
    have hTl : ((c :: enc x) ++ r.take (x + 4)).length = (ownF c (r.take x)).length + 4 := by rw [← eU, List.length_append, List.length_append, hrx, List.length_take]; omega
    have hT4 : ((c :: enc x) ++ r.take (x + 4)).take (ownF c (r.take x)).length = ownF c (r.take x) := by
      rw [← eU, List.length_append, List.take_append, List.take_of_length_le (by omega), Nat.add_sub_cancel_left, hrx, List.take_take, Nat.min_eq_left (by omega)]
    rcases open_any ((c :: enc x) ++ r.take (x + 4)) (by rw [hTl, ownF_len, hrx]; omega) (by omega) with ⟨ho, hs⟩ | ho
    · rw [ho, Option.bind_some] at eG
      dsimp only at eG
      rw [if_pos rfl] at eG
      rw [hTl, Nat.add_sub_cancel, hT4] at hs
      have hy : wrap64 (rd (c :: (enc x ++ r)) 0) = c := by rw [show rd (c :: (enc x ++ r)) 0 = c from rfl]; exact w64' (by omega) (by omega)
      rw [hy] at eG
      refine ⟨_, _, _, _, eG, .inr ⟨rfl, _, put_encF k c (r.take x) hk hc.1 hc.2 (fun z hz => hbt z (List.mem_append_right _ (List.mem_of_mem_take hz))) (by omega), by omega, by omega, ?_⟩⟩
      rw [n1, tk]
      unfold encF
      rw [← hs]
      conv => rhs; rw [← List.take_append_drop (ownF c (r.take x)).length ((c :: enc x) ++ r.take (x + 4))]
      rw [hT4]
    · exact nil 6 (by decide) (by rw [eG, ho, Option.bind_some]; rfl)
theorem FramePlays : remoralaw29_FramePlays.Pure := by
  refine ⟨2000000 + 1, fun L hb hl => ?_⟩
  obtain ⟨⟨r1, F, r3, r4⟩, h1, h2⟩ := gets_eq L hb (by omega) 0 2000000 (Nat.le_refl _)
  obtain ⟨y, Y, nx, h, hg, hc⟩ := get_any 2000000 L (by omega) hb (by omega)
  rw [h1] at hg
  simp only [Option.some.injEq, Prod.mk.injEq] at hg
  obtain ⟨rfl, rfl, rfl, rfl⟩ := hg
  refine ⟨r1, F, r3, r4, h1, h2, ?_⟩
  rcases hc with ⟨h, h3, h4, h5⟩ | ⟨h, _, _, h3, h4, _⟩
  · exact .inr ⟨h, h3, h4, h5⟩
  · exact .inl ⟨h, h3, h4⟩
end Go.Proofs.YtmllikjhflnngaaDoor.Pure
