/- The law FramePieces: frames come out of a stream in their order, however their bytes are divided. -/
import Derived.Test.YtmllikjhflnngaaDoorFrameSpec
import Derived.Test.YtmllikjhflnngaaDoorPx17
import Derived.Test.YtmllikjhflnngaaDoorPx18
set_option linter.unusedVariables false
namespace Go.Proofs.YtmllikjhflnngaaDoor.Pure
open Go.RowKit Go.Proofs.YtmllikjhflnngaaDoor.P Go.Proofs.YtmllikjhflnngaaDoorW.PrintWords Go.Proofs.YtmllikjhflnngaaDoorW.PrintLast Go.Proofs.YtmllikjhflnngaaDoorW.PrintMore Go.Proofs.YtmllikjhflnngaaDoor.Crc Go.Proofs.YtmllikjhflnngaaDoor.Num
theorem rdT (l : List S27) (i : Nat) (h : i < l.length) : rd_T27 l (i : Int) = l[i] := by simp [rd_T27, List.getD_eq_getElem?_getD, List.getElem?_eq_getElem h]
def lens (l : List S27) : Nat := (l.map fun x => x.f1.length).sum
theorem lens_take (l : List S27) (i : Nat) (h : i < l.length) : lens (l.take (i + 1)) = lens (l.take i) + l[i].f1.length := by
  unfold lens
  rw [List.take_succ_eq_append_getElem h, List.map_append, List.sum_append]
  simp
/-- Are they too many? -/
theorem great_l0 (l : List S27) (hx : ∀ x ∈ l, x.f1.length ≤ 140737488351232) (hl : l.length ≤ 140737488351232) : ∀ (d i k : Nat), i + d = l.length → 2 * d + 2 ≤ k → lens (l.take i) ≤ 100000 →
    ∃ b, remoralaw29_great.l0 k l ((lens (l.take i) : Nat) : Int) (i : Int) = some b ∧ (b = false → l.length ≤ 60 ∧ lens l ≤ 100000) := by
  intro d
  induction d with
  | zero =>
    intro i k hi hk hs
    obtain ⟨k, rfl⟩ : ∃ q, k = q + 2 := ⟨k - 2, by omega⟩
    have e : l.take i = l := List.take_of_length_le (by omega)
    rw [remoralaw29_great.l0, if_neg (by omega), remoralaw29_great.j1, if_neg (by simp)]
    refine ⟨_, rfl, fun h => ⟨by have := of_decide_eq_false h; omega, by rw [← e]; exact hs⟩⟩
  | succ d ih =>
    intro i k hi hk hs
    obtain ⟨k, rfl⟩ : ∃ q, k = q + 2 := ⟨k - 2, by omega⟩
    have hlt : i < l.length := by omega
    rw [remoralaw29_great.l0, if_pos (by omega), remoralaw29_great.j1]
    by_cases h100 : (i : Int) < 100
    · have hxi := hx _ (List.getElem_mem hlt)
      rw [if_pos (decide_eq_true h100), if_pos (by omega), if_pos (by omega), rdT l i hlt, w64' (by omega) (by omega)]
      have e := lens_take l i hlt
      by_cases hg : ((lens (l.take i) : Nat) : Int) + (l[i].f1.length : Int) > 100000
      · rw [if_pos hg]
        exact ⟨true, rfl, fun h => by cases h⟩
      · rw [if_neg hg, w64' (by omega) (by omega), show ((lens (l.take i) : Nat) : Int) + (l[i].f1.length : Int) = ((lens (l.take (i + 1)) : Nat) : Int) by omega, show (i : Int) + 1 = ((i + 1 : Nat) : Int) by omega]
        exact ih (i + 1) k (by omega) (by omega) (by omega)
    · rw [if_neg (by rw [decide_eq_true_eq]; exact h100)]
      exact ⟨_, rfl, fun h => by have := of_decide_eq_false h; omega⟩
def okF (x : S27) : Bool := decide (0 ≤ x.f0 ∧ x.f0 ≤ 255)
def encX (x : S27) : List Int := encF x.f0 x.f1
def allE (l : List S27) : List Int := l.flatMap encX
theorem encX_len (x : S27) (h : x.f1.length ≤ 140737488351232) : (encX x).length ≤ 14 + x.f1.length := by
  have := enc_len9 (n := x.f1.length) (by omega)
  unfold encX
  rw [encF_len]
  omega
theorem allE_append (a b : List S27) : allE (a ++ b) = allE a ++ allE b := by unfold allE; simp
theorem allE_cons (x : S27) (t : List S27) : allE (x :: t) = encX x ++ allE t := by unfold allE; rw [List.flatMap_cons]
theorem le_lens : ∀ (l : List S27) (x : S27), x ∈ l → x.f1.length ≤ lens l
  | y :: t, x, h => by
    have e : lens (y :: t) = y.f1.length + lens t := by simp [lens]
    rcases List.mem_cons.1 h with rfl | h
    · omega
    · have := le_lens t x h
      omega
theorem allE_len : ∀ (l : List S27), (∀ x ∈ l, x.f1.length ≤ 140737488351232) → (allE (l.filter okF)).length ≤ 14 * l.length + lens l
  | [], _ => by simp [allE]
  | x :: t, h => by
    have ih := allE_len t (fun y hy => h y (by simp [hy]))
    have hx := encX_len x (h x (by simp))
    have e : lens (x :: t) = x.f1.length + lens t := by simp [lens]
    rw [List.filter_cons]
    split
    · have e2 : allE (x :: t.filter okF) = encX x ++ allE (t.filter okF) := by simp [allE]
      rw [e2, List.length_append, e, List.length_cons]
      omega
    · rw [e, List.length_cons]
      omega
theorem put_no (k : Nat) (a : Int) (b : List Int) (h : ¬ (0 ≤ a ∧ a ≤ 255)) : frame_Put.f (k + 1) a b = some ([], 2) := by
  unfold frame_Put.f
  simp only [frame_Put.j0]
  by_cases h0 : a < 0
  · rw [if_pos h0, if_pos trivial]
  · have h1 : a > 255 := by omega
    rw [if_neg h0]
    simp [h1]
theorem next (k : Nat) (hk : 30 ≤ k) (WL : List S27) (hok : ∀ x ∈ WL, (0 ≤ x.f0 ∧ x.f0 ≤ 255) ∧ Byte x.f1 ∧ x.f1.length ≤ 524288) (hn : (allE WL).length ≤ 70000000) (hw : WL.length ≤ 1000) : fpNext k (allE WL) WL := by
  have hby : ∀ l : List S27, (∀ x ∈ l, x ∈ WL) → Byte (allE l) := fun l hl y hy => by
    unfold allE at hy
    obtain ⟨x, hx, hxy⟩ := List.mem_flatMap.1 hy
    have h := hok x (hl x hx)
    exact encF_byte h.1.1 h.1.2 h.2.1 y hxy
  refine ⟨fun a m L => m ≤ WL.length ∧ (allE WL).take a = allE (WL.take m) ++ L, ⟨Nat.zero_le _, by simp [allE]⟩, ?_, ?_, ?_, hn, hw, ?_⟩
  · rintro a b m L ⟨h1, h2⟩ hab hb
    refine ⟨h1, ?_⟩
    rw [← List.append_assoc, ← h2]
    conv => lhs; rw [← List.take_append_drop a ((allE WL).take b)]
    rw [List.take_take, Nat.min_eq_left hab]
  · rintro a m L ⟨h1, h2⟩ ha
    have hlen : ((allE WL).take a).length = a := by rw [List.length_take]; omega
    rcases Nat.lt_or_ge m WL.length with hm | hm
    · have hx := hok _ (List.getElem_mem hm)
      have hsplit : WL = WL.take m ++ WL[m] :: WL.drop (m + 1) := by rw [← List.drop_eq_getElem_cons hm, List.take_append_drop]
      have hall : allE WL = allE (WL.take m) ++ (encX WL[m] ++ allE (WL.drop (m + 1))) := by
        conv => lhs; rw [hsplit]
        rw [allE_append, allE_cons]
      have hL : L = (encX WL[m] ++ allE (WL.drop (m + 1))).take (a - (allE (WL.take m)).length) := by
        have e1 : (allE (WL.take m)).length ≤ a := by rw [← hlen, h2, List.length_append]; omega
        rw [hall, List.take_append, List.take_of_length_le e1] at h2
        exact (List.append_cancel_left h2).symm
      rw [rdT WL m hm]
      by_cases hc : (encX WL[m]).length ≤ a - (allE (WL.take m)).length
      · obtain ⟨r, hr⟩ : ∃ r, L = encX WL[m] ++ r := ⟨(allE (WL.drop (m + 1))).take (a - (allE (WL.take m)).length - (encX WL[m]).length), by rw [hL, List.take_append, List.take_of_length_le hc]⟩
        have hrb : Byte r := fun y hy => by
          have h3 : y ∈ L := by rw [hr]; exact List.mem_append_right _ hy
          rw [hL] at h3
          rcases List.mem_append.1 (List.mem_of_mem_take h3) with h4 | h4
          · exact encF_byte hx.1.1 hx.1.2 hx.2.1 y h4
          · exact hby _ (fun x hx => List.mem_of_mem_drop hx) y h4
        have hrl : r.length ≤ 70000000 := by
          have h3 : L.length ≤ (allE WL).length := by have := congrArg List.length h2; rw [hlen, List.length_append] at this; omega
          rw [hr, List.length_append] at h3
          omega
        refine .inl ⟨(encX WL[m]).length, hm, ?_, by rw [hr, List.length_append]; omega, by omega, ?_⟩
        · have := get_encF k [] r WL[m].f0 WL[m].f1 (by omega) (fun x hx => by cases hx) hrb hx.1.1 hx.1.2 hx.2.1 hx.2.2 (by simp; omega)
          rw [hr]
          simpa [encX] using this
        · rw [hr, List.drop_left, List.take_succ_eq_append_getElem hm, allE_append, h2, hr]
          simp [allE]
      · refine .inr ⟨?_, fun e => ?_⟩
        · have e2 : L = (encX WL[m]).take (a - (allE (WL.take m)).length) := by rw [hL, List.take_append_of_le_length (by omega)]
          rw [e2]
          exact get_short k WL[m].f0 WL[m].f1 _ (by omega) hx.1.1 hx.1.2 hx.2.1 hx.2.2 (by have : (encX WL[m]).length = (encF WL[m].f0 WL[m].f1).length := rfl; omega)
        · exfalso
          apply hc
          rw [e, hall, List.length_append, List.length_append]
          omega
    · have em : WL.take m = WL := List.take_of_length_le (by omega)
      rw [em] at h2
      have hL : L = [] := by
        have h3 := congrArg List.length h2
        rw [hlen, List.length_append] at h3
        exact List.eq_nil_of_length_eq_zero (by omega)
      subst hL
      exact .inr ⟨rfl, fun _ => ⟨by omega, rfl⟩⟩
  · rintro a m L ⟨h1, h2⟩
    refine ⟨h1, ?_⟩
    have h3 := congrArg List.length h2
    rw [List.length_append, List.length_take] at h3
    omega
  · intro h0
    match WL, hok with
    | [], _ => rfl
    | x :: t, hok =>
      exfalso
      have e : (allE (x :: t)).length = (encX x).length + (allE t).length := by simp [allE]
      have e2 : (encX x).length = 5 + (enc x.f1.length).length + x.f1.length := encF_len _ _
      omega
theorem FramePieces : remoralaw29_FramePieces.Pure := by
  intro l hl hx
  have hxl : ∀ x ∈ l, x.f1.length ≤ 140737488351232 := fun x h => (hx x h).1
  obtain ⟨b, hb, hb2⟩ := great_l0 l hxl (by omega) l.length 0 (2 * l.length + 2 + 50 + 1) (by omega) (by omega) (by simp [lens])
  refine ⟨2 * l.length + 2 + 50 + 1, ?_⟩
  have hb' : remoralaw29_great.f (2 * l.length + 2 + 50 + 1) l = some b := by unfold remoralaw29_great.f; simpa [lens] using hb
  cases b with
  | true => exact .inl hb'
  | false =>
    obtain ⟨h60, hsum⟩ := hb2 rfl
    have hone : ∀ x ∈ l, x.f1.length ≤ 100000 := fun x h => by
      have : x.f1.length ≤ lens l := le_lens l x h
      omega
    have hsub : ∀ (i : Nat), lens (l.take i) ≤ lens l := fun i => by
      have : lens l = lens (l.take i) + lens (l.drop i) := by
        conv => lhs; rw [← List.take_append_drop i l]
        unfold lens
        rw [List.map_append, List.sum_append]
      omega
    have hal : ∀ i, (allE ((l.take i).filter okF)).length ≤ 900 + 100000 := fun i => by
      have h1 := allE_len (l.take i) (fun x h => hxl x (List.mem_of_mem_take h))
      have h2 := hsub i
      have h3 : (l.take i).length ≤ 60 := by rw [List.length_take]; omega
      omega
    have hwl : ∀ i, ((l.take i).filter okF).length ≤ 60 := fun i => Nat.le_trans (List.length_filter_le _ _) (by rw [List.length_take]; omega)
    refine .inr ⟨hb', h60, fun i => allE ((l.take i).filter okF), fun i => (l.take i).filter okF, ⟨by simp [allE], by simp, fun i hi => ?_⟩, ?_⟩
    · have hm := List.getElem_mem hi
      rw [rdT l i hi]
      by_cases hk : 0 ≤ l[i].f0 ∧ l[i].f0 ≤ 255
      · have ho : okF l[i] = true := decide_eq_true hk
        have hel := encX_len l[i] (hxl _ hm)
        have h1 := hone _ hm
        have h2 := hal i
        refine ⟨encX l[i], 0, put_encF _ _ _ (by omega) hk.1 hk.2 (wf_byte (hx _ hm).2) (by omega), by simp only []; omega, by have := hwl i; simp only []; omega, .inl ⟨rfl, ?_, ?_⟩⟩
        · simp only []
          rw [List.take_succ_eq_append_getElem hi, List.filter_append, allE_append]
          simp [ho, allE]
        · simp only []
          rw [List.take_succ_eq_append_getElem hi, List.filter_append]
          simp [ho]
      · have ho : okF l[i] = false := decide_eq_false hk
        have h2 := hal i
        refine ⟨[], 2, put_no _ _ _ hk, by simp only [List.length_nil]; omega, by have := hwl i; simp only []; omega, .inr ⟨by decide, ?_, ?_⟩⟩
        · simp only []
          rw [List.take_succ_eq_append_getElem hi, List.filter_append]
          simp [ho]
        · simp only []
          rw [List.take_succ_eq_append_getElem hi, List.filter_append]
          simp [ho]
    · refine next _ (by omega) _ (fun x hxm => ?_) (by have := hal l.length; omega) (by have := hwl l.length; omega)
      rw [List.mem_filter] at hxm
      have h1 := List.mem_of_mem_take hxm.1
      exact ⟨of_decide_eq_true hxm.2, wf_byte (hx x h1).2, by have := hone x h1; omega⟩
end Go.Proofs.YtmllikjhflnngaaDoor.Pure
