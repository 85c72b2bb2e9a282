-- Written by a program of the session (wip/tool/mk.py) out of the translation; Lean checks it.
import Derived.Test.YtniboafnkiijcaaPx0
import Derived.Test.YtniboafnkiijcaaPx1
import Derived.Test.YtniboafnkiijcaaPx2
import Derived.Test.YtniboafnkiijcaaPx3
import Derived.Test.YtniboafnkiijcaaPx4
import Derived.Test.YtniboafnkiijcaaPx5
namespace Go.Proofs.Ytniboafnkiijcaa.P
open Go.RowKit Go.Proofs.YtniboafnkiijcaaW.PrintWords Go.Proofs.YtniboafnkiijcaaW.PrintLast Go.Proofs.YtniboafnkiijcaaW.PrintMore
attribute [local go_sem] max2_int min2_int max_two min_two max_three min_three max_four min_four   -- for this text's walks alone
set_option linter.unusedVariables false
set_option linter.unusedSimpArgs false

/-! ### remoralaw33_awake: function 7, a contract of my own -/
def s0_ : St := ⟨1, 7, 0, 0, 0, 0, 0, 0, 0, ⟨#[]⟩⟩
theorem st0_cells {w : World} {g : Nat} (h : w.heap[g]? = some (.cells (stC s0_) 34 (0, 0))) :
    w.cell? ⟨g, 0, none⟩ = some (.int .i64 1) ∧ w.cell? ⟨g, 1, none⟩ = some (.int .i64 7) ∧ w.cell? ⟨g, 2, none⟩ = some (.int .i64 0) ∧ w.cell? ⟨g, 3, none⟩ = some (.int .i64 0) ∧ w.cell? ⟨g, 4, none⟩ = some (.int .i64 0) ∧ w.cell? ⟨g, 5, none⟩ = some (.int .i64 0) ∧ w.cell? ⟨g, 6, none⟩ = some (.int .i64 0) ∧ w.cell? ⟨g, 7, none⟩ = some (.int .i64 0) ∧ w.cell? ⟨g, 8, none⟩ = some (.int .i64 0) ∧ w.cell? ⟨g, 9, none⟩ = some (.string ⟨#[]⟩) := by
  refine ⟨?_, ?_, ?_, ?_, ?_, ?_, ?_, ?_, ?_, ?_⟩ <;> rw [cell_of_row w g _ _ 34 (0, 0) h] <;> rfl
def sumS (c : Int) : ByteArray := strOfNums (List.replicate 32 c)
theorem sum_f (c : Int) (h : c = 97 ∨ c = 98 ∨ c = 99) : remoralaw33_sum.f 40 c = some (sumS c) := by
  rcases h with rfl | rfl | rfl <;> kernel_rfl
abbrev bA : ByteArray := ⟨#[97]⟩
abbrev bB : ByteArray := ⟨#[98]⟩
abbrev bC : ByteArray := ⟨#[99]⟩
abbrev lA : Ln := tellX bA s0_ (sumS 97)
abbrev lB : Ln := tellX bB s0_ (sumS 98)
abbrev lC : Ln := tellX bC s0_ (sumS 99)
theorem split_small (p : ByteArray) (h : p = bA ∨ p = bB ∨ p = bC) : splitF p = [p] := by
  rcases h with rfl | rfl | rfl
  all_goals
    unfold splitF
    rw [if_neg (by rw [ByteArray.toList_eq]; decide)]
    kernel_rfl
theorem right_small (p : ByteArray) (h : p = bA ∨ p = bB ∨ p = bC) : rightF p = true := by
  rcases h with rfl | rfl | rfl
  all_goals
    unfold rightF
    rw [split_small _ (by first | exact .inl rfl | exact .inr (.inl rfl) | exact .inr (.inr rfl))]
    unfold partF
    simp only [ByteArray.toList_eq, List.all_cons, List.all_nil]
    decide
theorem tell_small (p : ByteArray) (c : Int) (h : p = bA ∨ p = bB ∨ p = bC) (hc : c = 97 ∨ c = 98 ∨ c = 99) : tellE p s0_ (sumS c) = 0 := by
  have hw : wrongF (tellX p s0_ (sumS c)) = false := by
    unfold wrongF tellX s0_
    rcases hc with rfl | rfl | rfl <;> rfl
  have hm : mayF (tellX p s0_ (sumS c)) = 0 := by
    unfold mayF
    have : (tellX p s0_ (sumS c)).path = p := rfl
    rw [this, right_small p h, hw]
    have he : p.toList.isEmpty = false := by
      rcases h with rfl | rfl | rfl <;> (rw [ByteArray.toList_eq]; rfl)
    rw [he]
    rfl
  unfold tellE
  rw [hm]
  rfl
theorem cap_a : capS 2 (lastS lA []) = [lA] := rfl
theorem eqP_ne {c s : ByteArray} (h : s ≠ c) : eqP c s = false := by
  cases hh : eqP c s with
  | false => rfl
  | true => exact absurd ((eqP_iff c s).1 hh) h
theorem eqP_rfl (c : ByteArray) : eqP c c = true := (eqP_iff c c).2 rfl
theorem cap_b : capS 2 (lastS lB [lA]) = [lA, lB] := by
  have e : eqP lB.path lA.path = false := eqP_ne (by decide)
  unfold lastS outS
  rw [List.filter_cons, e]
  rfl
theorem ask_a : lastS lA [lA, lB] = [lB, lA] := by
  have e : eqP lA.path lA.path = true := eqP_rfl _
  have e2 : eqP lA.path lB.path = false := eqP_ne (by decide)
  unfold lastS outS
  rw [List.filter_cons, e, List.filter_cons, e2]
  rfl
theorem cap_c : capS 2 (lastS lC [lB, lA]) = [lA, lC] := by
  have e : eqP lC.path lB.path = false := eqP_ne (by decide)
  have e2 : eqP lC.path lA.path = false := eqP_ne (by decide)
  unfold lastS outS
  rw [List.filter_cons, e, List.filter_cons, e2]
  rfl
theorem tell_any (q : ByteArray) (c : Int) (S S2 : List Ln) (n : Nat) (hq : q = bA ∨ q = bB ∨ q = bC) (hc : c = 97 ∨ c = 98 ∨ c = 99) (hS : S.length < 1000000) (hn : n ≤ 1000000) (hcap : capS 2 (lastS (tellX q s0_ (sumS c)) S) = S2)
    (b0 p mb : Nat) (v : Value) (w : World) (h : Lg b0 p mb n 2 v S w) :
    Calls Try.prog 14 #[.pointer (some ⟨p, 0, none⟩), .string q, .agg #[.int .i64 1, .int .i64 7, .int .i64 0, .int .i64 0, .int .i64 0, .int .i64 0, .int .i64 0, .int .i64 0, .int .i64 0, .string ⟨#[]⟩], .string (sumS c)] w fun e w' => e = .returned (.int .i64 0) ∧ ∃ v', Lg b0 p mb (n + 1) 2 v' S2 w' ∧ Bm p mb w w' := by
  refine (led_Tell.at_ b0 p mb n 2 v S q s0_ (sumS c) w h (by rcases hq with rfl | rfl | rfl <;> decide) hS hn).mono ?_
  rintro e w' ⟨rfl, ⟨h1, _⟩ | ⟨h1, v', hL, hB, _⟩⟩
  · exact absurd (tell_small q c hq hc) h1
  · rw [tell_small q c hq hc]
    rw [hcap] at hL
    exact ⟨rfl, v', hL, hB⟩
theorem ask_small (b0 p mb : Nat) (v : Value) (w : World) (h : Lg b0 p mb 2 2 v [lA, lB] w) :
    Calls Try.prog 10 #[.pointer (some ⟨p, 0, none⟩), .string bA, .agg #[.int .i64 1, .int .i64 7, .int .i64 0, .int .i64 0, .int .i64 0, .int .i64 0, .int .i64 0, .int .i64 0, .int .i64 0, .string ⟨#[]⟩]] w fun e w' => e = .returned (.tuple #[.string (sumS 97), .bool true]) ∧ ∃ v', Lg b0 p mb 3 2 v' [lB, lA] w' ∧ Bm p mb w w' := by
  refine (led_Ask.at_ b0 p mb 2 2 v [lA, lB] bA s0_ w h (by decide) (by simp) (by omega)).mono ?_
  rintro e w' (⟨_, h1, _⟩ | ⟨x, hx, hq, hm, rfl, v', hL, hB, _⟩)
  · have := h1 lA (by simp) rfl
    exact absurd this (by decide)
  · have hxA : x = lA := nodup_unique h.hN hx (by simp) (hq.trans rfl)
    subst hxA
    rw [ask_a] at hL
    exact ⟨rfl, v', hL, hB⟩
theorem two_C (w : World) (a b : ByteArray) : Kd.C Kd.string (w.alloc (.cells #[.string a, .string b] 9)) (some ⟨w.heap.size, 0, none⟩) 2 [a, b] := by
  refine Kd.C_of_reads (enc := Value.string) (d := a) (h1 := fun _ => rfl) ⟨rfl, by decide, fun _ => ⟨_, rfl, fun j hj => ?_⟩⟩
  have hb := blk_new w (.cells #[.string a, .string b] 9)
  match j, hj with
  | 0, _ => exact (cell_of_row _ _ _ _ _ _ hb)
  | 1, _ => exact (cell_of_row _ _ _ _ _ _ hb)
set_option maxHeartbeats 8000000 in
theorem law_awake.at_ (w : World) : Calls Try.prog 7 #[] w fun e w' => e = .returned (.bool true) ∧ Below w.heap.size w w' := by
  have HNew := Aside0.mk (led_New.at_ 2 w rfl)
  go_enter Try.func7, Try.ntmps7
  go_wp2_with fail
  refine HNew.out.mono ?_
  rintro e w1 ⟨p, mb, rfl, hL, hB⟩
  obtain ⟨gs, hgs⟩ : ∃ gs, w1.heap.size = gs := ⟨_, rfl⟩
  obtain ⟨w2, hw2⟩ : ∃ w2, w1.alloc (.cells #[.int .i64 1, .int .i64 7, .int .i64 0, .int .i64 0, .int .i64 0, .int .i64 0, .int .i64 0, .int .i64 0, .int .i64 0, .string ⟨#[]⟩] 34) = w2 := ⟨_, rfl⟩
  have HG2 : Aside0 (w2.heap[gs]? = some (.cells (stC s0_) 34 (0, 0))) := ⟨by rw [← hw2, ← hgs]; exact blk_new w1 _⟩
  have hB2 : Below w1.heap.size w1 w2 := by rw [← hw2]; exact below_alloc (Below.refl _ _) _
  have HL2 := Aside0.mk (hL.below hB2)
  have HNE : Aside0 (gs ≠ p ∧ gs ≠ mb) := ⟨by have h1 := blk_lt hL.hP; have h2 := hL.hM.lt; exact ⟨by omega, by omega⟩⟩
  have HB2 : Aside0 (Bm p mb w1 w2) := ⟨(Bm.refl p mb w1).below hB2⟩
  have HBB := Aside0.mk hB
  have HP0 : Aside0 (w.heap.size ≤ p ∧ w.heap.size ≤ mb) := ⟨⟨hL.hp0, hL.hm0⟩⟩
  have HW2 := Aside0.mk hw2
  clear hL hB hB2 HNew hw2
  go_wp2_with fail
  rw [HW2.out]
  refine start_ (n := 10) (S := fun w' => w'.cell? ⟨gs, 0, none⟩ = some (.int .i64 1) ∧ w'.cell? ⟨gs, 1, none⟩ = some (.int .i64 7) ∧ w'.cell? ⟨gs, 2, none⟩ = some (.int .i64 0) ∧ w'.cell? ⟨gs, 3, none⟩ = some (.int .i64 0) ∧ w'.cell? ⟨gs, 4, none⟩ = some (.int .i64 0) ∧ w'.cell? ⟨gs, 5, none⟩ = some (.int .i64 0) ∧ w'.cell? ⟨gs, 6, none⟩ = some (.int .i64 0) ∧ w'.cell? ⟨gs, 7, none⟩ = some (.int .i64 0) ∧ w'.cell? ⟨gs, 8, none⟩ = some (.int .i64 0) ∧ w'.cell? ⟨gs, 9, none⟩ = some (.string ⟨#[]⟩)) (ds := []) #[false, false, false, false, false, false, false, false, false, false] (by kernel_rfl) rfl rfl ⟨(st0_cells HG2.out).1, (st0_cells HG2.out).2.1, (st0_cells HG2.out).2.2.1, (st0_cells HG2.out).2.2.2.1, (st0_cells HG2.out).2.2.2.2.1, (st0_cells HG2.out).2.2.2.2.2.1, (st0_cells HG2.out).2.2.2.2.2.2.1, (st0_cells HG2.out).2.2.2.2.2.2.2.1, (st0_cells HG2.out).2.2.2.2.2.2.2.2.1, (st0_cells HG2.out).2.2.2.2.2.2.2.2.2⟩ (fun hHeld => ?_)
  refine pure_ (i := 0) (N := some 20) (v := ?_) (a' := ?_) #[true, false, false, false, false, false, false, false, false, false] rfl rfl (by kernel_rfl) (fun _ _ _ h => h) (Or.inl ⟨by rfl, ?_⟩) ?_ ?_
  rotate_left
  · intro w'
    go_simp
    with_reducible rfl
  rotate_left
  · simp only [Act.put, List.setIfInBounds_toArray, List.set_cons_zero, List.set_cons_succ, i64_w, i32_w]
    rfl
  refine pure_ (i := 4) (N := some 24) (v := ?_) (a' := ?_) #[true, false, false, false, true, false, false, false, false, false] rfl rfl (by kernel_rfl) (fun _ _ _ h => h) (Or.inl ⟨by rfl, ?_⟩) ?_ ?_
  rotate_left
  · intro w'
    go_simp
    with_reducible rfl
  rotate_left
  · simp only [Act.put, List.setIfInBounds_toArray, List.set_cons_zero, List.set_cons_succ, i64_w, i32_w]
    rfl
  refine take_ (i := 1) (N := some 21) (v := ?_) (a' := ?_) #[true, true, false, false, true, false, false, false, false, false] rfl rfl (by kernel_rfl) (fun _ _ _ h => h) (Or.inl ⟨by rfl, ?_⟩) hHeld ?_ ?_
  rotate_left
  · rintro w' ⟨s0, s1, s2, s3, s4, s5, s6, s7, s8, s9⟩
    go_simp
    with_reducible rfl
  rotate_left
  · simp only [Act.put, List.setIfInBounds_toArray, List.set_cons_zero, List.set_cons_succ, i64_w, i32_w]
    rfl
  refine take_ (i := 5) (N := some 25) (v := ?_) (a' := ?_) #[true, true, false, false, true, true, false, false, false, false] rfl rfl (by kernel_rfl) (fun _ _ _ h => h) (Or.inl ⟨by rfl, ?_⟩) hHeld ?_ ?_
  rotate_left
  · rintro w' ⟨s0, s1, s2, s3, s4, s5, s6, s7, s8, s9⟩
    go_simp
    with_reducible rfl
  rotate_left
  · simp only [Act.put, List.setIfInBounds_toArray, List.set_cons_zero, List.set_cons_succ, i64_w, i32_w]
    rfl
  refine one_ (i := 2) (N := some 22) #[true, true, true, false, true, true, false, false, false, false] rfl rfl (by kernel_rfl) (by decide) (fun K hK => ?_)
  refine goes_ Try.func15 (by kernel_rfl) rfl #[.int .u8 97] (by rfl) rfl rfl (by simp only [List.map_toArray, List.map_cons, List.map_nil]; rfl) ?_
  with_reducible refine (remoralaw33_sum.calls 40 97 (sumS 97) w2.drew (sum_f 97 (by decide))).mono ?_
  rintro e w3 ⟨rfl, hb_w3⟩
  refine ⟨_, rfl, ?_⟩
  have HL_w3 := Aside0.mk ((HL2.out.below (below_drew (Below.refl _ _))).below hb_w3)
  have HG_w3 := Aside0.mk (blk_below (w := w2.drew) HG2.out hb_w3)
  have HB_w3 := Aside0.mk ((HB2.out.below (below_drew (Below.refl _ _))).below hb_w3)
  clear hb_w3
  refine hK.out _ _ ⟨(st0_cells HG_w3.out).1, (st0_cells HG_w3.out).2.1, (st0_cells HG_w3.out).2.2.1, (st0_cells HG_w3.out).2.2.2.1, (st0_cells HG_w3.out).2.2.2.2.1, (st0_cells HG_w3.out).2.2.2.2.2.1, (st0_cells HG_w3.out).2.2.2.2.2.2.1, (st0_cells HG_w3.out).2.2.2.2.2.2.2.1, (st0_cells HG_w3.out).2.2.2.2.2.2.2.2.1, (st0_cells HG_w3.out).2.2.2.2.2.2.2.2.2⟩ (fun hHeld => ?_)
  clear hK K
  refine norm_ (a' := ?_) ?_ ?_
  rotate_left
  · show Act.put _ (some 22) _ = _
    simp only [Act.put, List.setIfInBounds_toArray, List.set_cons_zero, List.set_cons_succ, i64_w, i32_w]
    rfl
  refine one_ (i := 3) (N := some 23) #[true, true, true, true, true, true, false, false, false, false] rfl rfl (by kernel_rfl) (by decide) (fun K hK => ?_)
  refine goes_ Try.func14 (by kernel_rfl) rfl #[.pointer (some ⟨p, 0, none⟩), .string ⟨#[97]⟩, .agg #[.int .i64 1, .int .i64 7, .int .i64 0, .int .i64 0, .int .i64 0, .int .i64 0, .int .i64 0, .int .i64 0, .int .i64 0, .string ⟨#[]⟩], .string (sumS 97)] (by rfl) rfl rfl (by simp only [List.map_toArray, List.map_cons, List.map_nil]; rfl) ?_
  with_reducible refine (tell_any bA 97 [] [lA] 0 (.inl rfl) (.inl rfl) (by simp) (by omega) cap_a _ p mb _ _ HL_w3.out).mono ?_
  rintro e w4 ⟨rfl, v_w4, hL_w4, hB_w4⟩
  refine ⟨_, rfl, ?_⟩
  have HL_w4 := Aside0.mk hL_w4
  have HG_w4 := Aside0.mk (hB_w4.blk HG_w3.out HNE.out.1 HNE.out.2)
  have HB_w4 := Aside0.mk (HB_w3.out.trans hB_w4)
  clear hL_w4 hB_w4
  refine hK.out _ _ ⟨(st0_cells HG_w4.out).1, (st0_cells HG_w4.out).2.1, (st0_cells HG_w4.out).2.2.1, (st0_cells HG_w4.out).2.2.2.1, (st0_cells HG_w4.out).2.2.2.2.1, (st0_cells HG_w4.out).2.2.2.2.2.1, (st0_cells HG_w4.out).2.2.2.2.2.2.1, (st0_cells HG_w4.out).2.2.2.2.2.2.2.1, (st0_cells HG_w4.out).2.2.2.2.2.2.2.2.1, (st0_cells HG_w4.out).2.2.2.2.2.2.2.2.2⟩ (fun hHeld => ?_)
  clear hK K
  refine norm_ (a' := ?_) ?_ ?_
  rotate_left
  · show Act.put _ (some 23) _ = _
    simp only [Act.put, List.setIfInBounds_toArray, List.set_cons_zero, List.set_cons_succ, i64_w, i32_w]
    rfl
  refine one_ (i := 6) (N := some 26) #[true, true, true, true, true, true, true, false, false, false] rfl rfl (by kernel_rfl) (by decide) (fun K hK => ?_)
  refine goes_ Try.func15 (by kernel_rfl) rfl #[.int .u8 98] (by rfl) rfl rfl (by simp only [List.map_toArray, List.map_cons, List.map_nil]; rfl) ?_
  with_reducible refine (remoralaw33_sum.calls 40 98 (sumS 98) w4 (sum_f 98 (by decide))).mono ?_
  rintro e w5 ⟨rfl, hb_w5⟩
  refine ⟨_, rfl, ?_⟩
  have HL_w5 := Aside0.mk (HL_w4.out.below hb_w5)
  have HG_w5 := Aside0.mk (blk_below (w := w4) HG_w4.out hb_w5)
  have HB_w5 := Aside0.mk (HB_w4.out.below hb_w5)
  clear hb_w5
  refine hK.out _ _ ⟨(st0_cells HG_w5.out).1, (st0_cells HG_w5.out).2.1, (st0_cells HG_w5.out).2.2.1, (st0_cells HG_w5.out).2.2.2.1, (st0_cells HG_w5.out).2.2.2.2.1, (st0_cells HG_w5.out).2.2.2.2.2.1, (st0_cells HG_w5.out).2.2.2.2.2.2.1, (st0_cells HG_w5.out).2.2.2.2.2.2.2.1, (st0_cells HG_w5.out).2.2.2.2.2.2.2.2.1, (st0_cells HG_w5.out).2.2.2.2.2.2.2.2.2⟩ (fun hHeld => ?_)
  clear hK K
  refine norm_ (a' := ?_) ?_ ?_
  rotate_left
  · show Act.put _ (some 26) _ = _
    simp only [Act.put, List.setIfInBounds_toArray, List.set_cons_zero, List.set_cons_succ, i64_w, i32_w]
    rfl
  refine one_ (i := 7) (N := some 27) #[true, true, true, true, true, true, true, true, false, false] rfl rfl (by kernel_rfl) (by decide) (fun K hK => ?_)
  refine goes_ Try.func14 (by kernel_rfl) rfl #[.pointer (some ⟨p, 0, none⟩), .string ⟨#[98]⟩, .agg #[.int .i64 1, .int .i64 7, .int .i64 0, .int .i64 0, .int .i64 0, .int .i64 0, .int .i64 0, .int .i64 0, .int .i64 0, .string ⟨#[]⟩], .string (sumS 98)] (by rfl) rfl rfl (by simp only [List.map_toArray, List.map_cons, List.map_nil]; rfl) ?_
  with_reducible refine (tell_any bB 98 [lA] [lA, lB] 1 (.inr (.inl rfl)) (.inr (.inl rfl)) (by simp) (by omega) cap_b _ p mb _ _ HL_w5.out).mono ?_
  rintro e w6 ⟨rfl, v_w6, hL_w6, hB_w6⟩
  refine ⟨_, rfl, ?_⟩
  have HL_w6 := Aside0.mk hL_w6
  have HG_w6 := Aside0.mk (hB_w6.blk HG_w5.out HNE.out.1 HNE.out.2)
  have HB_w6 := Aside0.mk (HB_w5.out.trans hB_w6)
  clear hL_w6 hB_w6
  refine hK.out _ _ ⟨(st0_cells HG_w6.out).1, (st0_cells HG_w6.out).2.1, (st0_cells HG_w6.out).2.2.1, (st0_cells HG_w6.out).2.2.2.1, (st0_cells HG_w6.out).2.2.2.2.1, (st0_cells HG_w6.out).2.2.2.2.2.1, (st0_cells HG_w6.out).2.2.2.2.2.2.1, (st0_cells HG_w6.out).2.2.2.2.2.2.2.1, (st0_cells HG_w6.out).2.2.2.2.2.2.2.2.1, (st0_cells HG_w6.out).2.2.2.2.2.2.2.2.2⟩ (fun hHeld => ?_)
  clear hK K
  refine norm_ (a' := ?_) ?_ ?_
  rotate_left
  · show Act.put _ (some 27) _ = _
    simp only [Act.put, List.setIfInBounds_toArray, List.set_cons_zero, List.set_cons_succ, i64_w, i32_w]
    rfl
  refine pure_ (i := 8) (N := some 4) (v := ?_) (a' := ?_) #[true, true, true, true, true, true, true, true, true, false] rfl rfl (by kernel_rfl) (fun _ _ _ h => h) (Or.inl ⟨by rfl, ?_⟩) ?_ ?_
  rotate_left
  · intro w'
    go_simp
    with_reducible rfl
  rotate_left
  · simp only [Act.put, List.setIfInBounds_toArray, List.set_cons_zero, List.set_cons_succ, i64_w, i32_w]
    rfl
  refine pure_ (i := 9) (N := some 5) (v := ?_) (a' := ?_) #[true, true, true, true, true, true, true, true, true, true] rfl rfl (by kernel_rfl) (fun _ _ _ h => h) (Or.inl ⟨by rfl, ?_⟩) ?_ ?_
  rotate_left
  · intro w'
    go_simp
    with_reducible rfl
  rotate_left
  · simp only [Act.put, List.setIfInBounds_toArray, List.set_cons_zero, List.set_cons_succ, i64_w, i32_w]
    rfl
  refine done_ (by kernel_rfl) ?_
  clear hHeld
  obtain ⟨q0, q1, q2, q3, q4, q5, q6, q7, q8, q9⟩ := st0_cells HG_w6.out
  go_wp2_with fail
  refine (ask_small _ p mb _ w6 HL_w6.out).mono ?_
  rintro e w7 ⟨rfl, v7, hL7, hB7⟩
  have HL7 := Aside0.mk hL7
  have HB7 := Aside0.mk (HB_w6.out.trans hB7)
  have HG7 := Aside0.mk (hB7.blk HG_w6.out HNE.out.1 HNE.out.2)
  clear hL7 hB7 q0 q1 q2 q3 q4 q5 q6 q7 q8 q9
  go_wp2_with fail
  refine start_ (n := 5) (S := fun w' => w'.cell? ⟨gs, 0, none⟩ = some (.int .i64 1) ∧ w'.cell? ⟨gs, 1, none⟩ = some (.int .i64 7) ∧ w'.cell? ⟨gs, 2, none⟩ = some (.int .i64 0) ∧ w'.cell? ⟨gs, 3, none⟩ = some (.int .i64 0) ∧ w'.cell? ⟨gs, 4, none⟩ = some (.int .i64 0) ∧ w'.cell? ⟨gs, 5, none⟩ = some (.int .i64 0) ∧ w'.cell? ⟨gs, 6, none⟩ = some (.int .i64 0) ∧ w'.cell? ⟨gs, 7, none⟩ = some (.int .i64 0) ∧ w'.cell? ⟨gs, 8, none⟩ = some (.int .i64 0) ∧ w'.cell? ⟨gs, 9, none⟩ = some (.string ⟨#[]⟩)) (ds := []) #[false, false, false, false, false] (by kernel_rfl) rfl rfl ⟨(st0_cells HG7.out).1, (st0_cells HG7.out).2.1, (st0_cells HG7.out).2.2.1, (st0_cells HG7.out).2.2.2.1, (st0_cells HG7.out).2.2.2.2.1, (st0_cells HG7.out).2.2.2.2.2.1, (st0_cells HG7.out).2.2.2.2.2.2.1, (st0_cells HG7.out).2.2.2.2.2.2.2.1, (st0_cells HG7.out).2.2.2.2.2.2.2.2.1, (st0_cells HG7.out).2.2.2.2.2.2.2.2.2⟩ (fun hHeld => ?_)
  refine pure_ (i := 0) (N := some 34) (v := ?_) (a' := ?_) #[true, false, false, false, false] rfl rfl (by kernel_rfl) (fun _ _ _ h => h) (Or.inl ⟨by rfl, ?_⟩) ?_ ?_
  rotate_left
  · intro w'
    go_simp
    with_reducible rfl
  rotate_left
  · simp only [Act.put, List.setIfInBounds_toArray, List.set_cons_zero, List.set_cons_succ, i64_w, i32_w]
    rfl
  refine take_ (i := 1) (N := some 35) (v := ?_) (a' := ?_) #[true, true, false, false, false] rfl rfl (by kernel_rfl) (fun _ _ _ h => h) (Or.inl ⟨by rfl, ?_⟩) hHeld ?_ ?_
  rotate_left
  · rintro w' ⟨s0, s1, s2, s3, s4, s5, s6, s7, s8, s9⟩
    go_simp
    with_reducible rfl
  rotate_left
  · simp only [Act.put, List.setIfInBounds_toArray, List.set_cons_zero, List.set_cons_succ, i64_w, i32_w]
    rfl
  refine one_ (i := 2) (N := some 36) #[true, true, true, false, false] rfl rfl (by kernel_rfl) (by decide) (fun K hK => ?_)
  refine goes_ Try.func15 (by kernel_rfl) rfl #[.int .u8 99] (by rfl) rfl rfl (by simp only [List.map_toArray, List.map_cons, List.map_nil]; rfl) ?_
  with_reducible refine (remoralaw33_sum.calls 40 99 (sumS 99) w7.drew (sum_f 99 (by decide))).mono ?_
  rintro e w8 ⟨rfl, hb_w8⟩
  refine ⟨_, rfl, ?_⟩
  have HL_w8 := Aside0.mk ((HL7.out.below (below_drew (Below.refl _ _))).below hb_w8)
  have HG_w8 := Aside0.mk (blk_below (w := w7.drew) HG7.out hb_w8)
  have HB_w8 := Aside0.mk ((HB7.out.below (below_drew (Below.refl _ _))).below hb_w8)
  clear hb_w8
  refine hK.out _ _ ⟨(st0_cells HG_w8.out).1, (st0_cells HG_w8.out).2.1, (st0_cells HG_w8.out).2.2.1, (st0_cells HG_w8.out).2.2.2.1, (st0_cells HG_w8.out).2.2.2.2.1, (st0_cells HG_w8.out).2.2.2.2.2.1, (st0_cells HG_w8.out).2.2.2.2.2.2.1, (st0_cells HG_w8.out).2.2.2.2.2.2.2.1, (st0_cells HG_w8.out).2.2.2.2.2.2.2.2.1, (st0_cells HG_w8.out).2.2.2.2.2.2.2.2.2⟩ (fun hHeld => ?_)
  clear hK K
  refine norm_ (a' := ?_) ?_ ?_
  rotate_left
  · show Act.put _ (some 36) _ = _
    simp only [Act.put, List.setIfInBounds_toArray, List.set_cons_zero, List.set_cons_succ, i64_w, i32_w]
    rfl
  refine one_ (i := 3) (N := some 37) #[true, true, true, true, false] rfl rfl (by kernel_rfl) (by decide) (fun K hK => ?_)
  refine goes_ Try.func14 (by kernel_rfl) rfl #[.pointer (some ⟨p, 0, none⟩), .string ⟨#[99]⟩, .agg #[.int .i64 1, .int .i64 7, .int .i64 0, .int .i64 0, .int .i64 0, .int .i64 0, .int .i64 0, .int .i64 0, .int .i64 0, .string ⟨#[]⟩], .string (sumS 99)] (by rfl) rfl rfl (by simp only [List.map_toArray, List.map_cons, List.map_nil]; rfl) ?_
  with_reducible refine (tell_any bC 99 [lB, lA] [lA, lC] 3 (.inr (.inr rfl)) (.inr (.inr rfl)) (by simp) (by omega) cap_c _ p mb _ _ HL_w8.out).mono ?_
  rintro e w9 ⟨rfl, v_w9, hL_w9, hB_w9⟩
  refine ⟨_, rfl, ?_⟩
  have HL_w9 := Aside0.mk hL_w9
  have HG_w9 := Aside0.mk (hB_w9.blk HG_w8.out HNE.out.1 HNE.out.2)
  have HB_w9 := Aside0.mk (HB_w8.out.trans hB_w9)
  clear hL_w9 hB_w9
  refine hK.out _ _ ⟨(st0_cells HG_w9.out).1, (st0_cells HG_w9.out).2.1, (st0_cells HG_w9.out).2.2.1, (st0_cells HG_w9.out).2.2.2.1, (st0_cells HG_w9.out).2.2.2.2.1, (st0_cells HG_w9.out).2.2.2.2.2.1, (st0_cells HG_w9.out).2.2.2.2.2.2.1, (st0_cells HG_w9.out).2.2.2.2.2.2.2.1, (st0_cells HG_w9.out).2.2.2.2.2.2.2.2.1, (st0_cells HG_w9.out).2.2.2.2.2.2.2.2.2⟩ (fun hHeld => ?_)
  clear hK K
  refine norm_ (a' := ?_) ?_ ?_
  rotate_left
  · show Act.put _ (some 37) _ = _
    simp only [Act.put, List.setIfInBounds_toArray, List.set_cons_zero, List.set_cons_succ, i64_w, i32_w]
    rfl
  refine pure_ (i := 4) (N := some 8) (v := ?_) (a' := ?_) #[true, true, true, true, true] rfl rfl (by kernel_rfl) (fun _ _ _ h => h) (Or.inl ⟨by rfl, ?_⟩) ?_ ?_
  rotate_left
  · intro w'
    go_simp
    with_reducible rfl
  rotate_left
  · simp only [Act.put, List.setIfInBounds_toArray, List.set_cons_zero, List.set_cons_succ, i64_w, i32_w]
    rfl
  refine done_ (by kernel_rfl) ?_
  clear hHeld
  go_wp2_with fail
  refine (remoralaw33_sum.calls 40 97 (sumS 97) w9 (sum_f 97 (by decide))).mono ?_
  rintro e w10 ⟨rfl, hb10⟩
  have HL10 := Aside0.mk (HL_w9.out.below hb10)
  have HB10 := Aside0.mk (HB_w9.out.below hb10)
  clear hb10
  go_wp2_with fail
  refine (led_Paths.at_ _ p mb _ 2 _ _ w10 HL10.out).mono ?_
  rintro e w11 ⟨v11, rfl, hR11, hb11⟩
  have HB11 := Aside0.mk (HB10.out.below hb11)
  obtain ⟨A, c, rfl, hc, hC⟩ := Kd.R_reads hR11
  have hp : paths [lA, lC] = [bA, bC] := rfl
  rw [hp] at hC hc hR11 ⊢
  have HC11 := Aside0.mk hC
  have HCC := Aside0.mk hc
  have HT : remoraref17_Texts.f 10 [bA, bC] [bA, bC] = some true := by
    unfold remoraref17_Texts.f
    rw [if_pos rfl]
    simp only [remoraref17_Texts.l0, ByteArray.toList_eq]
    kernel_rfl
  have HTT := Aside0.mk (fun (w : World) (A : Option Addr) (c : Nat) (A2 : Option Addr) h1 h2 h3 => remoraref17_Texts.calls 10 A c [bA, bC] A2 2 [bA, bC] true w h1 h2 h3 (Nat.le_refl _) HT)
  clear hR11 hb11 hC hc hp HT
  go_wp2_with fail
  refine (HTT.out _ A c _ (Kd.C_alloc HC11.out _) HCC.out (two_C w11 bA bC)).mono ?_
  rintro e w12 ⟨rfl, hd12⟩
  have HB12 := Aside0.mk ((HB11.out.below (below_alloc (Below.refl _ _) _)).below hd12.below)
  clear hd12
  go_wp2
  go_ret
  exact ⟨by rfl, HB12.out.to HBB.out (Nat.le_refl _) HP0.out.1 HP0.out.2⟩


-- NOT PRINTED: function 16 (ledger_Ledger_Forget)

-- NOT PRINTED: function 8 (remoralaw33_Do)

end Go.Proofs.Ytniboafnkiijcaa.P
