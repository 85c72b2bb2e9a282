/- Take of a mux: what it computes. -/
import Derived.Test.YthehhbfiaaadgaaDoorMux2
import Derived.Test.YthehhbfiaaadgaaDoorPx0
import Derived.Test.YthehhbfiaaadgaaDoorFrameGets
import Derived.Deep.CutBlock
namespace Go.Proofs.YthehhbfiaaadgaaDoor.P
open Go.RowKit Go.Proofs.YthehhbfiaaadgaaDoorW.PrintWords Go.Proofs.YthehhbfiaaadgaaDoorW.PrintLast Go.Proofs.YthehhbfiaaadgaaDoorW.PrintMore
attribute [local go_sem] max2_int min2_int max_two min_two max_three min_three max_four min_four
set_option linter.unusedVariables false
set_option linter.unusedSimpArgs false
set_option maxHeartbeats 4000000 in
set_option maxRecDepth 100000 in
theorem mux_bytes.full {b0 p q : Nat} {vs : Nat → Value} {M : Mx} (ch : Nat) (hch : ch < 8) (A : Option Addr) (n c : Nat) (w : World) (h : Mm b0 p q vs M w) (hf : decide ((n : Int) > wrap64 (M.win - M.owed ch)) = true) :
    Calls Tryd.prog 47 #[.pointer (some ⟨p, 0, none⟩), .agg #[.int .i64 ch, .slice A n c]] w fun e w' => e = .returned (.int .i64 8) ∧ Below w.heap.size w w' := by
  have hb := below_alloc (Below.refl _ w) (.cells #[.int .i64 ch, .slice A n c] 72)
  have hbn := blk_new w (.cells #[.int .i64 ch, .slice A n c] 72)
  have e0 := blk_cell hbn 0
  have e1 := blk_cell hbn 1
  have hM := h.below hb
  obtain ⟨c0, _⟩ := hM.cells
  obtain ⟨_, _, _, d3, _⟩ := hM.chan ch hch
  have k2 : (0 ≤ (ch : Int)) = True := eq_true (by omega)
  have k3 : (ch < 8) = True := eq_true hch
  have k4 : ((ch : Int) < 8) = True := eq_true (by omega)
  have hf' : decide (wrap64 (M.win - M.owed ch) < (n : Int)) = true := hf
  have HB := Aside0.mk hb
  clear h hM hch hb hbn
  go_enter Tryd.func47, Tryd.ntmps47
  go_wp2
  repeat (go_quiet (fail); try go_wp2)
  go_ret
  refine ⟨rfl, ?_⟩
  repeat (first | exact HB.out | apply pw_below_drewN)
theorem putRow_held (M : Mx) (ch : Nat) (h : ch < 8) (L : List Int) : M.putRow (8 + ch) L = { M with held := upd M.held ch L } := by unfold Mx.putRow; rw [if_neg (by omega), if_pos (by omega), show 8 + ch - 8 = ch by omega]
theorem loc_held (ch : Nat) (h : ch < 8) : loc (8 + ch) = 1 + ch * 5 + 2 := by unfold loc; rw [if_neg (by omega), if_pos (by omega), show 8 + ch - 8 = ch by omega]
set_option maxHeartbeats 8000000 in
set_option maxRecDepth 100000 in
theorem mux_bytes.at_ {b0 p q : Nat} {vs : Nat → Value} {M : Mx} (ch : Nat) (hch : ch < 8) (A : Option Addr) (n c : Nat) (N : List Int) (w : World) (h : Mm b0 p q vs M w) (hC : Kd.C (Kd.int .u8) w A n N) (hf : decide ((n : Int) > wrap64 (M.win - M.owed ch)) = false) (hl : (M.held ch).length + n ≤ 140737488355328) (hb0 : b0 ≤ w.heap.size) :
    Calls Tryd.prog 47 #[.pointer (some ⟨p, 0, none⟩), .agg #[.int .i64 ch, .slice A n c]] w fun e w' => e = .returned (.int .i64 0) ∧ ∃ vs', Mm b0 p q vs' { M with held := upd M.held ch (M.held ch ++ N), owed := upd M.owed ch (wrap64 (M.owed ch + (n : Nat))) } w' ∧ Stp (Mf p q vs) (Mf p q vs') w w' := by
  have hb := below_alloc (Below.refl _ w) (.cells #[.int .i64 ch, .slice A n c] 72)
  have hbn := blk_new w (.cells #[.int .i64 ch, .slice A n c] 72)
  have e0 := blk_cell hbn 0
  have e1 := blk_cell hbn 1
  have hM := h.below hb
  obtain ⟨c0, _⟩ := hM.cells
  obtain ⟨_, _, d2, d3, _⟩ := hM.chan ch hch
  have k2 : (0 ≤ (ch : Int)) = True := eq_true (by omega)
  have k3 : (ch < 8) = True := eq_true hch
  have k4 : ((ch : Int) < 8) = True := eq_true (by omega)
  have hf' : decide (wrap64 (M.win - M.owed ch) < (n : Int)) = false := hf
  have HB := Aside0.mk hb
  have HBN := Aside0.mk hbn
  have HM := Aside0.mk hM
  have HC := Aside0.mk (Kd.C_below hC hb)
  have HX := Aside0.mk (And.intro hch (And.intro hl hb0))
  have HF := Aside0.mk (fun k => h.foot k)
  clear h hM hch hb hbn hC hl hb0
  go_enter Tryd.func47, Tryd.ntmps47
  go_wp2
  generalize w.alloc (.cells #[.int .i64 ch, .slice A n c] 72) = W at *
  go_quiet (fail)
  generalize nq = m1
  go_wp2
  go_quiet (fail)
  go_wp2
  have hbd := pw_below_drewN (pw_below_drewN (Below.refl W.heap.size W) m1) nq
  have HM2 := Aside0.mk (HM.out.below hbd)
  have HB2 := Aside0.mk (below_then HB.out HB.out.size hbd)
  have hbn2 := blk_below HBN.out hbd
  have HC2 := Aside0.mk (Kd.C_below HC.out hbd)
  have HBN2 := Aside0.mk hbn2
  clear e0 e1 c0 d2 d3 HM HBN HC hbd HB
  generalize (W.drewN m1).drewN nq = W2 at *
  have hr : M.row (8 + ch) = M.held ch := by
    unfold Mx.row
    rw [if_neg (by omega), if_pos (by have := HX.out.1; omega), show 8 + ch - 8 = ch by omega]
  have hT := HM2.out.hT (8 + ch) (by have := HX.out.1; omega)
  rw [hr] at hT
  obtain ⟨A0, c00, hv⟩ := hT.slice
  obtain ⟨m, hm⟩ : ∃ m, (M.held ch).length = m := ⟨_, rfl⟩
  rw [hm] at hv
  have d2 := (HM2.out.chan ch HX.out.1).2.2.1
  rw [hv] at d2
  have e1 := blk_cell hbn2 1
  have HMd := Aside0.mk (HM2.out.below (below_drew (Below.refl _ _)))
  have HCd := Aside0.mk (Kd.C_drew HC2.out)
  have HBd := Aside0.mk (below_drew HB2.out)
  have HBNd := Aside0.mk (blk_below HBN2.out (below_drew (Below.refl _ _)))
  have HV := Aside0.mk hv
  have HXX := Aside0.mk (show b0 ≤ W2.drew.heap.size from Nat.le_trans HX.out.2.2 HBd.out.size)
  have hlw := HBd.out.size
  have HLW : Aside0 (w.heap.size ≠ p) := ⟨by have := (HF.out p (.inl rfl)).2; omega⟩
  have HTy := Aside0.mk (fun k hk => HMd.out.hT (8 + ch) (by have := HX.out.1; omega) |>.ty k hk)
  rw [hv] at hT
  have HTd := Aside0.mk ((hT.kept (w' := W2.drew) (fun k hk => rfl)))
  have d2 : W2.drew.cell? ⟨p, 1 + ch * 5 + 2, none⟩ = some (.slice A0 m c00) := d2
  have e1 : W2.drew.cell? ⟨w.heap.size, 1, none⟩ = some (.slice A n c) := e1
  clear hr hT hv hbn2 hm hlw
  refine start_ (n := 11) (S := fun w' => w'.cell? ⟨p, 1 + ch * 5 + 2, none⟩ = some (.slice A0 m c00) ∧ w'.cell? ⟨w.heap.size, 1, none⟩ = some (.slice A n c)) (ds := [10]) #[false, false, false, false, false, false, false, false, false, false, false] (by kernel_rfl) rfl rfl ⟨d2, e1⟩ (fun hHeld => ?_)
  refine pure_ (i := 0) (N := some 25) (v := ?_) (a' := ?_) #[true, false, false, false, false, false, false, false, false, false, false] rfl rfl (by kernel_rfl) (fun _ _ _ h => h) (Or.inl ⟨by rfl, ?_⟩) ?_ ?_
  rotate_left
  · intro w'
    go_simp
    with_reducible rfl
  rotate_left
  · simp only [Act.put, List.setIfInBounds_toArray, List.set_cons_zero, List.set_cons_succ, i64_w, i32_w]
    rfl
  refine pure_ (i := 1) (N := some 26) (v := ?_) (a' := ?_) #[true, true, false, false, false, false, false, false, false, false, false] rfl rfl (by kernel_rfl) (fun _ _ _ h => h) (Or.inl ⟨by rfl, ?_⟩) ?_ ?_
  rotate_left
  · intro w'
    go_simp
    with_reducible rfl
  rotate_left
  · simp only [Act.put, List.setIfInBounds_toArray, List.set_cons_zero, List.set_cons_succ, i64_w, i32_w]
    rfl
  refine pure_ (i := 2) (N := some 27) (v := ?_) (a' := ?_) #[true, true, true, false, false, false, false, false, false, false, false] rfl rfl (by kernel_rfl) (fun _ _ _ h => h) (Or.inl ⟨by rfl, ?_⟩) ?_ ?_
  rotate_left
  · intro w'
    go_simp
    with_reducible rfl
  rotate_left
  · simp only [Act.put, List.setIfInBounds_toArray, List.set_cons_zero, List.set_cons_succ, i64_w, i32_w]
    rfl
  refine pure_ (i := 3) (N := some 28) (v := ?_) (a' := ?_) #[true, true, true, true, false, false, false, false, false, false, false] rfl rfl (by kernel_rfl) (fun _ _ _ h => h) (Or.inl ⟨by rfl, ?_⟩) ?_ ?_
  rotate_left
  · intro w'
    go_simp
    with_reducible rfl
  rotate_left
  · simp only [Act.put, List.setIfInBounds_toArray, List.set_cons_zero, List.set_cons_succ, i64_w, i32_w]
    rfl
  refine pure_ (i := 5) (N := some 30) (v := ?_) (a' := ?_) #[true, true, true, true, false, true, false, false, false, false, false] rfl rfl (by kernel_rfl) (fun _ _ _ h => h) (Or.inl ⟨by rfl, ?_⟩) ?_ ?_
  rotate_left
  · intro w'
    go_simp
    with_reducible rfl
  rotate_left
  · simp only [Act.put, List.setIfInBounds_toArray, List.set_cons_zero, List.set_cons_succ, i64_w, i32_w]
    rfl
  refine take_ (i := 4) (N := some 29) (v := ?_) (a' := ?_) #[true, true, true, true, true, true, false, false, false, false, false] rfl rfl (by kernel_rfl) (fun _ _ _ h => h) (Or.inl ⟨by rfl, ?_⟩) hHeld ?_ ?_
  rotate_left
  · rintro w' ⟨s0, s1⟩
    go_simp
    with_reducible rfl
  rotate_left
  · simp only [Act.put, List.setIfInBounds_toArray, List.set_cons_zero, List.set_cons_succ, i64_w, i32_w]
    rfl
  refine take_ (i := 6) (N := some 31) (v := ?_) (a' := ?_) #[true, true, true, true, true, true, true, false, false, false, false] rfl rfl (by kernel_rfl) (fun _ _ _ h => h) (Or.inl ⟨by rfl, ?_⟩) hHeld ?_ ?_
  rotate_left
  · rintro w' ⟨s0, s1⟩
    go_simp
    with_reducible rfl
  rotate_left
  · simp only [Act.put, List.setIfInBounds_toArray, List.set_cons_zero, List.set_cons_succ, i64_w, i32_w]
    rfl
  refine one_ (i := 7) (N := some 32) #[true, true, true, true, true, true, true, true, false, false, false] rfl rfl (by kernel_rfl) (by decide) (fun K hK => ?_)
  refine tb_append_step (W := W2.drew) b0 (by rfl) (.tmp 29) (.tmp 31) rfl (.slice A0 m c00) (M.held ch) A n c N rfl rfl HTd.out HCd.out HX.out.2.1 HXX.out ?_
  intro v1 w3 hT3 hg3 ho3
  rw [← HV.out] at hg3 ho3
  obtain ⟨A1, c1, hv1⟩ := hT3.slice
  obtain ⟨n1, hn1⟩ : ∃ n, (M.held ch ++ N).length = n := ⟨_, rfl⟩
  rw [hn1] at hv1
  subst hv1
  clear hn1
  have HA := Aside0.mk (HMd.out.putRow (8 + ch) (by have := HX.out.1; omega) (.slice A1 n1 c1) _ hT3 hg3 (.inr ho3))
  have HST := Aside0.mk (HMd.out.rowStp (8 + ch) (by have := HX.out.1; omega) (.slice A1 n1 c1) hg3 (.inr ho3) (loc (8 + ch)))
  have zz := row_facts HMd.out (8 + ch) (by have := HX.out.1; omega) (.slice A1 n1 c1) hg3
  have hloc := loc_held ch HX.out.1
  rw [hloc] at zz HA HST
  rw [HV.out] at zz
  have z1 := zz.1
  have z2 := zz.2
  have HBN4 := Aside0.mk (blk_grown HBNd.out hg3 (by intro e; have := HTy.out _ e.symm; obtain ⟨cs, hcs⟩ := this; rw [HBNd.out] at hcs; injection hcs with hcs; injection hcs with _ hcs; exact absurd hcs (by decide)))
  clear hT3 hg3 ho3 hloc
  refine hK.out _ _ ⟨zz.1, (blk_cell HBN4.out 1)⟩ (fun hHeld => ?_)
  clear hK K
  refine norm_ (a' := ?_) ?_ ?_
  rotate_left
  · show Act.put _ (some 32) _ = _
    simp only [Act.put, List.setIfInBounds_toArray, List.set_cons_zero, List.set_cons_succ, i64_w, i32_w]
    rfl
  refine pure_ (i := 8) (N := some 33) (v := ?_) (a' := ?_) #[true, true, true, true, true, true, true, true, true, false, false] rfl rfl (by kernel_rfl) (fun _ _ _ h => h) (Or.inl ⟨by rfl, ?_⟩) ?_ ?_
  rotate_left
  · intro w'
    go_simp
    with_reducible rfl
  rotate_left
  · simp only [Act.put, List.setIfInBounds_toArray, List.set_cons_zero, List.set_cons_succ, i64_w, i32_w]
    rfl
  refine pure_ (i := 9) (N := some 34) (v := ?_) (a' := ?_) #[true, true, true, true, true, true, true, true, true, true, false] rfl rfl (by kernel_rfl) (fun _ _ _ h => h) (Or.inl ⟨by rfl, ?_⟩) ?_ ?_
  rotate_left
  · intro w'
    go_simp
    with_reducible rfl
  rotate_left
  · simp only [Act.put, List.setIfInBounds_toArray, List.set_cons_zero, List.set_cons_succ, i64_w, i32_w]
    rfl
  refine last_ (i := 10) (N := none) #[true, true, true, true, true, true, true, true, true, true, true] rfl rfl (by kernel_rfl) (by decide) (fun K hK => ?_)
  refine skip_ (w1 := ?_) (by rfl) rfl ?_ ?_
  rotate_left
  · go_simp
    rfl
  refine hK.out _ _ ?_
  clear hK K
  refine done_ (by kernel_rfl) ?_
  have HN4 := Aside0.mk (blk_far HBN4.out (p := ⟨p, 1 + ch * 5 + 2, none⟩) HLW.out (.slice A1 n1 c1))
  have e1 := blk_cell HN4.out 1
  have d3 := (HA.out.chan ch HX.out.1).2.2.2.1
  rw [show (M.putRow (8 + ch) (M.held ch ++ N)).owed = M.owed from (M.putRow_plain _ _).2.2.1] at d3
  obtain ⟨cp, hcp, _⟩ := HA.out.hP
  have f3 := blk_frozen hcp (1 + ch * 5 + 3)
  clear hcp z1 z2
  generalize w3.setCell ⟨p, 1 + ch * 5 + 2, none⟩ (.slice A1 n1 c1) = W4 at *
  go_wp2
  go_region
  go_wp2
  go_ret
  have hA := HA.out
  rw [putRow_held _ _ HX.out.1] at hA
  exact ⟨rfl, _, (hA.putOwed ch HX.out.1 (wrap64 (M.owed ch + (n : Nat)))).below (below_drew (Below.refl _ _)), (Stp.of_below HBd.out).trans (HST.out.trans ((Stp.set (F := Mf p q (upd vs (8 + ch) (.slice A1 n1 c1))) (w := W4) ⟨p, 1 + ch * 5 + 3, none⟩ (.int .i64 (wrap64 (M.owed ch + (n : Nat)))) (.inl rfl)).trans (Stp.of_below (below_drew (Below.refl _ _)))))⟩
/-- What a frame of what is given back does. -/
def Mx.backS (M : Mx) (ch : Nat) (n : Nat) (g : Int × Int × Int) : Mx × Int :=
  if g.2.2 ≠ 0 then (M, g.2.2) else if g.2.1 < (n : Int) then (M, 5) else if M.way ch < g.1 then (M, 3) else ({ M with way := upd M.way ch (wrap64 (M.way ch - g.1)) }, 0)
set_option maxHeartbeats 8000000 in
set_option maxRecDepth 100000 in
theorem mux_given.at_ {b0 p q : Nat} {vs : Nat → Value} {M : Mx} (ch : Nat) (hch : ch < 8) (A : Option Addr) (n c : Nat) (N : List Int) (w : World) (h : Mm b0 p q vs M w) (hC : Kd.C (Kd.int .u8) w A n N) (hnc : n ≤ c) (k : Nat) (r1 r2 r3 : Int) (hg : num_Get.f k N 0 = some (r1, r2, r3)) :
    Calls Tryd.prog 48 #[.pointer (some ⟨p, 0, none⟩), .agg #[.int .i64 (8 + (ch : Int)), .slice A n c]] w fun e w' => e = .returned (.int .i64 (M.backS ch n (r1, r2, r3)).2) ∧ Mm b0 p q vs (M.backS ch n (r1, r2, r3)).1 w' ∧ Stp (Mf p q vs) (Mf p q vs) w w' := by
  have hb := below_alloc (Below.refl _ w) (.cells #[.int .i64 (8 + (ch : Int)), .slice A n c] 72)
  have hbn := blk_new w (.cells #[.int .i64 (8 + (ch : Int)), .slice A n c] 72)
  have e0 := blk_cell hbn 0
  have e1 := blk_cell hbn 1
  have hM := h.below hb
  have k1' : wrap64 ((8 + (ch : Int)) - 8) = (ch : Int) := by unfold wrap64; omega
  have k2 : (0 ≤ (ch : Int)) = True := eq_true (by omega)
  have k3 : (ch < 8) = True := eq_true hch
  have k4 : ((ch : Int) < 8) = True := eq_true (by omega)
  have HB := Aside0.mk hb
  have HBN := Aside0.mk hbn
  have HM := Aside0.mk hM
  have HC := Aside0.mk (Kd.C_below hC hb)
  have HX := Aside0.mk (And.intro hch hnc)
  have HG := Aside0.mk hg
  have HN := Aside0.mk hC.1
  clear h hM hch hb hbn hC hnc hg
  go_enter Tryd.func48, Tryd.ntmps48
  go_wp2
  generalize w.alloc (.cells #[.int .i64 (8 + (ch : Int)), .slice A n c] 72) = W at *
  go_quiet (fail)
  have hbd := pw_below_drewN (Below.refl W.heap.size W) nq
  have HM2 := Aside0.mk (HM.out.below hbd)
  have HB2 := Aside0.mk (below_then HB.out HB.out.size hbd)
  have hbn2 := blk_below HBN.out hbd
  have HC2 := Aside0.mk (Kd.C_below HC.out hbd)
  have HBN2 := Aside0.mk hbn2
  clear e0 e1 HM HBN HC hbd HB
  generalize W.drewN nq = W2 at *
  have e1 := blk_cell hbn2 1
  clear hbn2
  have hcall := num_Get.calls k A c N 0 r1 r2 r3 W2 (by rw [HN.out]; exact HC2.out) (by rw [HN.out]; exact HX.out.2) HG.out
  rw [HN.out] at hcall
  have HCL := Aside0.mk hcall
  clear hcall
  go_wp2_with fail
  refine HCL.out.mono ?_
  rintro e w3 ⟨rfl, nd, rfl⟩
  have hbd := pw_below_drewN (Below.refl W2.heap.size W2) nd
  have HM3 := Aside0.mk (HM2.out.below hbd)
  have HS3 := Aside0.mk (Stp.of_below (F := Mf p q vs) (below_then HB2.out HB2.out.size hbd))
  have e1 := blk_cell (blk_below HBN2.out hbd) 1
  have d1 := (HM3.out.chan ch HX.out.1).2.1
  obtain ⟨cp, hcp, _⟩ := HM3.out.hP
  have f1 := blk_frozen hcp (1 + ch * 5 + 1)
  clear hcp hbd
  generalize W2.drewN nd = W3 at *
  by_cases c1 : r3 = 0
  · have E1 := (fun h => h c1 : ¬ (r3 ≠ 0))
    have HC1 := Aside0.mk c1
    have j1 : (r3 != 0) = false := by rw [c1]; rfl
    clear c1 E1
    by_cases c2 : r2 < (n : Int)
    · have HE : Aside0 (M.backS ch n (r1, r2, r3) = (M, 5)) := ⟨by unfold Mx.backS; dsimp only; rw [if_neg (fun h => h HC1.out), if_pos c2]⟩
      have j2 : decide (r2 < (n : Int)) = true := decide_eq_true c2
      clear c2
      go_wp2
      go_ret
      rw [HE.out]
      exact ⟨rfl, HM3.out, HS3.out⟩
    · have HC2' := Aside0.mk c2
      have j2 : decide (r2 < (n : Int)) = false := decide_eq_false c2
      clear c2
      by_cases c3 : M.way ch < r1
      · have HE : Aside0 (M.backS ch n (r1, r2, r3) = (M, 3)) := ⟨by unfold Mx.backS; dsimp only; rw [if_neg (fun h => h HC1.out), if_neg HC2'.out, if_pos c3]⟩
        have j3 : decide (M.way ch < r1) = true := decide_eq_true c3
        have j3' : decide (r1 > M.way ch) = true := decide_eq_true c3
        clear c3
        go_wp2
        go_ret
        rw [HE.out]
        exact ⟨rfl, HM3.out, HS3.out⟩
      · have HE : Aside0 (M.backS ch n (r1, r2, r3) = ({ M with way := upd M.way ch (wrap64 (M.way ch - r1)) }, 0)) := ⟨by unfold Mx.backS; dsimp only; rw [if_neg (fun h => h HC1.out), if_neg HC2'.out, if_neg c3]⟩
        have j3 : decide (M.way ch < r1) = false := decide_eq_false c3
        have j3' : decide (r1 > M.way ch) = false := decide_eq_false c3
        clear c3
        go_wp2
        go_ret
        rw [HE.out]
        exact ⟨rfl, HM3.out.putWay ch HX.out.1 _, HS3.out.trans (Stp.set _ _ (.inl rfl))⟩
  · have HE : Aside0 (M.backS ch n (r1, r2, r3) = (M, r3)) := ⟨by unfold Mx.backS; dsimp only; rw [if_pos c1]⟩
    have j1 : (r3 != 0) = true := bne_iff_ne.mpr c1
    clear c1
    go_wp2
    go_ret
    rw [HE.out]
    exact ⟨rfl, HM3.out, HS3.out⟩
open Go.Proofs.YthehhbfiaaadgaaDoor.Num Go.Proofs.YthehhbfiaaadgaaDoor.Pure
/-- What a frame that came does. -/
def Mx.come (M : Mx) (kind : Int) (body : List Int) : Mx × Int :=
  if kind < 8 then (if (body.length : Int) > wrap64 (M.win - M.owed kind.toNat) then (M, 8) else ({ M with held := upd M.held kind.toNat (M.held kind.toNat ++ body), owed := upd M.owed kind.toNat (wrap64 (M.owed kind.toNat + (body.length : Nat))) }, 0))
  else if kind < 16 then M.backS (kind.toNat - 8) body.length (getS body 0) else (M, 17)
set_option maxHeartbeats 8000000 in
set_option maxRecDepth 100000 in
theorem mux_frame.at_ {b0 p q : Nat} {vs : Nat → Value} {M : Mx} (kind : Int) (h0 : 0 ≤ kind) (A : Option Addr) (n c : Nat) (N : List Int) (w : World) (h : Mm b0 p q vs M w) (hC : Kd.C (Kd.int .u8) w A n N) (hnc : n ≤ c) (hB : Byt N) (hl : ∀ ch, ch < 8 → (M.held ch).length + n ≤ 140737488355328) (hb0 : b0 ≤ w.heap.size) :
    Calls Tryd.prog 34 #[.pointer (some ⟨p, 0, none⟩), .agg #[.int .i64 kind, .slice A n c]] w fun e w' => e = .returned (.int .i64 (M.come kind N).2) ∧ ∃ vs', Mm b0 p q vs' (M.come kind N).1 w' ∧ Stp (Mf p q vs) (Mf p q vs') w w' := by
  have hb := below_alloc (Below.refl _ w) (.cells #[.int .i64 kind, .slice A n c] 72)
  have hbn := blk_new w (.cells #[.int .i64 kind, .slice A n c] 72)
  have e0 := blk_cell hbn 0
  have e1 := blk_cell hbn 1
  have hM := h.below hb
  have hC2 := Kd.C_below hC hb
  have hN := hC.1
  have HB := Aside0.mk hb
  have HM := Aside0.mk hM
  by_cases c1 : kind < 8
  · have k1 : decide (kind < 8) = true := decide_eq_true c1
    obtain ⟨ch, rfl⟩ : ∃ ch : Nat, kind = ch := ⟨kind.toNat, by omega⟩
    have hch : ch < 8 := by omega
    by_cases c2 : decide ((n : Int) > wrap64 (M.win - M.owed ch)) = true
    · have HE : Aside0 (M.come (ch : Int) N = (M, 8)) := ⟨by unfold Mx.come; rw [if_pos c1, Int.toNat_natCast, hN, if_pos (of_decide_eq_true c2)]⟩
      have HCL := Aside0.mk (mux_bytes.full ch hch A n c _ hM c2)
      clear h hC hnc hb hbn hM hC2 hN c1 c2 hl hb0 hch h0
      go_enter Tryd.func34, Tryd.ntmps34
      go_wp2_with fail
      refine HCL.out.mono ?_
      rintro e w1 ⟨rfl, hb⟩
      have HM1 := Aside0.mk (HM.out.below hb)
      have HS1 := Aside0.mk (Stp.of_below (F := Mf p q vs) (below_then HB.out HB.out.size hb))
      clear hb e0 e1
      go_wp2
      go_ret
      rw [HE.out]
      exact ⟨rfl, vs, HM1.out, HS1.out⟩
    · have c2' : decide ((n : Int) > wrap64 (M.win - M.owed ch)) = false := by simpa using c2
      have HE : Aside0 (M.come (ch : Int) N = ({ M with held := upd M.held ch (M.held ch ++ N), owed := upd M.owed ch (wrap64 (M.owed ch + (n : Nat))) }, 0)) := ⟨by unfold Mx.come; rw [if_pos c1, Int.toNat_natCast, hN, if_neg (of_decide_eq_false c2')]⟩
      have HCL := Aside0.mk (mux_bytes.at_ ch hch A n c N _ hM hC2 c2' (hl ch hch) (Nat.le_trans hb0 hb.size))
      clear h hC hnc hb hbn hM hC2 hN c1 c2 c2' hl hb0 hch h0
      go_enter Tryd.func34, Tryd.ntmps34
      go_wp2_with fail
      refine HCL.out.mono ?_
      rintro e w1 ⟨rfl, vs', hM1, hS1⟩
      have HM1 := Aside0.mk hM1
      have HS1 := Aside0.mk ((Stp.of_below HB.out).trans hS1)
      clear hM1 hS1 e0 e1
      go_wp2
      go_ret
      rw [HE.out]
      exact ⟨rfl, vs', HM1.out, HS1.out⟩
  · have k1 : decide (kind < 8) = false := decide_eq_false c1
    by_cases c2 : kind < 16
    · have k2 : decide (kind < 16) = true := decide_eq_true c2
      obtain ⟨ch, hk⟩ : ∃ ch : Nat, kind = 8 + (ch : Int) := ⟨kind.toNat - 8, by omega⟩
      have hch : ch < 8 := by omega
      have hg := get_f 21 N 0 (by omega) hB (by have := hl 0 (by omega); omega)
      obtain ⟨⟨r1, r2, r3⟩, hr⟩ : ∃ r, getS N 0 = r := ⟨_, rfl⟩
      rw [hr] at hg
      have HE : Aside0 (M.come kind N = M.backS ch n (r1, r2, r3)) := ⟨by unfold Mx.come; rw [if_neg c1, if_pos c2, hN, hr, show kind.toNat - 8 = ch by omega]⟩
      have hcl := mux_given.at_ ch hch A n c N _ hM hC2 hnc 21 r1 r2 r3 hg
      rw [← hk] at hcl
      have HCL := Aside0.mk hcl
      clear h hC hnc hb hbn hM hC2 hN c1 c2 hl hb0 hch h0 hk hg hr hcl
      go_enter Tryd.func34, Tryd.ntmps34
      go_wp2_with fail
      refine HCL.out.mono ?_
      rintro e w1 ⟨rfl, hM1, hS1⟩
      have HM1 := Aside0.mk hM1
      have HS1 := Aside0.mk ((Stp.of_below HB.out).trans hS1)
      clear hM1 hS1 e0 e1
      go_wp2
      go_ret
      rw [HE.out]
      exact ⟨rfl, vs, HM1.out, HS1.out⟩
    · have k2 : decide (kind < 16) = false := decide_eq_false c2
      have HE : Aside0 (M.come kind N = (M, 17)) := ⟨by unfold Mx.come; rw [if_neg c1, if_neg c2]⟩
      clear h hC hnc hb hbn hM hC2 hN c1 c2 hl hb0 h0
      go_enter Tryd.func34, Tryd.ntmps34
      go_wp2
      go_ret
      rw [HE.out]
      exact ⟨rfl, vs, HM.out, Stp.of_below HB.out⟩
open Go.Proofs.YthehhbfiaaadgaaDoor.Num Go.Proofs.YthehhbfiaaadgaaDoor.Pure
/-- What holds of every mux that was made by New. -/
structure Mx.Fit (M : Mx) : Prop where
  win : 1 ≤ M.win ∧ M.win ≤ 65536
  way : ∀ i, i < 8 → 0 ≤ M.way i ∧ M.way i ≤ M.win
  owed : ∀ i, i < 8 → M.owed i = (M.held i).length + M.back i ∧ M.owed i ≤ M.win
  back : ∀ i, i < 8 → 0 ≤ M.back i
  last : 0 ≤ M.last ∧ M.last ≤ 7
  sent : ∀ i, i < 8 → Byt (M.sent i)
  held : ∀ i, i < 8 → Byt (M.held i)
  out : Byt M.out
  L : Byt M.L
  x : M.e = 0 → M.x = 0
theorem Mx.Fit.heldLen {M : Mx} (h : M.Fit) (i : Nat) (hi : i < 8) : (M.held i).length ≤ 65536 := by
  have := h.owed i hi
  have := h.back i hi
  have := h.win
  omega
theorem Mx.Fit.new {win : Int} (h : 1 ≤ win ∧ win ≤ 65536) : (Mx.new win).Fit :=
  ⟨h, fun _ _ => ⟨Int.le_refl _, by show (0 : Int) ≤ win; omega⟩, fun _ _ => ⟨rfl, by show (0 : Int) ≤ win; omega⟩, fun _ _ => Int.le_refl _, ⟨(by decide : (0 : Int) ≤ 7), (by decide : (7 : Int) ≤ 7)⟩, fun _ _ => byt_nil, fun _ _ => byt_nil, byt_nil, byt_nil, fun _ => rfl⟩
theorem Mx.backS_fit {M : Mx} (h : M.Fit) (ch n : Nat) (hch : ch < 8) (N : List Int) (hN : Byt N) : (M.backS ch n (getS N 0)).1.Fit := by
  unfold Mx.backS
  split
  · exact h
  · rename_i h0
    split
    · exact h
    · split
      · exact h
      · rename_i h2
        have hw := h.way ch hch
        have hwin := h.win
        have hg : 0 ≤ (getS N 0).1 := by
          rcases getS_range N 0 hN with ⟨hw, _⟩ | ⟨_, x, hx, _⟩
          · exact absurd hw h0
          · rw [hx]; omega
        refine ⟨h.win, fun i hi => ?_, h.owed, h.back, h.last, h.sent, h.held, h.out, h.L, h.x⟩
        show 0 ≤ upd M.way ch _ i ∧ upd M.way ch _ i ≤ M.win
        unfold upd
        split
        · have : wrap64 (M.way ch - (getS N 0).1) = M.way ch - (getS N 0).1 := by unfold wrap64; omega
          omega
        · exact h.way i hi
theorem Mx.come_fit {M : Mx} (h : M.Fit) (kind : Int) (h0 : 0 ≤ kind) (N : List Int) (hN : Byt N) (hl : N.length ≤ 1000000000) : (M.come kind N).1.Fit := by
  unfold Mx.come
  split
  · rename_i h8
    split
    · exact h
    · rename_i hf
      obtain ⟨ch, hch⟩ : ∃ ch, kind.toNat = ch := ⟨_, rfl⟩
      rw [hch] at hf ⊢
      have hc8 : ch < 8 := by omega
      have ho := h.owed ch hc8
      have hw := h.win
      have hb := h.back ch hc8
      have e1 : wrap64 (M.win - M.owed ch) = M.win - M.owed ch := by unfold wrap64; omega
      rw [e1] at hf
      have e2 : wrap64 (M.owed ch + (N.length : Nat)) = M.owed ch + (N.length : Nat) := by unfold wrap64; omega
      refine ⟨h.win, h.way, fun i hi => ?_, h.back, h.last, h.sent, fun i hi => ?_, h.out, h.L, h.x⟩
      · show upd M.owed ch _ i = ((upd M.held ch _ i).length : Int) + M.back i ∧ upd M.owed ch _ i ≤ M.win
        unfold upd
        by_cases hic : i = ch
        · subst hic
          rw [if_pos rfl, if_pos rfl, e2, List.length_append]
          omega
        · rw [if_neg hic, if_neg hic]; exact h.owed i hi
      · show Byt (upd M.held ch _ i)
        unfold upd
        split
        · exact (h.held ch hc8).append hN
        · exact h.held i hi
  · split
    · exact Mx.backS_fit h _ _ (by omega) N hN
    · exact h
theorem Mx.come_L {M : Mx} (kind : Int) (N : List Int) : (M.come kind N).1.L = M.L ∧ (M.come kind N).1.x = M.x ∧ (M.come kind N).1.e = M.e ∧ (M.come kind N).1.win = M.win ∧ (M.come kind N).1.out = M.out ∧ (M.come kind N).1.sent = M.sent ∧ (M.come kind N).1.back = M.back ∧ (M.come kind N).1.last = M.last := by
  unfold Mx.come
  split
  · split <;> exact ⟨rfl, rfl, rfl, rfl, rfl, rfl, rfl, rfl⟩
  · split
    · unfold Mx.backS
      split
      · exact ⟨rfl, rfl, rfl, rfl, rfl, rfl, rfl, rfl⟩
      · split
        · exact ⟨rfl, rfl, rfl, rfl, rfl, rfl, rfl, rfl⟩
        · split <;> exact ⟨rfl, rfl, rfl, rfl, rfl, rfl, rfl, rfl⟩
    · exact ⟨rfl, rfl, rfl, rfl, rfl, rfl, rfl, rfl⟩
/-- What a frame at the stream's head does. -/
def Mx.step (M : Mx) : Mx := { (Mx.come { M with L := M.L.drop (getH M.L).2.2.1.toNat } (getH M.L).1 (getH M.L).2.1).1 with e := (Mx.come { M with L := M.L.drop (getH M.L).2.2.1.toNat } (getH M.L).1 (getH M.L).2.1).2 }
/-- Frames are taken while there are whole ones, and no error. -/
def Mx.takes : Nat → Mx → Mx
  | 0, M => M
  | f + 1, M => if M.e = 0 then (if (getH M.L).2.2.2 = 0 then Mx.takes f M.step else if (getH M.L).2.2.2 = 4 then M else { M with x := (getH M.L).2.2.2, e := (getH M.L).2.2.2 }) else M
theorem Mx.takes_eq (f : Nat) (M : Mx) : Mx.takes (f + 1) M = if M.e = 0 then (if (getH M.L).2.2.2 = 0 then Mx.takes f M.step else if (getH M.L).2.2.2 = 4 then M else { M with x := (getH M.L).2.2.2, e := (getH M.L).2.2.2 }) else M := rfl
theorem Mx.takes_stop (f : Nat) (M : Mx) (h : M.e ≠ 0 ∨ (getH M.L).2.2.2 = 4) : Mx.takes f M = M := by
  cases f with
  | zero => rfl
  | succ f =>
    rw [Mx.takes_eq]
    rcases h with h | h
    · rw [if_neg h]
    · rw [h]
      split
      · rw [if_neg (by decide), if_pos rfl]
      · rfl
theorem Mx.step_L (M : Mx) : M.step.L = M.L.drop (getH M.L).2.2.1.toNat ∧ M.step.x = M.x ∧ M.step.win = M.win ∧ M.step.out = M.out ∧ M.step.sent = M.sent ∧ M.step.back = M.back ∧ M.step.last = M.last := by
  obtain ⟨a, b, _, c, d, e, f, g⟩ := Mx.come_L (M := { M with L := M.L.drop (getH M.L).2.2.1.toNat }) (getH M.L).1 (getH M.L).2.1
  exact ⟨a, b, c, d, e, f, g⟩
theorem Mx.step_fit {M : Mx} (h : M.Fit) (he : M.e = 0) (hl : M.L.length ≤ 1000000000) (hg : (getH M.L).2.2.2 = 0) : M.step.Fit ∧ M.step.L.length < M.L.length := by
  obtain ⟨_, hh⟩ := getH_f M.L h.L (by omega)
  rcases hh with ⟨_, h0, _, hb, hbl, ht, htl⟩ | ⟨hh, _⟩
  · have h1 : Mx.Fit { M with L := M.L.drop (getH M.L).2.2.1.toNat } := ⟨h.win, h.way, h.owed, h.back, h.last, h.sent, h.held, h.out, h.L.drop _, h.x⟩
    have h2 := Mx.come_fit h1 (getH M.L).1 h0 (getH M.L).2.1 hb (by omega)
    refine ⟨⟨h2.win, h2.way, h2.owed, h2.back, h2.last, h2.sent, h2.held, h2.out, h2.L, fun _ => ?_⟩, ?_⟩
    · exact M.step_L.2.1.trans (h.x he)
    · rw [M.step_L.1, List.length_drop]; omega
  · exact absurd hg hh
/-- A stream that changed. -/
theorem Mm.strm {b0 p q : Nat} {vs : Nat → Value} {M : Mx} {w : World} (h : Mm b0 p q vs M w) : Strm (fun k => (vs 17).ownBlock = some k ∨ w.heap.size ≤ k) b0 q M.L M.x (vs 17) w := by
  refine ⟨h.hQ, Kd.R_mono (Kd.R_tight2 rfl h.hS) (fun k hk => .inl hk.1.symm)⟩
theorem Mm.strm_q {b0 p q : Nat} {vs : Nat → Value} {M : Mx} {w : World} (h : Mm b0 p q vs M w) : ∀ k, ((vs 17).ownBlock = some k ∨ w.heap.size ≤ k) → k ≠ q := by
  have hE : (Kd.int .u8).E = [] := rfl
  rintro k (hk | hk)
  · exact ((Kd.R_types h.hS h.hQ (fun z hz => by rw [hE] at hz; rw [List.mem_singleton.1 hz]; decide)).1 k hk).2
  · have := blk_lt h.hQ
    omega
theorem Mm.ne17 {b0 p q : Nat} {vs : Nat → Value} {M : Mx} {w : World} (h : Mm b0 p q vs M w) : ∀ k, (vs 17).ownBlock = some k → k ≠ p ∧ k ≠ q ∧ k < w.heap.size := by
  have hE : (Kd.int .u8).E = [] := rfl
  obtain ⟨cs, hcs, _⟩ := h.hP
  intro k hk
  exact ⟨((Kd.R_types h.hS hcs (fun z hz => by rw [hE] at hz; rw [List.mem_singleton.1 hz]; decide)).1 k hk).2, h.strm_q k (.inl hk), Kd.R_lt h.hS k hk⟩
theorem Mm.stream {b0 p q : Nat} {vs : Nat → Value} {M : Mx} {w w' : World} (h : Mm b0 p q vs M w) {v' : Value} {L' : List Int} {x' : Int} (hs : Strm (fun k => (vs 17).ownBlock = some k ∨ w.heap.size ≤ k) b0 q L' x' v' w') (hb : Below b0 w w') (hk : ∀ j, j < w.heap.size → j ≠ q → (vs 17).ownBlock ≠ some j → w'.heap[j]? = w.heap[j]?) :
    Mm b0 p q (upd vs 17 v') { M with L := L', x := x' } w' ∧ Stp (Mf p q vs) (Mf p q (upd vs 17 v')) w w' := by
  obtain ⟨cs, hcs, hsz, h0, hr, hc, h41, h43, h44⟩ := h.rows
  have hp17 : (vs 17).ownBlock ≠ some p := fun e => (h.ne17 p e).1 rfl
  refine ⟨Mm.of_rows cs ((hk p (blk_lt hcs) (Ne.symm h.p_ne) hp17).trans hcs) hsz h0 (fun j hj => ?_) hc h41 h43 h44 ?_ (fun j hj => ?_) ?_ ?_ h.hp0 h.hq0, ⟨hb.os, hb.tape, hb.output, hb.size, fun j hj hn => hk j hj (fun e => hn (.inr (.inl e))) (fun e => hn (Mf.row (i := 17) (by omega) e)), fun k hk2 => ?_⟩⟩
  · unfold upd; rw [if_neg (by omega)]; exact hr j hj
  · have : upd vs 17 v' 17 = v' := if_pos rfl
    rw [this]; exact hs.hP
  · unfold upd; rw [if_neg (by omega)]
    exact (h.hT j hj).kept (fun k hk3 => hk k ((h.hT j hj).lt k hk3) (h.ne_p j hj k hk3).2 (fun e => h.apart j 17 (by omega) (by omega) (by omega) k hk3 e))
  · have : upd vs 17 v' 17 = v' := if_pos rfl
    rw [this]
    exact Kd.R_mono hs.hR (fun _ _ => trivial)
  · intro i j hi hj hij k hki
    have fresh : ∀ i, i < 17 → (vs i).ownBlock = some k → v'.ownBlock ≠ some k := fun i hi hki e => by
      rcases hs.hR.1 k e with e2 | e2
      · exact h.apart i 17 (by omega) (by omega) (by omega) k hki e2
      · have := (h.hT i hi).lt k hki
        omega
    unfold upd at hki ⊢
    by_cases e1 : i = 17
    · rw [if_pos e1] at hki
      rw [if_neg (by omega)]
      intro e2
      exact fresh j (by omega) e2 hki
    · rw [if_neg e1] at hki
      by_cases e2 : j = 17
      · rw [if_pos e2]; exact fresh i (by omega) hki
      · rw [if_neg e2]; exact h.apart i j hi hj hij k hki
  · rcases hk2.ofUpd with hk3 | hk3
    · exact .inl hk3
    · rcases hs.hR.1 k hk3 with e2 | e2
      · exact .inl (Mf.row (i := 17) (by omega) e2)
      · exact .inr e2
open Go.Proofs.YthehhbfiaaadgaaDoor.Num Go.Proofs.YthehhbfiaaadgaaDoor.Pure
theorem mux_Take.nil (A : Option Addr) (m c : Nat) (w : World) : Calls Tryd.prog 17 #[.pointer none, .slice A m c] w fun e w' => e = .returned (.int .i64 1) ∧ w' = w := by
  go_enter Tryd.func17, Tryd.ntmps17
  go_wp2
  go_ret
  exact ⟨rfl, rfl⟩
theorem mux_Take.bad {b0 p q : Nat} {vs : Nat → Value} {M : Mx} (A : Option Addr) (m c : Nat) (w : World) (h : Mm b0 p q vs M w) (he : M.e ≠ 0) : Calls Tryd.prog 17 #[.pointer (some ⟨p, 0, none⟩), .slice A m c] w fun e w' => e = .returned (.int .i64 M.e) ∧ w' = w := by
  obtain ⟨_, _, _, _, c4⟩ := h.cells
  have hne : (M.e != 0) = true := bne_iff_ne.mpr he
  clear h he
  go_enter Tryd.func17, Tryd.ntmps17
  go_wp2
  go_ret
  exact ⟨rfl, rfl⟩
set_option maxHeartbeats 8000000 in
set_option maxRecDepth 100000 in
theorem mux_Take.at_ {b0 p q : Nat} {vs : Nat → Value} {M : Mx} (A : Option Addr) (m c : Nat) (N : List Int) (w : World) (h : Mm b0 p q vs M w) (hG : GT w) (hb0 : 0 < b0) (hbw : b0 ≤ w.heap.size) (hC : Kd.C (Kd.int .u8) w A m N) (hN : Byt N) (he : M.e = 0) (hf : M.Fit) (hl : M.L.length + m ≤ 1000000000) :
    Calls Tryd.prog 17 #[.pointer (some ⟨p, 0, none⟩), .slice A m c] w fun e w' => e = .returned (.int .i64 (Mx.takes (M.L.length + m + 1) { M with L := M.L ++ N }).e) ∧ ∃ vs', Mm b0 p q vs' (Mx.takes (M.L.length + m + 1) { M with L := M.L ++ N }) w' ∧ Stp (Mf p q vs) (Mf p q vs') w w' := by
  obtain ⟨_, _, _, c3, c4⟩ := h.cells
  rw [he] at c4
  have hx := hf.x he
  have hs := h.strm
  rw [hx] at hs
  have HFD := Aside0.mk (st_Feed.at_ _ b0 q M.L N (vs 17) A m c w hC.1 hs h.strm_q (fun k hk => .inr hk) h.hq0 hC (by rw [hC.1]; omega))
  have HM := Aside0.mk h
  have HG := Aside0.mk hG
  have Hb := Aside0.mk (And.intro hb0 hbw)
  have HX := Aside0.mk (And.intro hN (And.intro he (And.intro hf (And.intro hl hC.1))))
  clear h hG hb0 hbw hC hN he hf hl hx hs
  go_enter Tryd.func17, Tryd.ntmps17
  go_wp2_with fail
  refine HFD.out.mono ?_
  rintro e w1 ⟨rfl, hb1, hk1, v1, hs1⟩
  obtain ⟨hM1, hS1⟩ := HM.out.stream hs1 hb1 hk1
  have HM1 := Aside0.mk hM1
  have HS1 := Aside0.mk hS1
  clear hb1 hk1 hs1 hM1 hS1 c3 c4 HFD
  obtain ⟨MT, hMT⟩ : ∃ MT, Mx.takes (M.L.length + m + 1) { M with L := M.L ++ N } = MT := ⟨_, rfl⟩
  have HMT := Aside0.mk hMT
  have hM0 : ({ M with L := M.L ++ N, x := 0 } : Mx) = { M with L := M.L ++ N } := by rw [← HX.out.2.2.1.x HX.out.2.1]
  rw [hM0] at HM1
  have HF1 : Aside0 (Mx.Fit { M with L := M.L ++ N }) := ⟨⟨HX.out.2.2.1.win, HX.out.2.2.1.way, HX.out.2.2.1.owed, HX.out.2.2.1.back, HX.out.2.2.1.last, HX.out.2.2.1.sent, HX.out.2.2.1.held, HX.out.2.2.1.out, HX.out.2.2.1.L.append HX.out.1, HX.out.2.2.1.x⟩⟩
  have HL1 : Aside0 ((M.L ++ N).length < M.L.length + m + 1 ∧ (M.L ++ N).length ≤ 1000000000) := ⟨by have := HX.out.2.2.2; rw [List.length_append]; omega⟩
  clear hM0 hMT
  go_upto_block 0 with (fail)
  go_cut [5, 6] (fun s5 s6 wx => ∃ vs1, Aside0 (Mm b0 p q vs1 MT wx) ∧ Aside0 (Stp (Mf p q vs) (Mf p q vs1) w wx))
  case first =>
    go_wp2_with fail
    go_loopg [5, 6] (M.L.length + m + 1) (fun gg v5 v6 w' => ∃ M1 vs1, Aside0 (M1.L.length < gg ∧ M1.L.length ≤ 1000000000) ∧ Aside0 M1.Fit ∧ Aside0 (Mx.takes gg M1 = MT) ∧ Aside0 (Mm b0 p q vs1 M1 w') ∧ Aside0 (Stp (Mf p q vs) (Mf p q vs1) w w'))
    case atStart => exact ⟨_, _, HL1, HF1, HMT, HM1, HS1⟩
    case round =>
      clear HM1 HS1 HF1 HL1
      obtain ⟨M1, vs1, HL, HF, HT, HM1, HS1⟩ := hrel
      obtain ⟨_, _, _, c3, c4⟩ := HM1.out.cells
      by_cases he : M1.e = 0
      · rw [he] at c4
        have HE := Aside0.mk he
        have hx := HF.out.x he
        have hs := HM1.out.strm
        rw [hx] at hs
        have HX1 := Aside0.mk hx
        obtain ⟨hget, hgf⟩ := getH_f M1.L HF.out.L (by have := HL.out; omega)
        obtain ⟨g, hg⟩ : ∃ g, getH M1.L = g := ⟨_, rfl⟩
        rw [hg] at hget hgf
        obtain ⟨kind, body, to_, er⟩ := g
        dsimp only at hgf
        have HGE := Aside0.mk hg
        have hG1 : GT wr := HG.out.past (HS1.out.below b0 (fun k hk => (HM.out.foot k hk).1) Hb.out.2) Hb.out.1
        have hbs : b0 ≤ wr.heap.size := Nat.le_trans Hb.out.2 HS1.out.size
        have hlL : M1.L.length ≤ 140737488355328 := by have := HL.out; omega
        by_cases er0 : er = 0
        · subst er0
          rcases hgf with ⟨_, hk0, hk1, hbb, hbl, ht0, ht1⟩ | ⟨hgf, _⟩
          rotate_left
          · exact absurd rfl hgf
          have HNX := Aside0.mk (st_Next.got _ b0 q 2000001 M1.L kind body to_ (vs1 17) wr hG1 hs hget (Int.le_of_lt ht0) ht1 HM1.out.hq0 HM1.out.strm_q (fun k hk => .inr (Nat.le_of_lt hk)) hbs hlL)
          have HBB := Aside0.mk (And.intro hbb (And.intro hbl (And.intro hk0 ht0)))
          have HBS := Aside0.mk hbs
          have k0 : ((0 : Int) == 0) = true := rfl
          clear he hx hs hget hg hG1 hbs hlL hk0 hk1 hbb hbl ht0 ht1
          go_wp2_with fail
          refine HNX.out.mono ?_
          rintro e w2 ⟨vb, v2, rfl, hR, hb2, hk2, hs2⟩
          obtain ⟨hM2, hS2⟩ := HM1.out.stream hs2 (hb2) (fun j hj hjq _ => hk2 j hj hjq)
          obtain ⟨A2, c2, rfl⟩ := Kd.R_slice hR
          obtain ⟨_, hcb, hCb⟩ := Kd.R_reads' hR
          obtain ⟨nb, hnb⟩ : ∃ nb, body.length = nb := ⟨_, rfl⟩
          rw [hnb] at hCb hcb ⊢
          have hb3 := below_alloc (Below.refl _ w2) (.cells #[.int .i64 kind, .slice A2 nb c2] 72)
          have hM3 := hM2.below hb3
          have HS3 := Aside0.mk (HS1.out.trans (hS2.trans (Stp.of_below hb3)))
          have hn3 := blk_new w2 (.cells #[.int .i64 kind, .slice A2 nb c2] 72)
          have e0 := blk_cell hn3 0
          have e1 := blk_cell hn3 1
          have HFR := Aside0.mk (mux_frame.at_ kind HBB.out.2.2.1 A2 nb c2 body _ hM3 (Kd.C_below hCb hb3) hcb HBB.out.1 (fun ch hch => by have h1 := HF.out.heldLen ch hch; have h2 := HBB.out.2.1; have h3 := HL.out.2; show (M1.held ch).length + nb ≤ _; omega) (Nat.le_trans HBS.out (Nat.le_trans hb2.size hb3.size)))
          clear hR hb2 hk2 hs2 hM2 hS2 hCb hcb hnb hb3 hM3 hn3 HNX c3 c4
          go_wp2_with fail
          refine HFR.out.mono ?_
          rintro e w4 ⟨rfl, vs4, hM4, hS4⟩
          have HM4 := Aside0.mk hM4
          have HS4 := Aside0.mk (HS3.out.trans hS4)
          obtain ⟨cp, hcp, _⟩ := hM4.hP
          have f44 := blk_frozen hcp 44
          have c44 := (hM4.cells).2.2.2.2
          clear hM4 hS4 hcp e0 e1 HFR
          go_wp2
          go_roundg (gk - 1)
          case measure => have := HL.out; omega
          case rel =>
            have hL := HL.out
            have hx1 := HX1.out
            have hstep : M1.step = { (Mx.come { M1 with L := M1.L.drop to_.toNat, x := 0 } kind body).1 with e := (Mx.come { M1 with L := M1.L.drop to_.toNat, x := 0 } kind body).2 } := by
              unfold Mx.step
              rw [HGE.out]
              dsimp only
              rw [show ({ M1 with L := M1.L.drop to_.toNat, x := 0 } : Mx) = { M1 with L := M1.L.drop to_.toNat } by rw [← hx1]]
            obtain ⟨hfit, hlt⟩ := Mx.step_fit HF.out HE.out hL.2 (by rw [HGE.out])
            refine ⟨M1.step, vs4, ⟨by omega⟩, ⟨hfit⟩, ⟨?_⟩, ⟨by rw [hstep]; exact HM4.out.putE _⟩, ⟨HS4.out.trans (Stp.set _ _ (.inl rfl))⟩⟩
            rw [← HT.out]
            obtain ⟨g', rfl⟩ : ∃ g', gk = g' + 1 := ⟨gk - 1, by omega⟩
            rw [Mx.takes_eq, if_pos HE.out, if_pos (by rw [HGE.out])]
            rfl
        · by_cases er4 : er = 4
          · subst er4
            rcases hgf with ⟨hgf, _⟩ | ⟨_, hgf⟩
            · exact absurd hgf (by decide)
            cases hgf
            have HNX := Aside0.mk (st_Next.short _ b0 q 2000001 M1.L (vs1 17) wr hG1 hs hget)
            clear he hx hs hget hg hG1 hbs hlL er0
            go_wp2_with fail
            refine HNX.out.mono ?_
            rintro e w2 ⟨rfl, hb2⟩
            have hb3 := below_alloc (Below.refl _ w2) (.cells #[.int .i64 0, .slice none 0 0] 72)
            have hM3 := (HM1.out.below hb2).below hb3
            have HM3 := Aside0.mk hM3
            have HS3 := Aside0.mk (HS1.out.trans ((Stp.of_below hb2).trans (Stp.of_below hb3)))
            have c3 := (hM3.cells).2.2.2.1
            have q1 := (st_cells hM3.hQ).2
            rw [HX1.out] at q1
            obtain ⟨cp, hcp, _⟩ := hM3.hP
            have f44 := blk_frozen hcp 44
            have c44 := (hM3.cells).2.2.2.2
            have HER := Aside0.mk (st_Err.at_ q 0 _ q1)
            clear hb2 hb3 hM3 hcp HNX c4
            go_wp2_with fail
            refine HER.out.mono ?_
            rintro e w5 ⟨rfl, rfl⟩
            go_wp2
            go_meet
            refine ⟨vs1, ⟨?_⟩, ⟨HS3.out.trans (Stp.set _ _ (.inl rfl))⟩⟩
            have h5 := HM3.out.putE 0
            rw [show ({ M1 with e := 0 } : Mx) = M1 by rw [← HE.out]] at h5
            rw [← HT.out, Mx.takes_stop _ _ (.inr (by rw [HGE.out]))]
            exact h5
          · rcases hgf with ⟨hgf, _⟩ | ⟨_, hgf⟩
            · exact absurd hgf er0
            cases hgf
            have HNX := Aside0.mk (st_Next.wrong _ b0 q 2000001 M1.L er (beq_eq_false_iff_ne.mpr er0) (beq_eq_false_iff_ne.mpr er4) (vs1 17) wr hG1 hs hget HM1.out.hq0 HM1.out.strm_q hbs)
            have HER4 := Aside0.mk (And.intro er0 er4)
            clear he hx hs hget hg hG1 hbs hlL er0 er4
            go_wp2_with fail
            refine HNX.out.mono ?_
            rintro e w2 ⟨rfl, hb2, hk2, hs2⟩
            obtain ⟨hM2, hS2⟩ := HM1.out.stream hs2 hb2 (fun j hj hjq _ => hk2 j hj hjq)
            have hb3 := below_alloc (Below.refl _ w2) (.cells #[.int .i64 0, .slice none 0 0] 72)
            have hM3 := hM2.below hb3
            have HM3 := Aside0.mk hM3
            have HS3 := Aside0.mk (HS1.out.trans (hS2.trans (Stp.of_below hb3)))
            have c3 := (hM3.cells).2.2.2.1
            have q1 := (st_cells hM3.hQ).2
            obtain ⟨cp, hcp, _⟩ := hM3.hP
            have f44 := blk_frozen hcp 44
            have c44 := (hM3.cells).2.2.2.2
            have HER := Aside0.mk (st_Err.at_ q er _ q1)
            clear hb2 hk2 hs2 hM2 hS2 hb3 hM3 hcp HNX c4
            go_wp2_with fail
            refine HER.out.mono ?_
            rintro e w5 ⟨rfl, rfl⟩
            go_wp2
            go_meet
            refine ⟨_, ⟨?_⟩, ⟨HS3.out.trans (Stp.set _ _ (.inl rfl))⟩⟩
            have hL := HL.out
            obtain ⟨g', rfl⟩ : ∃ g', gk = g' + 1 := ⟨gk - 1, by omega⟩
            rw [← HT.out, Mx.takes_eq, if_pos HE.out, HGE.out, if_neg HER4.out.1, if_neg HER4.out.2]
            exact HM3.out.putE er
      · have k1 : (M1.e == 0) = false := beq_eq_false_iff_ne.mpr he
        have HE := Aside0.mk he
        clear he
        go_wp2
        go_meet
        exact ⟨vs1, ⟨by rw [← HT.out, Mx.takes_stop _ _ (.inl HE.out)]; exact HM1.out⟩, HS1⟩
  obtain ⟨vs1, HMc, HSc⟩ := hcut
  obtain ⟨_, _, _, _, c4⟩ := HMc.out.cells
  go_wp2
  go_ret
  rw [HMT.out]
  exact ⟨rfl, vs1, HMc.out, HSc.out⟩
open Go.Proofs.YthehhbfiaaadgaaDoor.Num Go.Proofs.YthehhbfiaaadgaaDoor.Pure
def Mx.recv (M : Mx) (ch : Nat) : Mx := { M with held := upd M.held ch [], back := upd M.back ch (wrap64 (M.back ch + ((M.held ch).length : Nat))) }
theorem mux_Recv.full {b0 p q : Nat} {vs : Nat → Value} {M : Mx} (ch : Nat) (hch : ch < 8) (w : World) (h : Mm b0 p q vs M w) :
    Calls Tryd.prog 18 #[.pointer (some ⟨p, 0, none⟩), .int .i64 ch] w fun e w' => ∃ v vs', e = .returned v ∧ Tb w' b0 v (M.held ch) ∧ (∀ k, v.ownBlock = some k → Mf p q vs k ∧ ¬ Mf p q vs' k) ∧ Mm b0 p q vs' (M.recv ch) w' ∧ Stp (Mf p q vs) (Mf p q vs') w w' := by
  refine (mux_Recv.at_ ch hch w h).mono ?_
  rintro e w' ⟨rfl, hM, hw⟩
  have hT := h.hT (8 + ch) (by omega)
  have hr : M.row (8 + ch) = M.held ch := by
    unfold Mx.row
    rw [if_neg (by omega), if_pos (by omega), show 8 + ch - 8 = ch by omega]
  rw [hr] at hT
  refine ⟨_, _, rfl, hT.kept (fun k hk => ?_), fun k hk => ⟨Mf.row (by omega) hk, ?_⟩, hM, ?_⟩
  · have := (h.ne_p (8 + ch) (by omega) k hk).1
    rw [hw]
    exact (Below.heap_setCell _ ⟨p, _, none⟩ _ k this).trans (Below.heap_setCell w ⟨p, _, none⟩ _ k this)
  · rintro (h1 | h1 | ⟨i, hi, h1⟩)
    · exact (h.ne_p (8 + ch) (by omega) k hk).1 h1
    · exact (h.ne_p (8 + ch) (by omega) k hk).2 h1
    · unfold upd at h1
      by_cases e : i = 8 + ch
      · rw [if_pos e] at h1; cases h1
      · rw [if_neg e] at h1; exact h.apart i (8 + ch) hi (by omega) e k h1 hk
  · rw [hw]
    exact ((Stp.set (F := Mf p q vs) (w := w) _ _ (.inl rfl)).trans (Stp.set (F := Mf p q vs) _ _ (.inl rfl))).shrink (fun k hk => hk.nil)
theorem Mx.recv_fit {M : Mx} (h : M.Fit) (ch : Nat) (hch : ch < 8) : (M.recv ch).Fit := by
  have ho := h.owed ch hch
  have hw := h.win
  have hb := h.back ch hch
  have e1 : wrap64 (M.back ch + ((M.held ch).length : Nat)) = M.back ch + ((M.held ch).length : Nat) := by unfold wrap64; omega
  refine ⟨h.win, h.way, fun i hi => ?_, fun i hi => ?_, h.last, h.sent, fun i hi => ?_, h.out, h.L, h.x⟩
  · show M.owed i = ((upd M.held ch [] i).length : Int) + upd M.back ch (wrap64 (M.back ch + ((M.held ch).length : Nat))) i ∧ M.owed i ≤ M.win
    rw [e1]
    unfold upd
    by_cases e : i = ch
    · subst e; rw [if_pos rfl, if_pos rfl]; simp only [List.length_nil]; omega
    · rw [if_neg e, if_neg e]; exact h.owed i hi
  · show 0 ≤ upd M.back ch (wrap64 (M.back ch + ((M.held ch).length : Nat))) i
    rw [e1]
    unfold upd
    split
    · omega
    · exact h.back i hi
  · show Byt (upd M.held ch [] i)
    unfold upd
    split
    · exact byt_nil
    · exact h.held i hi
def Mx.send (M : Mx) (ch : Nat) (N : List Int) : Mx := { M with sent := upd M.sent ch (M.sent ch ++ N), way := upd M.way ch (wrap64 (M.way ch + (N.length : Nat))) }
theorem Mx.room {M : Mx} (h : M.Fit) (ch : Nat) (hch : ch < 8) : wrap64 (M.win - M.way ch) = M.win - M.way ch := by
  have := h.way ch hch
  have := h.win
  unfold wrap64; omega
theorem Mx.send_fit {M : Mx} (h : M.Fit) (ch : Nat) (hch : ch < 8) (N : List Int) (hN : Byt N) (hf : (N.length : Int) ≤ M.win - M.way ch) : (M.send ch N).Fit := by
  have hw := h.way ch hch
  have hwin := h.win
  have e1 : wrap64 (M.way ch + (N.length : Nat)) = M.way ch + (N.length : Nat) := by unfold wrap64; omega
  refine ⟨h.win, fun i hi => ?_, h.owed, h.back, h.last, fun i hi => ?_, h.held, h.out, h.L, h.x⟩
  · show 0 ≤ upd M.way ch (wrap64 (M.way ch + (N.length : Nat))) i ∧ upd M.way ch (wrap64 (M.way ch + (N.length : Nat))) i ≤ M.win
    rw [e1]
    unfold upd
    split
    · omega
    · exact h.way i hi
  · show Byt (upd M.sent ch (M.sent ch ++ N) i)
    unfold upd
    split
    · exact (h.sent ch hch).append hN
    · exact h.sent i hi
/-- All that Send answers of a mux that there is. -/
def Mx.sendE (M : Mx) (ch : Int) (n : Nat) : Int := if M.e ≠ 0 then M.e else if ch < 0 ∨ 8 ≤ ch then 2 else if (n : Int) > M.win - M.way ch.toNat then 8 else 0
theorem mux_Send.any {b0 p q : Nat} {vs : Nat → Value} {M : Mx} (ch : Int) (A : Option Addr) (n c : Nat) (N : List Int) (w : World) (h : Mm b0 p q vs M w) (hf : M.Fit) (hC : Kd.C (Kd.int .u8) w A n N) (hl : ∀ ch, ch < 8 → (M.sent ch).length + n ≤ 140737488355328) (hb0 : b0 ≤ w.heap.size) :
    Calls Tryd.prog 16 #[.pointer (some ⟨p, 0, none⟩), .int .i64 ch, .slice A n c] w fun e w' => e = .returned (.int .i64 (M.sendE ch n)) ∧ ∃ vs', Mm b0 p q vs' (if M.sendE ch n = 0 then M.send ch.toNat N else M) w' ∧ Stp (Mf p q vs) (Mf p q vs') w w' := by
  unfold Mx.sendE
  by_cases he : M.e = 0
  · rw [if_neg (fun h => h he)]
    by_cases hch : ch < 0 ∨ 8 ≤ ch
    · rw [if_pos hch]
      refine (mux_Send.out ch A n c w h he (by rw [Bool.or_eq_true, decide_eq_true_eq, decide_eq_true_eq]; exact hch)).mono ?_
      rintro e w' ⟨rfl, rfl⟩
      exact ⟨rfl, vs, by rw [if_neg (by decide)]; exact h, Stp.refl _ _⟩
    · rw [if_neg hch]
      obtain ⟨i, rfl⟩ : ∃ i : Nat, ch = i := ⟨ch.toNat, by omega⟩
      have hi : i < 8 := by omega
      rw [Int.toNat_natCast]
      have hr := Mx.room hf i hi
      by_cases hfl : (n : Int) > M.win - M.way i
      · rw [if_pos hfl]
        refine (mux_Send.full i hi A n c w h he (by rw [hr]; exact decide_eq_true hfl)).mono ?_
        rintro e w' ⟨rfl, hb⟩
        exact ⟨rfl, vs, by rw [if_neg (by decide)]; exact h.below hb, Stp.of_below hb⟩
      · rw [if_neg hfl]
        refine (mux_Send.at_ i hi A n c N w h hC he (by rw [hr]; exact decide_eq_false hfl) (hl i hi) hb0).mono ?_
        rintro e w' ⟨rfl, v1, hM, hS⟩
        refine ⟨rfl, _, ?_, hS⟩
        rw [if_pos rfl]
        unfold Mx.send
        rw [hC.1]
        exact hM
  · rw [if_pos he]
    refine (mux_Send.bad ch A n c w h he).mono ?_
    rintro e w' ⟨rfl, rfl⟩
    exact ⟨rfl, vs, by rw [if_neg he]; exact h, Stp.refl _ _⟩
end Go.Proofs.YthehhbfiaaadgaaDoor.P
