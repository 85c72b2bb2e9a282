-- Written by a program of the session (wip/tool/mk.py) out of the translation; Lean checks it.
import Derived.Test.YtniboafnkiijcaaDoorPx0
namespace Go.Proofs.YtniboafnkiijcaaDoor.P
open Go.RowKit Go.Proofs.YtniboafnkiijcaaDoorW.PrintWords Go.Proofs.YtniboafnkiijcaaDoorW.PrintLast Go.Proofs.YtniboafnkiijcaaDoorW.PrintMore
attribute [local go_sem] max2_int min2_int max_two min_two max_three min_three max_four min_four   -- for this text's walks alone
set_option linter.unusedVariables false
set_option linter.unusedSimpArgs false

set_option maxHeartbeats 16000000 in
set_option maxRecDepth 20000 in
theorem led_Bytes.at_ (k b0 p mb n : Nat) (room : Int) (v : Value) (S : List Ln) (r : List Int) (w : World) (hG : GT w) (h : Lg b0 p mb n room v S w) (hf : ledBytesF k S = some r) :
    Calls Tryd.prog 13 #[.pointer (some ⟨p, 0, none⟩)] w fun e w' => ∃ v', e = .returned v' ∧ Kd.R (Kd.int .u8) 5 w' w.heap.size (fun _ => True) v' r ∧ Below w.heap.size w w' := by
  obtain ⟨l0, h0, hf⟩ := Option.bind_eq_some_iff.1 hf
  obtain ⟨l1, h1, hf⟩ := Option.bind_eq_some_iff.1 hf
  have G0 := Aside0.mk h0
  have H1 := Aside0.mk h1
  have HF := Aside0.mk hf
  have HG := Aside0.mk hG
  have HL := Aside0.mk h
  obtain ⟨A, c, rfl, hc, hC⟩ := Kd.R_reads h.hR
  obtain ⟨m, hm⟩ : ∃ m, m = S.length := ⟨_, rfl⟩
  have hmp : (paths S).length = m := by rw [hm]; unfold paths; rw [List.length_map]
  rw [hmp] at hC hc h HL
  rw [← hm] at G0
  have HM := Aside0.mk (And.intro hm hmp)
  have HC := Aside0.mk hC
  have q1 := (rw_cells h.hP).2.1
  have HH := Aside0.mk (num_Put.calls k none 0 [] (m : Int) l0 w (Kd.C_nil _ _) (Nat.le_refl _) G0.out)
  clear h hf h0 h1 hC hc hm hmp hG
  go_enter Tryd.func13, Tryd.ntmps13
  go_wp2_with fail
  refine HH.out.mono ?_
  rintro e w1 ⟨v0, rfl, hR0, hb0⟩
  have HBB := Aside0.mk hb0
  have HR0 := Aside0.mk hR0
  have HL1 := Aside0.mk (HL.out.below hb0)
  clear hR0 hb0 HH q1
  have q1 := (rw_cells HL1.out.hP).2.1
  go_wp2
  go_loopg [3, 5, 6, 22] m (fun g v3 v5 v6 v22 w' => ∃ (i : Nat) (b : List Int), g = m - i ∧ v22 = .int .i64 i ∧ Aside0 (i ≤ m) ∧ Aside0 (Kd.R (Kd.int .u8) 5 w' w.heap.size (fun _ => True) v3 b) ∧ Aside0 (ledLines k b (S.drop i) = some l1) ∧ Aside0 (Below w.heap.size w w'))
  case atStart => exact ⟨0, l0, rfl, rfl, ⟨Nat.zero_le _⟩, HR0, H1, HBB⟩
  case round =>
    clear q1
    obtain ⟨i, b0_, rfl, rfl, HI, HR, HF1, HBW⟩ := hrel
    have HLw := Aside0.mk (HL.out.below HBW.out)
    have q1 := (rw_cells HLw.out.hP).2.1
    have q2 := (rw_cells HLw.out.hP).2.2
    by_cases c1 : i < m
    rotate_left
    · have e1 : decide ((i : Int) < (m : Int)) = false := decide_eq_false (by omega)
      have e1' : decide (i < m) = false := decide_eq_false c1
      have e1n : (i < m) = False := eq_false c1
      have e1i : ((i : Int) < (m : Int)) = False := eq_false (by omega)
      have hF1 := HF1.out
      rw [List.drop_eq_nil_of_le (by have := HM.out.1; omega)] at hF1
      obtain rfl : b0_ = l1 := Option.some.inj hF1
      obtain ⟨A3, c3, rfl, hc3, hC3⟩ := Kd.R_reads HR.out
      have HSe := Aside0.mk (crc_Seal.calls A3 c3 b0_ r wr (HG.out.below HBW.out) hC3 hc3 HF.out)
      clear c1 hF1 hc3 hC3 HF1
      go_wp2_with fail
      refine HSe.out.mono ?_
      rintro e w9 ⟨v9, rfl, hR9, hb9⟩
      have HR9 := Aside0.mk (Kd.R_mono (Kd.R_lower hR9 HBW.out.size) (fun _ _ => trivial))
      have HB9 := Aside0.mk (ld_step HBW.out hb9)
      clear hR9 hb9 HSe
      go_wp2
      go_ret
      exact ⟨_, rfl, HR9.out, HB9.out⟩
    have e1 : decide ((i : Int) < (m : Int)) = true := decide_eq_true (by omega)
    have e1' : decide (i < m) = true := decide_eq_true c1
    have e1n : (i < m) = True := eq_true c1
    have e1i : ((i : Int) < (m : Int)) = True := eq_true (by omega)
    have hi0 : (0 ≤ (i : Int)) = True := eq_true (by omega)
    have hadd : wrap64 ((i : Int) + 1) = ((i + 1 : Nat) : Int) := by have := HM.out.1; have := HL.out.hl; unfold wrap64; omega
    obtain ⟨x, hx⟩ : ∃ x, S[i]? = some x := ⟨_, List.getElem?_eq_getElem (show i < S.length by have := HM.out.1; omega)⟩
    have hF1 := HF1.out
    rw [List.drop_eq_getElem_cons (show i < S.length by have := HM.out.1; omega), show S[i]'(by have := HM.out.1; omega) = x from Option.some.inj ((List.getElem?_eq_getElem _).symm.trans hx)] at hF1
    obtain ⟨b6, hl1, hF2⟩ := Option.bind_eq_some_iff.1 hF1
    obtain ⟨b1, b2, b3, b4, b5, g1, g2, g3, g4, g5, g6, g7⟩ := ledLine_some hl1
    have G1 := Aside0.mk g1
    have G2 := Aside0.mk g2
    have G3 := Aside0.mk g3
    have G4 := Aside0.mk g4
    have G5 := Aside0.mk g5
    have G6 := Aside0.mk g6
    have G7 := Aside0.mk g7
    have HF2 := Aside0.mk hF2
    have HX := Aside0.mk hx
    have C1 := Aside0.mk c1
    clear hF1 hl1 hF2 g1 g2 g3 g4 g5 g6 g7 HF1
    obtain ⟨ad, y, rfl, hy, hcell⟩ := str_at (Kd.R_reads' HLw.out.hR).2.2 i (by have := HM.out.2; omega)
    obtain rfl : y = x.path := by
      unfold paths at hy
      rw [List.getElem?_map, hx] at hy
      exact (Option.some.inj hy).symm
    obtain ⟨z, hlk, hz⟩ := HLw.out.hM.look1 x.path (by have := HL.out.hz x (List.mem_of_getElem? hx); unfold maxLen; omega)
    obtain rfl := hz x (List.mem_of_getElem? hx) rfl
    unfold lnV at hlk
    clear hy hz hx c1
    obtain ⟨gx, hgx⟩ : ∃ gx, wr.heap.size = gx := ⟨_, rfl⟩
    obtain ⟨w2, hw2⟩ : ∃ w2, wr.alloc (.cells #[.string z.path, .int .i64 z.ino, .int .i64 z.size, .int .i64 z.sec, .int .i64 z.nano, .string z.sum] 68) = w2 := ⟨_, rfl⟩
    have HX2 : Aside0 (w2.heap[gx]? = some (.cells #[.string z.path, .int .i64 z.ino, .int .i64 z.size, .int .i64 z.sec, .int .i64 z.nano, .string z.sum] 68 (0, 0))) := ⟨by rw [← hw2, ← hgx]; exact blk_new wr _⟩
    have HB2 : Aside0 (Below wr.heap.size wr w2) := ⟨by rw [← hw2]; exact below_alloc (Below.refl _ _) _⟩
    have HBW2 := Aside0.mk (ld_step HBW.out HB2.out)
    have HRb := Aside0.mk (Kd.R_below HR.out HB2.out)
    obtain ⟨A0, c0, rfl, hc0, hC0⟩ := Kd.R_reads HRb.out
    have HSW2 : Aside0 (w.heap.size ≤ w2.heap.size) := ⟨HBW2.out.size⟩
    have HC0 := Aside0.mk (Kd.C_drew hC0)
    have HL0 := Aside0.mk hc0
    clear hc0 hC0
    go_wp2_with fail
    have HXd := Aside0.mk (show w2.drew.heap[gx]? = some (.cells #[.string z.path, .int .i64 z.ino, .int .i64 z.size, .int .i64 z.sec, .int .i64 z.nano, .string z.sum] 68 (0, 0)) from HX2.out)
    have HBWd : Aside0 (Below w.heap.size w w2.drew) := ⟨below_drew HBW2.out⟩
    have HSWd : Aside0 (w.heap.size ≤ w2.drew.heap.size) := HSW2
    refine start_ (n := 11) (S := fun w' => w'.cell? ⟨gx, 0, none⟩ = some (.string z.path) ∧ w'.cell? ⟨gx, 1, none⟩ = some (.int .i64 z.ino) ∧ w'.cell? ⟨gx, 2, none⟩ = some (.int .i64 z.size)) (ds := []) #[F_,F_,F_,F_,F_,F_,F_,F_,F_,F_,F_] (by kernel_rfl) rfl rfl ⟨(ln_cells (x := z) HXd.out).1, (ln_cells (x := z) HXd.out).2.1, (ln_cells (x := z) HXd.out).2.2.1⟩ (fun hHeld => ?_)
    refine pure_ (i := 0) (N := some 33) (v := ?_) (a' := ?_) #[T_,F_,F_,F_,F_,F_,F_,F_,F_,F_,F_] rfl rfl (by kernel_rfl) (fun _ _ _ h => h) (Or.inl ⟨by rfl, ?_⟩) ?_ ?_
    rotate_left
    · intro w'
      go_simp
      with_reducible rfl
    rotate_left
    · simp only [Act.put, List.setIfInBounds_toArray, List.set_cons_zero, List.set_cons_succ, i64_w, i32_w]
      rfl
    refine pure_ (i := 1) (N := some 34) (v := ?_) (a' := ?_) #[T_,T_,F_,F_,F_,F_,F_,F_,F_,F_,F_] rfl rfl (by kernel_rfl) (fun _ _ _ h => h) (Or.inl ⟨by rfl, ?_⟩) ?_ ?_
    rotate_left
    · intro w'
      go_simp
      with_reducible rfl
    rotate_left
    · simp only [Act.put, List.setIfInBounds_toArray, List.set_cons_zero, List.set_cons_succ, i64_w, i32_w]
      rfl
    refine pure_ (i := 4) (N := some 37) (v := ?_) (a' := ?_) #[T_,T_,F_,F_,T_,F_,F_,F_,F_,F_,F_] rfl rfl (by kernel_rfl) (fun _ _ _ h => h) (Or.inl ⟨by rfl, ?_⟩) ?_ ?_
    rotate_left
    · intro w'
      go_simp
      with_reducible rfl
    rotate_left
    · simp only [Act.put, List.setIfInBounds_toArray, List.set_cons_zero, List.set_cons_succ, i64_w, i32_w]
      rfl
    refine pure_ (i := 7) (N := some 40) (v := ?_) (a' := ?_) #[T_,T_,F_,F_,T_,F_,F_,T_,F_,F_,F_] rfl rfl (by kernel_rfl) (fun _ _ _ h => h) (Or.inl ⟨by rfl, ?_⟩) ?_ ?_
    rotate_left
    · intro w'
      go_simp
      with_reducible rfl
    rotate_left
    · simp only [Act.put, List.setIfInBounds_toArray, List.set_cons_zero, List.set_cons_succ, i64_w, i32_w]
      rfl
    refine take_ (i := 2) (N := some 35) (v := ?_) (a' := ?_) #[T_,T_,T_,F_,T_,F_,F_,T_,F_,F_,F_] rfl rfl (by kernel_rfl) (fun _ _ _ h => h) (Or.inl ⟨by rfl, ?_⟩) hHeld ?_ ?_
    rotate_left
    · rintro w' ⟨s0, s1, s2⟩
      go_simp
      with_reducible rfl
    rotate_left
    · simp only [Act.put, List.setIfInBounds_toArray, List.set_cons_zero, List.set_cons_succ, i64_w, i32_w]
      rfl
    refine take_ (i := 5) (N := some 38) (v := ?_) (a' := ?_) #[T_,T_,T_,F_,T_,T_,F_,T_,F_,F_,F_] rfl rfl (by kernel_rfl) (fun _ _ _ h => h) (Or.inl ⟨by rfl, ?_⟩) hHeld ?_ ?_
    rotate_left
    · rintro w' ⟨s0, s1, s2⟩
      go_simp
      with_reducible rfl
    rotate_left
    · simp only [Act.put, List.setIfInBounds_toArray, List.set_cons_zero, List.set_cons_succ, i64_w, i32_w]
      rfl
    refine take_ (i := 8) (N := some 41) (v := ?_) (a' := ?_) #[T_,T_,T_,F_,T_,T_,F_,T_,T_,F_,F_] rfl rfl (by kernel_rfl) (fun _ _ _ h => h) (Or.inl ⟨by rfl, ?_⟩) hHeld ?_ ?_
    rotate_left
    · rintro w' ⟨s0, s1, s2⟩
      go_simp
      with_reducible rfl
    rotate_left
    · simp only [Act.put, List.setIfInBounds_toArray, List.set_cons_zero, List.set_cons_succ, i64_w, i32_w]
      rfl
    refine one_ (i := 3) (N := some 36) #[T_,T_,T_,T_,T_,T_,F_,T_,T_,F_,F_] rfl rfl (by kernel_rfl) (by decide) (fun K hK => ?_)
    refine goes_ Tryd.func31 (by kernel_rfl) rfl #[.slice A0 b0_.length c0, .string z.path] (by rfl) rfl rfl (by simp only [List.map_toArray, List.map_cons, List.map_nil]; rfl) ?_
    with_reducible refine (num_PutText.calls k A0 c0 b0_ (z.path) b1 w2.drew (HC0.out) (HL0.out) G1.out).mono ?_
    rintro e W1 ⟨v1, rfl, hR1, hb1⟩
    refine ⟨_, rfl, ?_⟩
    have HX1 := Aside0.mk (blk_below (w := w2.drew) HXd.out hb1)
    have HBW1 := Aside0.mk (ld_step HBWd.out (show Below (w2.drew).heap.size (w2.drew) W1 from hb1))
    have HSW1 : Aside0 (w.heap.size ≤ W1.heap.size) := ⟨by have := HBW1.out.size; exact this⟩
    have HR1 := Aside0.mk (Kd.R_lower hR1 HSWd.out)
    obtain ⟨A1, c1, rfl, hcq, hCq⟩ := Kd.R_reads hR1
    have HC1 := Aside0.mk hCq
    have HL1 := Aside0.mk hcq
    clear hR1 hb1 hcq hCq
    refine hK.out _ _ ⟨(ln_cells (x := z) HX1.out).1, (ln_cells (x := z) HX1.out).2.1, (ln_cells (x := z) HX1.out).2.2.1⟩ (fun hHeld => ?_)
    clear hK K
    refine norm_ (a' := ?_) ?_ ?_
    rotate_left
    · show Act.put _ (some 36) _ = _
      simp only [Act.put, List.setIfInBounds_toArray, List.set_cons_zero, List.set_cons_succ, i64_w, i32_w]
      rfl
    refine one_ (i := 6) (N := some 39) #[T_,T_,T_,T_,T_,T_,T_,T_,T_,F_,F_] rfl rfl (by kernel_rfl) (by decide) (fun K hK => ?_)
    refine goes_ Tryd.func30 (by kernel_rfl) rfl #[.slice A1 b1.length c1, .int .i64 z.ino] (by rfl) rfl rfl (by simp only [List.map_toArray, List.map_cons, List.map_nil]; rfl) ?_
    with_reducible refine (num_Put.calls k A1 c1 b1 (z.ino) b2 W1 (HC1.out) (HL1.out) G2.out).mono ?_
    rintro e W2 ⟨v2, rfl, hR2, hb2⟩
    refine ⟨_, rfl, ?_⟩
    have HX2 := Aside0.mk (blk_below (w := W1) HX1.out hb2)
    have HBW2 := Aside0.mk (ld_step HBW1.out (show Below (W1).heap.size (W1) W2 from hb2))
    have HSW2 : Aside0 (w.heap.size ≤ W2.heap.size) := ⟨by have := HBW2.out.size; exact this⟩
    have HR2 := Aside0.mk (Kd.R_lower hR2 HSW1.out)
    obtain ⟨A2, c2, rfl, hcq, hCq⟩ := Kd.R_reads hR2
    have HC2 := Aside0.mk hCq
    have HL2 := Aside0.mk hcq
    clear hR2 hb2 hcq hCq
    refine hK.out _ _ ⟨(ln_cells (x := z) HX2.out).1, (ln_cells (x := z) HX2.out).2.1, (ln_cells (x := z) HX2.out).2.2.1⟩ (fun hHeld => ?_)
    clear hK K
    refine norm_ (a' := ?_) ?_ ?_
    rotate_left
    · show Act.put _ (some 39) _ = _
      simp only [Act.put, List.setIfInBounds_toArray, List.set_cons_zero, List.set_cons_succ, i64_w, i32_w]
      rfl
    refine one_ (i := 9) (N := some 42) #[T_,T_,T_,T_,T_,T_,T_,T_,T_,T_,F_] rfl rfl (by kernel_rfl) (by decide) (fun K hK => ?_)
    refine goes_ Tryd.func30 (by kernel_rfl) rfl #[.slice A2 b2.length c2, .int .i64 z.size] (by rfl) rfl rfl (by simp only [List.map_toArray, List.map_cons, List.map_nil]; rfl) ?_
    with_reducible refine (num_Put.calls k A2 c2 b2 (z.size) b3 W2 (HC2.out) (HL2.out) G3.out).mono ?_
    rintro e W3 ⟨v3, rfl, hR3, hb3⟩
    refine ⟨_, rfl, ?_⟩
    have HX3 := Aside0.mk (blk_below (w := W2) HX2.out hb3)
    have HBW3 := Aside0.mk (ld_step HBW2.out (show Below (W2).heap.size (W2) W3 from hb3))
    have HSW3 : Aside0 (w.heap.size ≤ W3.heap.size) := ⟨by have := HBW3.out.size; exact this⟩
    have HR3 := Aside0.mk (Kd.R_lower hR3 HSW2.out)
    obtain ⟨A3, c3, rfl, hcq, hCq⟩ := Kd.R_reads hR3
    have HC3 := Aside0.mk hCq
    have HL3 := Aside0.mk hcq
    clear hR3 hb3 hcq hCq
    refine hK.out _ _ ⟨(ln_cells (x := z) HX3.out).1, (ln_cells (x := z) HX3.out).2.1, (ln_cells (x := z) HX3.out).2.2.1⟩ (fun hHeld => ?_)
    clear hK K
    refine norm_ (a' := ?_) ?_ ?_
    rotate_left
    · show Act.put _ (some 42) _ = _
      simp only [Act.put, List.setIfInBounds_toArray, List.set_cons_zero, List.set_cons_succ, i64_w, i32_w]
      rfl
    refine pure_ (i := 10) (N := some 3) (v := ?_) (a' := ?_) #[T_,T_,T_,T_,T_,T_,T_,T_,T_,T_,T_] rfl rfl (by kernel_rfl) (fun _ _ _ h => h) (Or.inl ⟨by rfl, ?_⟩) ?_ ?_
    rotate_left
    · intro w'
      go_simp
      with_reducible rfl
    rotate_left
    · simp only [Act.put, List.setIfInBounds_toArray, List.set_cons_zero, List.set_cons_succ, i64_w, i32_w]
      rfl
    refine done_ (by kernel_rfl) ?_
    clear hHeld
    go_wp2_with fail
    have HC3d := Aside0.mk (Kd.C_drew HC3.out)
    have HX3d := Aside0.mk (show W3.drew.heap[gx]? = some (.cells #[.string z.path, .int .i64 z.ino, .int .i64 z.size, .int .i64 z.sec, .int .i64 z.nano, .string z.sum] 68 (0, 0)) from HX3.out)
    have HBW3d : Aside0 (Below w.heap.size w W3.drew) := ⟨below_drew HBW3.out⟩
    have HSW3d : Aside0 (w.heap.size ≤ W3.drew.heap.size) := HSW3
    refine start_ (n := 11) (S := fun w' => w'.cell? ⟨gx, 3, none⟩ = some (.int .i64 z.sec) ∧ w'.cell? ⟨gx, 4, none⟩ = some (.int .i64 z.nano) ∧ w'.cell? ⟨gx, 5, none⟩ = some (.string z.sum)) (ds := [9]) #[F_,F_,F_,F_,F_,F_,F_,F_,F_,F_,F_] (by kernel_rfl) rfl rfl ⟨(ln_cells (x := z) HX3d.out).2.2.2.1, (ln_cells (x := z) HX3d.out).2.2.2.2.1, (ln_cells (x := z) HX3d.out).2.2.2.2.2⟩ (fun hHeld => ?_)
    refine pure_ (i := 0) (N := some 43) (v := ?_) (a' := ?_) #[T_,F_,F_,F_,F_,F_,F_,F_,F_,F_,F_] rfl rfl (by kernel_rfl) (fun _ _ _ h => h) (Or.inl ⟨by rfl, ?_⟩) ?_ ?_
    rotate_left
    · intro w'
      go_simp
      with_reducible rfl
    rotate_left
    · simp only [Act.put, List.setIfInBounds_toArray, List.set_cons_zero, List.set_cons_succ, i64_w, i32_w]
      rfl
    refine pure_ (i := 1) (N := some 44) (v := ?_) (a' := ?_) #[T_,T_,F_,F_,F_,F_,F_,F_,F_,F_,F_] rfl rfl (by kernel_rfl) (fun _ _ _ h => h) (Or.inl ⟨by rfl, ?_⟩) ?_ ?_
    rotate_left
    · intro w'
      go_simp
      with_reducible rfl
    rotate_left
    · simp only [Act.put, List.setIfInBounds_toArray, List.set_cons_zero, List.set_cons_succ, i64_w, i32_w]
      rfl
    refine pure_ (i := 4) (N := some 47) (v := ?_) (a' := ?_) #[T_,T_,F_,F_,T_,F_,F_,F_,F_,F_,F_] rfl rfl (by kernel_rfl) (fun _ _ _ h => h) (Or.inl ⟨by rfl, ?_⟩) ?_ ?_
    rotate_left
    · intro w'
      go_simp
      with_reducible rfl
    rotate_left
    · simp only [Act.put, List.setIfInBounds_toArray, List.set_cons_zero, List.set_cons_succ, i64_w, i32_w]
      rfl
    refine pure_ (i := 7) (N := some 50) (v := ?_) (a' := ?_) #[T_,T_,F_,F_,T_,F_,F_,T_,F_,F_,F_] rfl rfl (by kernel_rfl) (fun _ _ _ h => h) (Or.inl ⟨by rfl, ?_⟩) ?_ ?_
    rotate_left
    · intro w'
      go_simp
      with_reducible rfl
    rotate_left
    · simp only [Act.put, List.setIfInBounds_toArray, List.set_cons_zero, List.set_cons_succ, i64_w, i32_w]
      rfl
    refine take_ (i := 2) (N := some 45) (v := ?_) (a' := ?_) #[T_,T_,T_,F_,T_,F_,F_,T_,F_,F_,F_] rfl rfl (by kernel_rfl) (fun _ _ _ h => h) (Or.inl ⟨by rfl, ?_⟩) hHeld ?_ ?_
    rotate_left
    · rintro w' ⟨s0, s1, s2⟩
      go_simp
      with_reducible rfl
    rotate_left
    · simp only [Act.put, List.setIfInBounds_toArray, List.set_cons_zero, List.set_cons_succ, i64_w, i32_w]
      rfl
    refine take_ (i := 5) (N := some 48) (v := ?_) (a' := ?_) #[T_,T_,T_,F_,T_,T_,F_,T_,F_,F_,F_] rfl rfl (by kernel_rfl) (fun _ _ _ h => h) (Or.inl ⟨by rfl, ?_⟩) hHeld ?_ ?_
    rotate_left
    · rintro w' ⟨s0, s1, s2⟩
      go_simp
      with_reducible rfl
    rotate_left
    · simp only [Act.put, List.setIfInBounds_toArray, List.set_cons_zero, List.set_cons_succ, i64_w, i32_w]
      rfl
    refine take_ (i := 8) (N := some 51) (v := ?_) (a' := ?_) #[T_,T_,T_,F_,T_,T_,F_,T_,T_,F_,F_] rfl rfl (by kernel_rfl) (fun _ _ _ h => h) (Or.inl ⟨by rfl, ?_⟩) hHeld ?_ ?_
    rotate_left
    · rintro w' ⟨s0, s1, s2⟩
      go_simp
      with_reducible rfl
    rotate_left
    · simp only [Act.put, List.setIfInBounds_toArray, List.set_cons_zero, List.set_cons_succ, i64_w, i32_w]
      rfl
    refine one_ (i := 3) (N := some 46) #[T_,T_,T_,T_,T_,T_,F_,T_,T_,F_,F_] rfl rfl (by kernel_rfl) (by decide) (fun K hK => ?_)
    refine goes_ Tryd.func32 (by kernel_rfl) rfl #[.slice A3 b3.length c3, .int .i64 z.sec] (by rfl) rfl rfl (by simp only [List.map_toArray, List.map_cons, List.map_nil]; rfl) ?_
    with_reducible refine (num_PutInt.calls k A3 c3 b3 (z.sec) b4 W3.drew (HC3d.out) (HL3.out) G4.out).mono ?_
    rintro e W4 ⟨v4, rfl, hR4, hb4⟩
    refine ⟨_, rfl, ?_⟩
    have HX4 := Aside0.mk (blk_below (w := W3.drew) HX3d.out hb4)
    have HBW4 := Aside0.mk (ld_step HBW3d.out (show Below (W3.drew).heap.size (W3.drew) W4 from hb4))
    have HSW4 : Aside0 (w.heap.size ≤ W4.heap.size) := ⟨by have := HBW4.out.size; exact this⟩
    have HR4 := Aside0.mk (Kd.R_lower hR4 HSW3d.out)
    obtain ⟨A4, c4, rfl, hcq, hCq⟩ := Kd.R_reads hR4
    have HC4 := Aside0.mk hCq
    have HL4 := Aside0.mk hcq
    clear hR4 hb4 hcq hCq
    refine hK.out _ _ ⟨(ln_cells (x := z) HX4.out).2.2.2.1, (ln_cells (x := z) HX4.out).2.2.2.2.1, (ln_cells (x := z) HX4.out).2.2.2.2.2⟩ (fun hHeld => ?_)
    clear hK K
    refine norm_ (a' := ?_) ?_ ?_
    rotate_left
    · show Act.put _ (some 46) _ = _
      simp only [Act.put, List.setIfInBounds_toArray, List.set_cons_zero, List.set_cons_succ, i64_w, i32_w]
      rfl
    refine one_ (i := 6) (N := some 49) #[T_,T_,T_,T_,T_,T_,T_,T_,T_,F_,F_] rfl rfl (by kernel_rfl) (by decide) (fun K hK => ?_)
    refine goes_ Tryd.func30 (by kernel_rfl) rfl #[.slice A4 b4.length c4, .int .i64 z.nano] (by rfl) rfl rfl (by simp only [List.map_toArray, List.map_cons, List.map_nil]; rfl) ?_
    with_reducible refine (num_Put.calls k A4 c4 b4 (z.nano) b5 W4 (HC4.out) (HL4.out) G5.out).mono ?_
    rintro e W5 ⟨v5, rfl, hR5, hb5⟩
    refine ⟨_, rfl, ?_⟩
    have HX5 := Aside0.mk (blk_below (w := W4) HX4.out hb5)
    have HBW5 := Aside0.mk (ld_step HBW4.out (show Below (W4).heap.size (W4) W5 from hb5))
    have HSW5 : Aside0 (w.heap.size ≤ W5.heap.size) := ⟨by have := HBW5.out.size; exact this⟩
    have HR5 := Aside0.mk (Kd.R_lower hR5 HSW4.out)
    obtain ⟨A5, c5, rfl, hcq, hCq⟩ := Kd.R_reads hR5
    have HC5 := Aside0.mk hCq
    have HL5 := Aside0.mk hcq
    clear hR5 hb5 hcq hCq
    refine hK.out _ _ ⟨(ln_cells (x := z) HX5.out).2.2.2.1, (ln_cells (x := z) HX5.out).2.2.2.2.1, (ln_cells (x := z) HX5.out).2.2.2.2.2⟩ (fun hHeld => ?_)
    clear hK K
    refine norm_ (a' := ?_) ?_ ?_
    rotate_left
    · show Act.put _ (some 49) _ = _
      simp only [Act.put, List.setIfInBounds_toArray, List.set_cons_zero, List.set_cons_succ, i64_w, i32_w]
      rfl
    refine last_ (i := 9) (N := some 52) #[T_,T_,T_,T_,T_,T_,T_,T_,T_,T_,F_] rfl rfl (by kernel_rfl) (by decide) (fun K hK => ?_)
    refine step_append_str (w0 := w) w.heap.size (by rfl) (.tmp 49) (.tmp 51) 41 9 5 rfl Tryd.underlying41 Tryd.underlying9 info_u8 (.slice A5 b5.length c5) b5 z.sum rfl rfl HR5.out HBW5.out HSW5.out G6.out ?_
    intro v6 w6 ho6 hb6
    rw [G7.out] at ho6
    have HR6 := Aside0.mk ho6
    have HBW6 := Aside0.mk hb6
    clear ho6 hb6
    refine hK.out _ _ ?_
    clear hK K
    refine norm_ (a' := ?_) ?_ ?_
    rotate_left
    · show Act.put _ (some 52) _ = _
      simp only [Act.put, List.setIfInBounds_toArray, List.set_cons_zero, List.set_cons_succ, i64_w, i32_w]
      rfl
    refine pure_ (i := 10) (N := some 3) (v := ?_) (a' := ?_) #[T_,T_,T_,T_,T_,T_,T_,T_,T_,T_,T_] rfl rfl (by kernel_rfl) (fun _ _ _ h => h) (Or.inl ⟨by rfl, ?_⟩) ?_ ?_
    rotate_left
    · intro w'
      go_simp
      with_reducible rfl
    rotate_left
    · simp only [Act.put, List.setIfInBounds_toArray, List.set_cons_zero, List.set_cons_succ, i64_w, i32_w]
      rfl
    refine done_ (by kernel_rfl) ?_
    clear hHeld
    go_wp2
    go_roundg (m - (i + 1))
    case measure => have := C1.out; omega
    case rel => exact ⟨i + 1, b6, rfl, by first | rfl | rw [hadd], ⟨by have := C1.out; omega⟩, HR6, HF2, HBW6⟩

/-! ### remoraref33_Ledger_Paths: function 19, a contract of my own -/
/-- The parts of a text byte by byte: pos the place, fr where the part begins. -/
def bsp (s : ByteArray) : Nat → Nat → Nat → List ByteArray → List ByteArray
  | 0, _, fr, acc => acc ++ [s.extract fr s.size]
  | q + 1, pos, fr, acc => if bt s (pos : Int) = 47 then bsp s q (pos + 1) (pos + 1) (acc ++ [s.extract fr pos]) else bsp s q (pos + 1) fr acc
theorem bt_nat (s : ByteArray) (pos : Nat) (h : pos < s.size) : bt s (pos : Int) = ((s[pos]'h).toNat : Int) := by
  unfold bt
  rw [dif_pos (by simpa using h)]
  rfl
theorem get_bt (s : ByteArray) (pos : Nat) (h : pos < s.size) : ((s.get! pos).toNat : Int) = bt s (pos : Int) := by
  rw [bt_nat s pos h]
  have e : s.get! pos = s[pos]'h := by
    simp [ByteArray.get!, getElem!_pos, h]
    rfl
  rw [e]
theorem decode_cont (s : ByteArray) (pos : Nat) (h : pos < s.size) : ∀ j, 0 < j → j < (Utf8.decode s pos).2 → pos + j < s.size ∧ 128 ≤ (s.get! (pos + j)).toNat := by
  intro j hj
  simp only [Utf8.decode]
  repeat' split
  all_goals (intro hlt; simp only [Bool.and_eq_true, decide_eq_true_eq, beq_iff_eq] at *)
  all_goals first
    | omega
    | (have hj1 : j = 1 := by omega
       subst hj1
       constructor <;> omega)
    | (have hj1 : j = 1 ∨ j = 2 := by omega
       rcases hj1 with rfl | rfl <;> constructor <;> omega)
    | (have hj1 : j = 1 ∨ j = 2 ∨ j = 3 := by omega
       rcases hj1 with rfl | rfl | rfl <;> constructor <;> omega)
theorem bsp_skip (s : ByteArray) (fr : Nat) (acc : List ByteArray) : ∀ (k q pos : Nat), (∀ j, j < k → bt s ((pos + j : Nat) : Int) ≠ 47) → bsp s (q + k) pos fr acc = bsp s q (pos + k) fr acc := by
  intro k
  induction k with
  | zero => intro q pos _; rfl
  | succ k ih =>
    intro q pos h
    rw [show q + (k + 1) = (q + k) + 1 by omega, bsp, if_neg (show ¬ bt s (pos : Int) = 47 from h 0 (by omega)), ih q (pos + 1) (fun j hj => by have := h (j + 1) (by omega); rwa [show pos + 1 + j = pos + (j + 1) by omega]), show pos + 1 + k = pos + (k + 1) by omega]
theorem spl_bsp (s : ByteArray) : ∀ (n q pos fr : Nat) (acc : List ByteArray), s.size - pos ≤ n → s.size - pos ≤ q → pos ≤ s.size → spl s q pos fr acc = bsp s (s.size - pos) pos fr acc := by
  intro n
  induction n with
  | zero =>
    intro q pos fr acc h1 h2 h3
    rw [spl_end s q pos fr acc (by omega), show s.size - pos = 0 by omega, bsp]
  | succ n ih =>
    intro q pos fr acc h1 h2 h3
    by_cases hp : pos < s.size
    rotate_left
    · rw [spl_end s q pos fr acc hp, show s.size - pos = 0 by omega, bsp]
    obtain ⟨q, rfl⟩ : ∃ q', q = q' + 1 := ⟨q - 1, by omega⟩
    rw [spl, if_pos hp]
    have hw := dec_pos s pos hp
    have hc := decode_cont s pos hp
    by_cases ha : (s[pos]'hp).toNat < 128
    · have hd := decode_ascii s pos hp ha
      rw [hd]
      obtain ⟨d, hdd⟩ : ∃ d, s.size - pos = d + 1 := ⟨s.size - pos - 1, by omega⟩
      have hd1 : s.size - (pos + 1) = d := by omega
      rw [hdd, bsp, bt_nat s pos hp]
      by_cases h47 : (s[pos]'hp).toNat = 47
      · rw [if_pos h47, if_pos (by omega), ih q (pos + 1) (pos + 1) _ (by omega) (by omega) (by omega), hd1]
      · rw [if_neg h47, if_neg (by omega), ih q (pos + 1) fr _ (by omega) (by omega) (by omega), hd1]
    · have hh := decode_high s pos hp (by omega)
      have hle : pos + (Utf8.decode s pos).2 ≤ s.size := by
        by_cases h1 : (Utf8.decode s pos).2 = 1
        · omega
        · have := (hc ((Utf8.decode s pos).2 - 1) (by omega) (by omega)).1
          omega
      rw [if_neg (by omega), ih q _ fr _ (by omega) (by omega) hle]
      generalize (Utf8.decode s pos).2 = wd at hw hc hle
      rw [show s.size - pos = (s.size - (pos + wd)) + wd by omega]
      refine (bsp_skip s fr acc wd _ pos (fun j hj => ?_)).symm
      by_cases hj0 : j = 0
      · subst hj0
        rw [Nat.add_zero, bt_nat s pos hp]
        omega
      · have := hc j (by omega) hj
        have h2 := get_bt s (pos + j) this.1
        omega
theorem splitF_bsp (s : ByteArray) : splitF s = if s.toList = [] then [] else bsp s s.size 0 0 [] := by
  unfold splitF
  split
  · rfl
  · exact spl_bsp s s.size s.size 0 0 [] (by omega) (by omega) (by omega)
theorem split13_l0 (s : ByteArray) (hs : s.size ≤ 1000000) : ∀ (d k i fr : Nat) (acc : List ByteArray), i + d = s.size → d + 1 < k → fr ≤ i → acc.length ≤ i → remoraref13_Split.l0 k s acc (fr : Int) (i : Int) = some (bsp s d i fr acc) := by
  intro d
  induction d with
  | zero =>
    intro k i fr acc hi hk hf hl
    obtain ⟨k, rfl⟩ : ∃ k', k = k' + 1 + 1 := ⟨k - 2, by omega⟩
    have hw : wrap64 ((i : Int) + 1) = ((i + 1 : Nat) : Int) := by unfold wrap64; omega
    have hx : (s.size : Int) = (i : Int) := by omega
    have hn : i = s.size := by omega
    rw [remoraref13_Split.l0, if_pos (by omega), if_pos (by omega), if_pos (by omega), if_pos (by omega), if_pos (by omega), hw, remoraref13_Split.l0, if_neg (by omega), bsp, Int.toNat_natCast, Int.toNat_natCast, hn]
  | succ d ih =>
    intro k i fr acc hi hk hf hl
    obtain ⟨k, rfl⟩ : ∃ k', k = k' + 1 := ⟨k - 1, by omega⟩
    have hw : wrap64 ((i : Int) + 1) = ((i + 1 : Nat) : Int) := by unfold wrap64; omega
    rw [remoraref13_Split.l0, if_pos (by omega), if_neg (by omega), if_pos (by omega), if_pos (by omega), hw, bsp]
    by_cases h47 : bt s (i : Int) = 47
    · rw [if_pos h47, if_pos h47, if_pos (by omega), if_pos (by omega), if_pos (by omega), Int.toNat_natCast, Int.toNat_natCast]
      exact ih k (i + 1) (i + 1) _ (by omega) (by omega) (by omega) (by simp; omega)
    · rw [if_neg h47, if_neg h47]
      exact ih k (i + 1) fr _ (by omega) (by omega) (by omega) (by omega)
theorem split13_f (s : ByteArray) (hs : s.size ≤ 1000000) (k : Nat) (hk : s.size + 2 ≤ k) : remoraref13_Split.f k s = some (splitF s) := by
  rw [splitF_bsp]
  unfold remoraref13_Split.f
  split
  · rfl
  · exact split13_l0 s hs s.size k 0 0 [] (by omega) (by omega) (Nat.le_refl _) (Nat.le_refl _)
theorem idx_cons (b : UInt8) (l : List UInt8) (c : UInt8) : decide (Lib.indexByte (b :: l) c < 0) = (!(b == c) && decide (Lib.indexByte l c < 0)) := by
  have h := Lib.indexByte_ge l c
  rw [Lib.indexByte]
  cases hb : (b == c) with
  | true => simp
  | false =>
    by_cases h1 : Lib.indexByte l c = -1
    · rw [h1]; simp
    · have h2 : (Lib.indexByte l c == -1) = false := beq_eq_false_iff_ne.mpr h1
      rw [h2]
      simp
      omega
theorem nought_l0 (s : ByteArray) (hs : s.size ≤ 1000000) : ∀ (d k i : Nat), i + d = s.size → d < k → remoraref13_nought.l0 k s (i : Int) = some (!decide (Lib.indexByte (s.data.toList.drop i) 0 < 0)) := by
  intro d
  induction d with
  | zero =>
    intro k i hi hk
    obtain ⟨k, rfl⟩ : ∃ k', k = k' + 1 := ⟨k - 1, by omega⟩
    have hd : s.data.toList.drop i = [] := List.drop_eq_nil_of_le (by rw [Array.length_toList]; show s.size ≤ i; omega)
    rw [remoraref13_nought.l0, if_neg (by omega), hd]
    rfl
  | succ d ih =>
    intro k i hi hk
    obtain ⟨k, rfl⟩ : ∃ k', k = k' + 1 := ⟨k - 1, by omega⟩
    have hlt : i < s.size := by omega
    have hlt2 : i < s.data.toList.length := by rw [Array.length_toList]; exact hlt
    have hw : wrap64 ((i : Int) + 1) = ((i + 1 : Nat) : Int) := by unfold wrap64; omega
    have hb : s.data.toList[i] = s[i]'hlt := by rw [Array.getElem_toList]; rfl
    rw [remoraref13_nought.l0, if_pos (by omega), if_pos (by omega), hw, List.drop_eq_getElem_cons hlt2, idx_cons, hb, bt_nat s i hlt]
    by_cases h0 : (s[i]'hlt) = 0
    · rw [h0, if_pos (by rfl)]
      rfl
    · have h0' : (s[i]'hlt == 0) = false := beq_eq_false_iff_ne.mpr h0
      have h1 : ¬ (((s[i]'hlt).toNat : Nat) : Int) = 0 := fun e => h0 (UInt8.toNat_inj.1 (by show (s[i]'hlt).toNat = 0; omega))
      rw [if_neg h1, h0', ih k (i + 1) (by omega) (by omega)]
      rfl
theorem nought_f (s : ByteArray) (hs : s.size ≤ 1000000) (k : Nat) (hk : s.size < k) : remoraref13_nought.f k s = some (!decide (Lib.indexByte s.data.toList 0 < 0)) := nought_l0 s hs s.size k 0 (by omega) hk
theorem right_l0 (L : List ByteArray) (hL : L.length ≤ 1000000) : ∀ (d k i : Nat), i + d = L.length → d + 50 < k → remoraref13_Right.l0 k L (i : Int) = some ((L.drop i).all partF) := by
  intro d
  induction d with
  | zero =>
    intro k i hi hk
    obtain ⟨k, rfl⟩ : ∃ k', k = k' + 1 := ⟨k - 1, by omega⟩
    rw [remoraref13_Right.l0, if_neg (by omega), List.drop_eq_nil_of_le (by omega)]
    rfl
  | succ d ih =>
    intro k i hi hk
    obtain ⟨k, rfl⟩ : ∃ k', k = k' + 1 := ⟨k - 1, by omega⟩
    have hlt : i < L.length := by omega
    have hw : wrap64 ((i : Int) + 1) = ((i + 1 : Nat) : Int) := by unfold wrap64; omega
    have hr : rdOf ByteArray.empty L (i : Int) = L[i] := by
      unfold rdOf
      rw [Int.toNat_natCast, List.getD_eq_getElem?_getD, List.getElem?_eq_getElem hlt]
      rfl
    rw [remoraref13_Right.l0, if_pos (by omega), if_pos (by omega), hw, hr, List.drop_eq_getElem_cons hlt, List.all_cons]
    generalize L[i] = x
    unfold partF
    by_cases c1 : x.toList = []
    · rw [if_pos c1, c1]; rfl
    · rw [if_neg c1]
      by_cases c2 : x.toList = [46]
      · rw [if_pos c2, c2]; simp
      · rw [if_neg c2]
        by_cases c3 : x.toList = [46, 46]
        · rw [if_pos c3, c3]; simp
        · rw [if_neg c3]
          by_cases c4 : (x.size : Int) > 48
          · rw [if_pos c4, decide_eq_false (p := x.size ≤ 48) (by omega)]; simp
          · rw [if_neg c4, nought_f x (by omega) k (by omega), Option.bind_some, decide_eq_true (p := x.size ≤ 48) (by omega), beq_eq_false_iff_ne.mpr c1, beq_eq_false_iff_ne.mpr c2, beq_eq_false_iff_ne.mpr c3]
            cases decide (Lib.indexByte x.data.toList 0 < 0) with
            | true => rw [if_neg (by simp), ih k (i + 1) (by omega) (by omega)]; rfl
            | false => rw [if_pos (by rfl)]; rfl
theorem right13_f (s : ByteArray) (hs : s.size ≤ 1000000) (k : Nat) (hk : s.size + 100 ≤ k) : remoraref13_Right.f k s = some (rightF s) := by
  unfold remoraref13_Right.f rightF
  rw [split13_f s hs k (by omega), Option.bind_some]
  obtain ⟨k, rfl⟩ : ∃ k', k = k' + 1 := ⟨k - 1, by omega⟩
  by_cases c1 : ((splitF s).length : Int) > 12
  · rw [if_pos c1, remoraref13_Right.j0, if_pos rfl, decide_eq_false (p := (splitF s).length ≤ 12) (by omega)]; simp
  · rw [if_neg c1, remoraref13_Right.j0, decide_eq_true (p := (splitF s).length ≤ 12) (by omega)]
    by_cases c2 : (s.size : Int) > 200
    · rw [decide_eq_true (p := (s.size : Int) > 200) c2, if_pos rfl, decide_eq_false (p := s.size ≤ 200) (by omega)]; simp
    · rw [decide_eq_false (p := (s.size : Int) > 200) c2, if_neg (by decide), decide_eq_true (p := s.size ≤ 200) (by omega)]
      have := right_l0 (splitF s) (by omega) (splitF s).length k 0 (by omega) (by omega)
      rw [List.drop_zero] at this
      rw [show (0 : Int) = ((0 : Nat) : Int) from rfl, this, Bool.and_true, Bool.and_true]
theorem may33_f (x : Ln) (hs : x.path.size ≤ 1000000) (k : Nat) (hk : x.path.size + 100 ≤ k) : remoraref33_may.f k x.path x.ino x.size x.sec x.nano x.sum = some (mayF x) := by
  unfold remoraref33_may.f mayF wrongF
  rw [right13_f x.path hs k hk, Option.bind_some]
  obtain ⟨k, rfl⟩ : ∃ k', k = k' + 1 := ⟨k - 1, by omega⟩
  cases rightF x.path with
  | false => rw [if_neg (by decide), remoraref33_may.j0, if_pos rfl]; rfl
  | true =>
    rw [if_pos rfl, remoraref33_may.j0]
    have he : (x.path.toList == ([] : List UInt8)) = x.path.toList.isEmpty := by cases x.path.toList <;> rfl
    rw [he]
    cases x.path.toList.isEmpty with
    | true => rw [if_pos rfl]; rfl
    | false =>
      rw [if_neg (by decide)]
      simp only [Bool.not_true, Bool.or_false, Bool.false_eq_true, if_false]
      repeat' split
      all_goals first | rfl | (simp at *; omega)
theorem info_line : (Tryd.prog.info? 71).map (fun i => (i.zero, i.size, i.bytes)) = some (some (.agg #[.string ⟨#[]⟩, .int .i64 0, .int .i64 0, .int .i64 0, .int .i64 0, .string ⟨#[]⟩]), 6, 64) := by kernel_rfl
def ofL (x : Ln) : S71 := ⟨x.path, x.ino, x.size, x.sec, x.nano, x.sum⟩
/-- The document's ledger in memory. -/
structure Rl (b0 p : Nat) (room : Int) (v : Value) (S : List Ln) (w : World) : Prop where
  hP : w.heap[p]? = some (.cells #[.int .i64 room, v] 60 (0, 0))
  hR : Kd.R k71 71 w b0 (fun j => j ≠ p) v (S.map ofL)
  hp0 : b0 ≤ p
  hl : S.length ≤ 1000000
theorem Rl.below {b0 p : Nat} {room : Int} {v : Value} {S : List Ln} {w w' : World} (h : Rl b0 p room v S w) (hb : Below w.heap.size w w') : Rl b0 p room v S w' :=
  ⟨blk_below h.hP hb, Kd.R_below h.hR hb, h.hp0, h.hl⟩
theorem rl_cells {w : World} {p : Nat} {u v : Value} {ty : Nat} (h : w.heap[p]? = some (.cells #[u, v] ty (0, 0))) : w.cell? ⟨p, 0, none⟩ = some u ∧ w.cell? ⟨p, 1, none⟩ = some v := by
  refine ⟨?_, ?_⟩ <;> rw [cell_of_row w p _ _ ty (0, 0) h] <;> rfl
theorem map_len (S : List Ln) : (S.map ofL).length = S.length := List.length_map _
theorem line_at {w : World} {A : Option Addr} {n : Nat} {S : List Ln} (h : Kd.C k71 w A n (S.map ofL)) (i : Nat) (h1 : i < n) (h2 : n = S.length) : ∃ ad x, A = some ad ∧ S[i]? = some x ∧ w.cell? (ad.add (i * 6)) = some (.string x.path) ∧ w.cell? ⟨(ad.add (i * 6)).block, (ad.add (i * 6)).off + 1, none⟩ = some (.int .i64 x.ino) ∧ w.cell? ⟨(ad.add (i * 6)).block, (ad.add (i * 6)).off + 2, none⟩ = some (.int .i64 x.size) ∧ w.cell? ⟨(ad.add (i * 6)).block, (ad.add (i * 6)).off + 3, none⟩ = some (.int .i64 x.sec) ∧ w.cell? ⟨(ad.add (i * 6)).block, (ad.add (i * 6)).off + 4, none⟩ = some (.int .i64 x.nano) ∧ w.cell? ⟨(ad.add (i * 6)).block, (ad.add (i * 6)).off + 5, none⟩ = some (.string x.sum) := by
  have hlt : i < S.length := by omega
  obtain ⟨ad, e, h3⟩ := at_T71 h (i : Int) (by omega) (by omega)
  have hr : rd_T71 (S.map ofL) (i : Int) = ofL S[i] := by
    unfold rd_T71
    rw [Int.toNat_natCast, List.getD_eq_getElem?_getD, List.getElem?_map, List.getElem?_eq_getElem hlt]
    rfl
  rw [hr, Int.toNat_natCast] at h3
  exact ⟨ad, S[i], e, List.getElem?_eq_getElem hlt, h3⟩
theorem ref_New.bad (room : Int) (w : World) (h : (decide (room < 1) || decide (room > 4096)) = true) :
    Calls Tryd.prog 8 #[.int .i64 room] w fun e w' => e = .returned (.tuple #[.pointer none, .int .i64 2]) ∧ w' = w := by
  cases h1 : decide (room < 1) with
  | true =>
    clear h
    go_enter Tryd.func8, Tryd.ntmps8
    go_wp2
    go_ret2
    exact ⟨rfl, rfl⟩
  | false =>
    rw [h1, Bool.false_or] at h
    have h2 : decide (4096 < room) = true := h
    clear h
    go_enter Tryd.func8, Tryd.ntmps8
    go_wp2
    go_ret2
    exact ⟨rfl, rfl⟩
theorem ref_New.at_ (room : Int) (w : World) (h : (decide (room < 1) || decide (room > 4096)) = false) :
    Calls Tryd.prog 8 #[.int .i64 room] w fun e w' => ∃ p, e = .returned (.tuple #[.pointer (some ⟨p, 0, none⟩), .int .i64 0]) ∧ Rl w.heap.size p room (.slice none 0 0) [] w' ∧ Below w.heap.size w w' := by
  obtain ⟨h1, h2⟩ := Bool.or_eq_false_iff.1 h
  have h2' : decide (4096 < room) = false := h2
  have key : Rl w.heap.size w.heap.size room (.slice none 0 0) [] (w.alloc (.cells #[.int .i64 room, .slice none 0 0] 60)) :=
    ⟨blk_new w _, Kd.R_nil _ _ _ _ _, Nat.le_refl _, by simp⟩
  have HK := Aside0.mk key
  clear h h2 key
  go_enter Tryd.func8, Tryd.ntmps8
  go_wp2
  go_ret2
  exact ⟨w.heap.size, by rfl, HK.out, below_alloc (Below.refl _ _) _⟩
set_option maxHeartbeats 4000000 in
set_option maxRecDepth 20000 in
theorem ref_at.at_ (b0 p : Nat) (room : Int) (v : Value) (S : List Ln) (q : ByteArray) (w : World) (h : Rl b0 p room v S w) :
    Calls Tryd.prog 50 #[.pointer (some ⟨p, 0, none⟩), .string q] w fun e w' => Drawn0 w w' ∧
      ((e = .returned (.int .i64 (-1)) ∧ ∀ x ∈ S, x.path ≠ q) ∨ (∃ (i : Nat) (x : Ln), e = .returned (.int .i64 (i : Int)) ∧ S[i]? = some x ∧ x.path = q)) := by
  obtain ⟨A, c, rfl, hc, hC⟩ := Kd.R_reads h.hR
  have q1 := (rl_cells h.hP).2
  obtain ⟨m, hm⟩ : ∃ m, m = (S.map ofL).length := ⟨_, rfl⟩
  rw [← hm] at q1 hC
  have HM : Aside0 (m = S.length) := ⟨by rw [hm, map_len]⟩
  have HC := Aside0.mk hC
  have HS := Aside0.mk h.hl
  clear h hc hC hm
  go_enter Tryd.func50, Tryd.ntmps50
  go_wp2
  go_loopg [5] m (fun g v5 w' => ∃ i : Nat, g = m - i ∧ v5 = .int .i64 i ∧ Aside0 (i ≤ m) ∧ Aside0 (∀ j x, j < i → S[j]? = some x → x.path ≠ q) ∧ Drawn0 w w')
  case atStart => exact ⟨0, rfl, rfl, ⟨Nat.zero_le _⟩, ⟨fun j x hj => absurd hj (Nat.not_lt_zero _)⟩, Drawn0.refl _⟩
  case round =>
    obtain ⟨i, rfl, rfl, HI, HN, ⟨nd, rfl⟩⟩ := hrel
    have q2 : ∀ z, (w.drewN z).cell? ⟨p, 1, none⟩ = some (.slice A m c) := fun z => q1
    by_cases c1 : i < m
    rotate_left
    · have e1 : decide ((i : Int) < (m : Int)) = false := decide_eq_false (by omega)
      have e1' : decide (i < m) = false := decide_eq_false c1
      have HC1 := Aside0.mk c1
      clear c1
      go_wp2
      go_ret
      refine ⟨by repeat (first | exact Drawn0.refl _ | apply Drawn0.step), .inl ⟨rfl, fun x hx => ?_⟩⟩
      obtain ⟨j, hj, hjx⟩ := List.getElem_of_mem hx
      exact HN.out j x (by have := HI.out; have := HM.out; have := HC1.out; omega) (by rw [List.getElem?_eq_getElem hj, hjx])
    have e1 : decide ((i : Int) < (m : Int)) = true := decide_eq_true (by omega)
    have e1' : decide (i < m) = true := decide_eq_true c1
    have e1n : (i < m) = True := eq_true c1
    have e1i : ((i : Int) < (m : Int)) = True := eq_true (by omega)
    have hi0 : (0 ≤ (i : Int)) = True := eq_true (by omega)
    obtain ⟨ad, x, rfl, hx, d0, -⟩ := line_at HC.out i c1 HM.out
    have d0' : ∀ z, (w.drewN z).cell? (ad.add (i * 6)) = some (.string x.path) := fun z => d0
    have C1 := Aside0.mk c1
    have HX := Aside0.mk hx
    have hadd : wrap64 ((i : Int) + 1) = ((i + 1 : Nat) : Int) := by have := HM.out; have := HS.out; unfold wrap64; omega
    clear hx c1
    cases hq : (x.path.toList == q.toList) with
    | true =>
      have HQ : Aside0 (x.path = q) := ⟨toList_inj.1 (beq_iff_eq.1 hq)⟩
      go_wp2
      repeat (go_quiet (fail); try go_wp2)
      go_ret
      exact ⟨by repeat (first | exact Drawn0.refl _ | apply Drawn0.step), .inr ⟨i, x, rfl, HX.out, HQ.out⟩⟩
    | false =>
      have HQ : Aside0 (x.path ≠ q) := ⟨fun e => by rw [e] at hq; simp at hq⟩
      go_wp2
      repeat (go_quiet (fail); try go_wp2)
      go_roundg (m - (i + 1))
      case measure => have := C1.out; omega
      case rel => exact ⟨i + 1, rfl, by first | rfl | rw [hadd], ⟨by have := C1.out; omega⟩, ⟨fun j y hj hy => by
        by_cases hji : j = i
        · subst hji
          rw [HX.out] at hy
          cases hy
          exact HQ.out
        · exact HN.out j y (by omega) hy⟩, by repeat (first | exact Drawn0.refl _ | apply Drawn0.step)⟩
set_option maxHeartbeats 4000000 in
set_option maxRecDepth 20000 in
theorem ref_Paths.at_ (b0 p : Nat) (room : Int) (v : Value) (S : List Ln) (w : World) (h : Rl b0 p room v S w) :
    Calls Tryd.prog 19 #[.pointer (some ⟨p, 0, none⟩)] w fun e w' => ∃ v', e = .returned v' ∧ Kd.R Kd.string 9 w' w.heap.size (fun _ => True) v' (paths S) ∧ Below w.heap.size w w' := by
  obtain ⟨A, c, rfl, hc, hC⟩ := Kd.R_reads h.hR
  have q1 := (rl_cells h.hP).2
  obtain ⟨m, hm⟩ : ∃ m, m = (S.map ofL).length := ⟨_, rfl⟩
  rw [← hm] at q1 hC
  have HM : Aside0 (m = S.length) := ⟨by rw [hm, map_len]⟩
  have HC := Aside0.mk hC
  have HS := Aside0.mk h.hl
  have HP := Aside0.mk h.hP
  rw [← hm] at HP
  clear h hc hC hm
  go_enter Tryd.func19, Tryd.ntmps19
  go_wp2
  go_loopg [3, 4] m (fun g v3 v4 w' => ∃ i : Nat, g = m - i ∧ v4 = .int .i64 i ∧ Aside0 (i ≤ m) ∧ Aside0 (Kd.R Kd.string 9 w' w.heap.size (fun _ => True) v3 ((paths S).take i)) ∧ Aside0 (Below w.heap.size w w'))
  case atStart => exact ⟨0, rfl, rfl, ⟨Nat.zero_le _⟩, ⟨Kd.R_nil _ _ _ _ _⟩, ⟨Below.refl _ _⟩⟩
  case round =>
    clear q1
    obtain ⟨i, rfl, rfl, HI, HR, HB⟩ := hrel
    have q1 := (rl_cells (blk_below HP.out HB.out)).2
    by_cases c1 : i < m
    rotate_left
    · have e1 : decide ((i : Int) < (m : Int)) = false := decide_eq_false (by omega)
      have e1' : decide (i < m) = false := decide_eq_false c1
      have HC1 := Aside0.mk c1
      clear c1
      go_wp2
      go_ret
      refine ⟨_, rfl, ?_, HB.out⟩
      have := HR.out
      rw [List.take_of_length_le (by unfold paths; rw [List.length_map]; have := HM.out; have := HC1.out; omega)] at this
      exact this
    have e1 : decide ((i : Int) < (m : Int)) = true := decide_eq_true (by omega)
    have e1' : decide (i < m) = true := decide_eq_true c1
    have e1n : (i < m) = True := eq_true c1
    have e1i : ((i : Int) < (m : Int)) = True := eq_true (by omega)
    have hi0 : (0 ≤ (i : Int)) = True := eq_true (by omega)
    obtain ⟨ad, x, rfl, hx, d0, -⟩ := line_at (Kd.C_below HC.out HB.out) i c1 HM.out
    have C1 := Aside0.mk c1
    have HX := Aside0.mk hx
    have hadd : wrap64 ((i : Int) + 1) = ((i + 1 : Nat) : Int) := by have := HM.out; have := HS.out; unfold wrap64; omega
    have HLL : Aside0 ((((paths S).take i).length + 1) * 16 ≤ 140737488355328) := ⟨by rw [List.length_take]; have := HM.out; have := HS.out; have := HI.out; omega⟩
    have HSB : Aside0 (w.heap.size ≤ wr.heap.size) := ⟨HB.out.size⟩
    clear hx c1
    go_wp2_with (first | ((with_reducible refine gate_builtin (b := .append) (xs := #[.tmp 14, .tmp 23]) rfl ?_); at_builtin; refine Kd.R_append Kd.string (w0 := w) w.heap.size rfl (.tmp 14) (.tmp 23) 46 9 (.string ⟨#[]⟩) 16 rfl Tryd.underlying46 ld_info9 rfl (by decide) (by omega) u3 ((paths S).take i) x.path [.string x.path] (fun _ => True) (fun _ => False) rfl rfl rfl (fun _ hk => hk.elim) (fun _ _ => trivial) HR.out HB.out HSB.out HLL.out ?_; intro v9 w9 ho9 hb9 hg9 ha9; clear ha9))
    have HR9 := Aside0.mk ho9
    have HB9 := Aside0.mk hb9
    clear ho9 hb9 hg9 d0 q1
    go_wp2
    go_roundg (m - (i + 1))
    case measure => have := C1.out; omega
    case rel =>
      refine ⟨i + 1, rfl, by first | rfl | rw [hadd], ⟨by have := C1.out; omega⟩, ⟨?_⟩, HB9⟩
      rw [List.take_add_one, show (paths S)[i]? = some x.path from by unfold paths; rw [List.getElem?_map, HX.out]; rfl]
      exact HR9.out
theorem lx_cells {w : World} {g : Nat} {x : Ln} {ty : Nat} (h : w.heap[g]? = some (.cells #[.string x.path, .int .i64 x.ino, .int .i64 x.size, .int .i64 x.sec, .int .i64 x.nano, .string x.sum] ty (0, 0))) : w.cell? ⟨g, 0, none⟩ = some (.string x.path) ∧ w.cell? ⟨g, 1, none⟩ = some (.int .i64 x.ino) ∧ w.cell? ⟨g, 2, none⟩ = some (.int .i64 x.size) ∧ w.cell? ⟨g, 3, none⟩ = some (.int .i64 x.sec) ∧ w.cell? ⟨g, 4, none⟩ = some (.int .i64 x.nano) ∧ w.cell? ⟨g, 5, none⟩ = some (.string x.sum) := by
  refine ⟨?_, ?_, ?_, ?_, ?_, ?_⟩ <;> rw [cell_of_row w g _ _ ty (0, 0) h] <;> rfl
/-- The program's ledger under what the document's one changes. -/
theorem Lg.bm {b0 p mb n q : Nat} {room : Int} {v : Value} {S : List Ln} {w w' : World} {cs : Array Value} (h : Lg b0 p mb n room v S w) (hb : Bm q q w w') (hq : w.heap[q]? = some (.cells cs 60 (0, 0))) : Lg b0 p mb n room v S w' := by
  have hp : p ≠ q := fun e => by
    have h1 := h.hP
    rw [e, hq] at h1
    injection h1 with h1
    injection h1 with _ h1
    exact absurd h1 (by decide)
  have hm : mb ≠ q := fun e => by
    obtain ⟨D, hown, _⟩ := h.hM
    obtain ⟨es, c, hmb, _⟩ := hown
    rw [e, hq] at hmb
    cases hmb
  refine ⟨(hb.block p (blk_lt h.hP) hp hp).trans h.hP, h.hM.kept (row := some q) ⟨hb.os, hb.tape, hb.output, hb.size, fun i hi hne => hb.block i hi (fun e => hne (by rw [e])) (fun e => hne (by rw [e]))⟩ (fun e => hm (Option.some.inj e)), ?_, h.hN, h.hz, h.hne, h.hp0, h.hm0, h.hl⟩
  have hE : Kd.string.E = [] := by rfl
  have h2 := Kd.R_types h.hR hq (fun z hz => by rw [hE] at hz; rw [List.mem_singleton.1 hz]; decide)
  exact Kd.R_mono (Kd.R_step h2 (fun k hk hlt => hb.block k hlt hk.2 hk.2)) (fun k hk => hk.1)
/-- The document's ledger under what the program's one changes. -/
theorem Rl.bm {b0 p mb q : Nat} {room : Int} {v : Value} {S : List Ln} {w w' : World} {b1 n : Nat} {room1 : Int} {v1 : Value} {S1 : List Ln} (h : Rl b0 q room v S w) (hb : Bm p mb w w') (hl : Lg b1 p mb n room1 v1 S1 w) : Rl b0 q room v S w' := by
  have hp : q ≠ p := fun e => by
    have h1 := h.hP
    rw [e, hl.hP] at h1
    injection h1 with h1
    injection h1 with _ h1
    exact absurd h1 (by decide)
  have hm : q ≠ mb := fun e => by
    obtain ⟨D, hown, _⟩ := hl.hM
    obtain ⟨es, c, hmb, _⟩ := hown
    rw [← e, h.hP] at hmb
    cases hmb
  refine ⟨(hb.block q (blk_lt h.hP) hp hm).trans h.hP, ?_, h.hp0, h.hl⟩
  have hE : k71.E = [] := by rfl
  have h2 := Kd.R_types h.hR hl.hP (fun z hz => by rw [hE] at hz; rw [List.mem_singleton.1 hz]; decide)
  refine Kd.R_mono (Kd.R_step (Kd.R_bound h2) (fun k hk hlt => hb.block k hlt hk.1.2 (fun e => ?_))) (fun k hk => hk.1.1)
  obtain ⟨_, _, _, z, hz, cells, hc⟩ := hk
  obtain ⟨D, hown, _⟩ := hl.hM
  obtain ⟨es, c, hmb, _⟩ := hown
  rw [← e, hc] at hmb
  cases hmb
theorem texts_l0 (L : List ByteArray) (hl : L.length ≤ 2000000000000) : ∀ (d k i : Nat), i + d = L.length → d < k → remoraref17_Texts.l0 k L L (i : Int) = some true := by
  intro d
  induction d with
  | zero =>
    intro k i h hk
    obtain ⟨k, rfl⟩ : ∃ m, k = m + 1 := ⟨k - 1, by omega⟩
    simp only [remoraref17_Texts.l0]
    rw [if_neg (by omega)]
  | succ d ih =>
    intro k i h hk
    obtain ⟨k, rfl⟩ : ∃ m, k = m + 1 := ⟨k - 1, by omega⟩
    simp only [remoraref17_Texts.l0]
    rw [if_pos (by omega), if_pos (by omega), if_pos (by omega), if_pos trivial, show wrap64 ((i : Int) + 1) = ((i + 1 : Nat) : Int) by unfold wrap64; omega]
    exact ih k (i + 1) (by omega) (by omega)
theorem texts_f (L : List ByteArray) (hl : L.length ≤ 2000000000000) : remoraref17_Texts.f (L.length + 1) L L = some true := by
  unfold remoraref17_Texts.f
  rw [if_pos rfl]
  exact texts_l0 L hl L.length _ 0 (by omega) (by omega)
theorem paths_len (S : List Ln) : (paths S).length = S.length := by unfold paths; rw [List.length_map]
/-! ### remoraref02_Shift: function 63 -/
def remoraref02_Shift.l0 : Nat → Int → Int → Int → Option (Int)
  | 0, _, _, _ => none
  | k + 1, x0, x1, x5 => if x5 < x1 then (if (Int.tmod x0 2) = 1 then (remoraref02_Shift.l0 k (Go.bits .xor .u32 ((Int.tdiv x0 2) % 4294967296) 3988292384) x1 (wrap64 (x5 + 1))) else (remoraref02_Shift.l0 k ((Int.tdiv x0 2) % 4294967296) x1 (wrap64 (x5 + 1)))) else (some x0)
def remoraref02_Shift.f (k : Nat) (a0 : Int) (a1 : Int) : Option (Int) := remoraref02_Shift.l0 k a0 a1 0
set_option maxHeartbeats 8000000 in
set_option maxRecDepth 100000 in
theorem remoraref02_Shift.calls (k : Nat) (a0 : Int) (a1 : Int) (r : Int) (w : World) (h : remoraref02_Shift.f k a0 a1 = some r) :
    Calls Tryd.prog 63 #[.int .u32 a0, .int .i64 a1] w fun e w' => e = .returned (.int .u32 r) ∧ Drawn0 w w' := by
  have H : (remoraref02_Shift.l0 k a0 a1 0) = some r := h
  clear h
  have H' := Aside0.mk H
  clear H
  go_enter Tryd.func63, Tryd.ntmps63
  go_wp2
  go_loopg [0, 5] k (fun kq v0 v5 w' => ∃ (x0_1 : Int) (x5_1 : Int), v0 = .int .u32 x0_1 ∧ v5 = .int .i64 x5_1 ∧ Aside0 (remoraref02_Shift.l0 kq x0_1 a1 x5_1 = some r) ∧ Aside0 (kq ≤ k) ∧ Drawn0 w w')
  case atStart => exact ⟨(a0), (0), (by first | rfl | (simp; done) | (simp [*]; done)), (by first | rfl | (simp; done) | (simp [*]; done)), H', ⟨Nat.le_refl _⟩, by repeat (first | exact Drawn0.refl _ | apply Drawn0.step)⟩
  case round =>
    clear H'
    try clear p2
    obtain ⟨x0_1, x5_1, rfl, rfl, HA, HK1, ⟨m1, rfl⟩⟩ := hrel
    cases gk with
    | zero => exact absurd HA.out (by simp [remoraref02_Shift.l0])
    | succ k1 =>
      have H := HA.out
      clear HA
      simp only [remoraref02_Shift.l0] at H
      by_cases c3 : x5_1 < a1
      · rw [if_pos c3] at H
        have c3b0 : decide (x5_1 < a1) = true := decide_eq_true c3
        clear c3
        by_cases c4 : (Int.tmod x0_1 2) = 1
        · rw [if_pos c4] at H
          have c4b0 : ((Int.tmod x0_1 2) == 1) = true := beq_iff_eq.mpr c4
          have c4b1 : ((Int.tmod x0_1 2) != 1) = false := bne_eq_false_iff_eq.mpr c4
          clear c4
          have H' := Aside0.mk H
          clear H
          go_wp2
          go_roundg k1
          case measure => have := HK1.out; omega
          case rel => exact ⟨(Go.bits .xor .u32 ((Int.tdiv x0_1 2) % 4294967296) 3988292384), (wrap64 (x5_1 + 1)), (by first | rfl | (simp; done) | (simp [*]; done)), (by first | rfl | (simp; done) | (simp [*]; done)), H', ⟨by have := HK1.out; omega⟩, by repeat (first | exact Drawn0.refl _ | apply Drawn0.step)⟩
        · rw [if_neg c4] at H
          have c4b0 : ((Int.tmod x0_1 2) == 1) = false := beq_eq_false_iff_ne.mpr c4
          have c4b1 : ((Int.tmod x0_1 2) != 1) = true := bne_iff_ne.mpr c4
          have H' := Aside0.mk H
          clear H
          go_wp2
          go_roundg k1
          case measure => have := HK1.out; omega
          case rel => exact ⟨((Int.tdiv x0_1 2) % 4294967296), (wrap64 (x5_1 + 1)), (by first | rfl | (simp; done) | (simp [*]; done)), (by first | rfl | (simp; done) | (simp [*]; done)), H', ⟨by have := HK1.out; omega⟩, by repeat (first | exact Drawn0.refl _ | apply Drawn0.step)⟩
      · rw [if_neg c3] at H
        have c3b0 : decide (x5_1 < a1) = false := decide_eq_false c3
        clear c3
        obtain rfl := Option.some.inj H
        go_wp2
        go_ret
        exact ⟨by first | rfl | (simp; done) | (simp [*]; done), by repeat (first | exact Drawn0.refl _ | apply Drawn0.step)⟩

/-! ### remoraref02_Of: function 37 -/
mutual
def remoraref02_Of.l0 : Nat → List (List Int) → Int → Int → Option (Int)
  | 0, _, _, _ => none
  | k + 1, x0, x3, x4 => if x4 < (x0.length : Int) then (remoraref02_Of.l1 k x0 x3 x4 0) else (some ((4294967295 - x3) % 4294967296))
def remoraref02_Of.l1 : Nat → List (List Int) → Int → Int → Int → Option (Int)
  | 0, _, _, _, _ => none
  | k + 1, x0, x3, x4, x5 => if 0 ≤ x4 then (if x4 < (x0.length : Int) then (if x5 < ((rd_L10 x0 x4).length : Int) then (if 0 ≤ x5 then ((remoraref02_Shift.f k (Go.bits .xor .u32 x3 ((rd (rd_L10 x0 x4) x5) % 4294967296)) 8).bind fun t188 => (remoraref02_Of.l1 k x0 t188 x4 (wrap64 (x5 + 1)))) else (none)) else (remoraref02_Of.l0 k x0 x3 (wrap64 (x4 + 1)))) else (none)) else (none)
end
def remoraref02_Of.f (k : Nat) (l0 : List (List Int)) : Option (Int) := remoraref02_Of.l0 k l0 4294967295 0
set_option maxHeartbeats 8000000 in
set_option maxRecDepth 100000 in
theorem remoraref02_Of.calls (k : Nat) (A0 : Option Addr) (c0 : Nat) (l0 : List (List Int)) (r : Int) (w : World) (hr0 : Kd.C (Kd.slice 5 (Kd.int .u8)) w A0 l0.length l0) (hc0 : l0.length ≤ c0) (h : remoraref02_Of.f k l0 = some r) :
    Calls Tryd.prog 37 #[.slice A0 l0.length c0] w fun e w' => e = .returned (.int .u32 r) ∧ Drawn0 w w' := by
  have HR0 := Aside0.mk hr0
  have HC0 := Aside0.mk hc0
  clear hr0 hc0
  have H : (remoraref02_Of.l0 k l0 4294967295 0) = some r := h
  clear h
  have H' := Aside0.mk H
  clear H
  go_enter Tryd.func37, Tryd.ntmps37
  go_wp2
  go_loopg [3, 4] k (fun kq v3 v4 w' => ∃ (x3_1 : Int) (x4_1 : Int), v3 = .int .u32 x3_1 ∧ v4 = .int .i64 x4_1 ∧ Aside0 (remoraref02_Of.l0 kq l0 x3_1 x4_1 = some r) ∧ Aside0 (kq ≤ k) ∧ Drawn0 w w')
  case atStart => exact ⟨(4294967295), (0), (by first | rfl | (simp; done) | (simp [*]; done)), (by first | rfl | (simp; done) | (simp [*]; done)), H', ⟨Nat.le_refl _⟩, by repeat (first | exact Drawn0.refl _ | apply Drawn0.step)⟩
  case round =>
    clear H'
    obtain ⟨x3_1, x4_1, rfl, rfl, HA, HK1, ⟨m1, rfl⟩⟩ := hrel
    cases gk with
    | zero => exact absurd HA.out (by simp [remoraref02_Of.l0])
    | succ k1 =>
      have H := HA.out
      clear HA
      simp only [remoraref02_Of.l0] at H
      by_cases c2 : x4_1 < (l0.length : Int)
      · rw [if_pos c2] at H
        have c2b0 : decide (x4_1 < (l0.length : Int)) = true := decide_eq_true c2
        clear c2
        have H' := Aside0.mk H
        clear H
        go_wp2
        go_loopg [3, 5] k1 (fun kq v3 v5 w' => ∃ (x3_2 : Int) (x5_2 : Int), v3 = .int .u32 x3_2 ∧ v5 = .int .i64 x5_2 ∧ Aside0 (remoraref02_Of.l1 kq l0 x3_2 x4_1 x5_2 = some r) ∧ Aside0 (kq ≤ k1) ∧ Drawn0 w w')
        case atStart => exact ⟨(x3_1), (0), (by first | rfl | (simp; done) | (simp [*]; done)), (by first | rfl | (simp; done) | (simp [*]; done)), H', ⟨Nat.le_refl _⟩, by repeat (first | exact Drawn0.refl _ | apply Drawn0.step)⟩
        case round =>
          clear H'
          try clear c2
          try clear c2b0
          try clear p2
          obtain ⟨x3_2, x5_2, rfl, rfl, HA, HK2, ⟨m2, rfl⟩⟩ := hrel
          cases gk with
          | zero => exact absurd HA.out (by simp [remoraref02_Of.l1])
          | succ k2 =>
            have H := HA.out
            clear HA
            simp only [remoraref02_Of.l1] at H
            by_cases c3 : 0 ≤ x4_1
            · rw [if_pos c3] at H
              have c3b0 : decide (0 ≤ x4_1) = true := decide_eq_true c3
              clear c3
              by_cases c4 : x4_1 < (l0.length : Int)
              · rw [if_pos c4] at H
                have c4b0 : decide (x4_1 < (l0.length : Int)) = true := decide_eq_true c4
                clear c4
                by_cases c5 : x5_2 < ((rd_L10 l0 x4_1).length : Int)
                · rw [if_pos c5] at H
                  have c5b0 : decide (x5_2 < ((rd_L10 l0 x4_1).length : Int)) = true := decide_eq_true c5
                  clear c5
                  by_cases c6 : 0 ≤ x5_2
                  · rw [if_pos c6] at H
                    have c6b0 : decide (0 ≤ x5_2) = true := decide_eq_true c6
                    clear c6
                    replace H := Option.bind_eq_some_iff.mp H
                    obtain ⟨t188, A70, H⟩ := H
                    replace H : (remoraref02_Of.l1 k2 l0 t188 x4_1 (wrap64 (x5_2 + 1))) = some r := H
                    have A7 := Aside0.mk A70
                    clear A70
                    have H' := Aside0.mk H
                    clear H
                    have p185 : 0 ≤ (x4_1 : Int) := of_decide_eq_true (by first | (with_reducible assumption) | assumption)
                    have q185 : x4_1 < (l0.length : Int) := of_decide_eq_true (by first | (with_reducible assumption) | assumption)
                    obtain ⟨ad185, A185_0, c185_0, e185, hx185_0, hl185_0, hi185_0⟩ := at_L10 HR0.out x4_1 p185 q185
                    cases e185
                    have HR185_0 := Aside0.mk hi185_0
                    have HC185_0 := Aside0.mk hl185_0
                    clear hi185_0 hl185_0
                    replace p185 := eq_true p185
                    replace q185 := eq_true q185
                    have p186 : 0 ≤ (x4_1 : Int) := of_decide_eq_true (by first | (with_reducible assumption) | assumption)
                    have q186 : x4_1 < (l0.length : Int) := of_decide_eq_true (by first | (with_reducible assumption) | assumption)
                    obtain ⟨ad186, A186_0, c186_0, e186, hx186_0, hl186_0, hi186_0⟩ := at_L10 HR0.out x4_1 p186 q186
                    obtain rfl : ad185 = ad186 := (by injection e186)
                    have HR186_0 := Aside0.mk hi186_0
                    have HC186_0 := Aside0.mk hl186_0
                    clear hi186_0 hl186_0
                    replace p186 := eq_true p186
                    replace q186 := eq_true q186
                    have ea_ := Option.some.inj (hx185_0.symm.trans hx186_0)
                    injection ea_ with ea_ en_ ec_
                    subst ea_
                    subst ec_
                    clear en_
                    have p187 : 0 ≤ (x5_2 : Int) := of_decide_eq_true (by first | (with_reducible assumption) | assumption)
                    have q187 : x5_2 < ((rd_L10 l0 x4_1).length : Int) := of_decide_eq_true (by first | (with_reducible assumption) | assumption)
                    obtain ⟨ad187, e187, hx187_0⟩ := Kd.at_int HR186_0.out x5_2 p187 q187
                    cases e187
                    replace p187 := eq_true p187
                    replace q187 := eq_true q187
                    go_wp2_with (first | ((with_reducible refine gate_callee (f := 63) rfl ?_); refine goesL_ (some 31) rfl rfl Tryd.func63 (by kernel_rfl) rfl #[.int .u32 (Go.bits .xor .u32 x3_2 ((rd (rd_L10 l0 x4_1) x5_2) % 4294967296)), .int .i64 8] rfl (by (try simp only [List.map_toArray, List.map_cons, List.map_nil]); first | done | rfl | (simp only [List.length_drop, List.length_take]; rfl) | (simp; done) | (simp; (repeat' apply And.intro) <;> rfl)) ?_; (with_reducible refine (remoraref02_Shift.calls k2 (Go.bits .xor .u32 x3_2 ((rd (rd_L10 l0 x4_1) x5_2) % 4294967296)) 8 t188 _ A7.out).mono ?_); rintro e w' ⟨rfl, ⟨nd, rfl⟩⟩; refine ⟨_, rfl, ?_⟩))
                    go_roundg k2
                    case measure => have := HK1.out; have := HK2.out; omega
                    case rel => exact ⟨(t188), (wrap64 (x5_2 + 1)), (by first | rfl | (simp; done) | (simp [*]; done)), (by first | rfl | (simp; done) | (simp [*]; done)), H', ⟨by have := HK1.out; have := HK2.out; omega⟩, by repeat (first | exact Drawn0.refl _ | apply Drawn0.step)⟩
                  · rw [if_neg c6] at H
                    exact absurd H (by simp)
                · rw [if_neg c5] at H
                  have c5b0 : decide (x5_2 < ((rd_L10 l0 x4_1).length : Int)) = false := decide_eq_false c5
                  clear c5
                  have H' := Aside0.mk H
                  clear H
                  have p185 : 0 ≤ (x4_1 : Int) := of_decide_eq_true (by first | (with_reducible assumption) | assumption)
                  have q185 : x4_1 < (l0.length : Int) := of_decide_eq_true (by first | (with_reducible assumption) | assumption)
                  obtain ⟨ad185, A185_0, c185_0, e185, hx185_0, hl185_0, hi185_0⟩ := at_L10 HR0.out x4_1 p185 q185
                  cases e185
                  have HR185_0 := Aside0.mk hi185_0
                  have HC185_0 := Aside0.mk hl185_0
                  clear hi185_0 hl185_0
                  replace p185 := eq_true p185
                  replace q185 := eq_true q185
                  go_wp2
                  go_roundg k2
                  case measure => have := HK1.out; have := HK2.out; omega
                  case rel => exact ⟨(x3_2), (wrap64 (x4_1 + 1)), (by first | rfl | (simp; done) | (simp [*]; done)), (by first | rfl | (simp; done) | (simp [*]; done)), H', ⟨by have := HK1.out; have := HK2.out; omega⟩, by repeat (first | exact Drawn0.refl _ | apply Drawn0.step)⟩
              · rw [if_neg c4] at H
                exact absurd H (by simp)
            · rw [if_neg c3] at H
              exact absurd H (by simp)
      · rw [if_neg c2] at H
        have c2b0 : decide (x4_1 < (l0.length : Int)) = false := decide_eq_false c2
        clear c2
        obtain rfl := Option.some.inj H
        go_wp2
        go_ret
        exact ⟨by first | rfl | (simp; done) | (simp [*]; done), by repeat (first | exact Drawn0.refl _ | apply Drawn0.step)⟩

/-! ### remoraref02_Seal: function 20 -/
def remoraref02_Seal.l0 : Nat → Int → List Int → Int → Option (List Int)
  | 0, _, _, _ => none
  | k + 1, x3, x4, x5 => if x5 < 4 then (if x4.length < 140737488355328 then (remoraref02_Seal.l0 k ((Int.tdiv x3 256) % 4294967296) (x4 ++ [(Int.tmod x3 256) % 256]) (wrap64 (x5 + 1))) else (none)) else (some x4)
def remoraref02_Seal.f (k : Nat) (l0 : List Int) : Option (List Int) := (remoraref02_Of.f k (([l0] : List (List Int)))).bind fun t192 => ((some (([] : List Int) : List Int)).bind fun y193 => (if y193.length + l0.length < 140737488355328 then (remoraref02_Seal.l0 k t192 (y193 ++ l0) 0) else (none)))
set_option maxHeartbeats 8000000 in
set_option maxRecDepth 100000 in
theorem remoraref02_Seal.calls (k : Nat) (P0_ : Nat → Prop) (A0 : Option Addr) (c0 : Nat) (l0 : List Int) (r : List Int) (w : World) (hs0 : Kd.V (Kd.int .u8) 5 w w.heap.size (fun k_ => P0_ k_) (.slice A0 l0.length c0) l0) (h : remoraref02_Seal.f k l0 = some r) :
    Calls Tryd.prog 20 #[.slice A0 l0.length c0] w fun e w' => ∃ v0_ : Value, e = .returned (v0_) ∧ Kd.R (Kd.int .u8) 5 w' w.heap.size (fun k_ => (w.heap.size ≤ k_)) v0_ r ∧ Below w.heap.size w w' := by
  have HO0 := Aside0.mk (show Kd.V (Kd.int .u8) 5 w w.heap.size (fun k_ => (P0_ k_ ∨ w.heap.size ≤ k_)) (.slice A0 l0.length c0) l0 from Kd.V_mono hs0 (fun k_ hk => .inl hk))
  have HB := Aside0.mk (Below.refl w.heap.size w)
  have H : ((remoraref02_Of.f k (([l0] : List (List Int)))).bind fun t192 => ((some (([] : List Int) : List Int)).bind fun y193 => (if y193.length + l0.length < 140737488355328 then (remoraref02_Seal.l0 k t192 (y193 ++ l0) 0) else (none)))) = some r := h
  clear h
  obtain ⟨y189, hy189⟩ : ∃ y_ : List (List Int), y_ = (([l0] : List (List Int))) := ⟨_, rfl⟩
  replace H : ((remoraref02_Of.f k y189).bind fun t192 => ((some (([] : List Int) : List Int)).bind fun y193 => (if y193.length + l0.length < 140737488355328 then (remoraref02_Seal.l0 k t192 (y193 ++ l0) 0) else (none)))) = some r := by first | (rw [hy189]; with_reducible exact H) | (have H2_ := (Option.bind_some _ _).symm.trans H; rw [hy189]; with_reducible exact H2_) | (have H2_ := (Option.bind_some _ _).symm.trans H; with_reducible exact H2_) | with_reducible exact H | (rw [hy189]; exact H) | exact H
  have Ny189 := Aside0.mk hy189
  clear hy189
  replace H := Option.bind_eq_some_iff.mp H
  obtain ⟨t192, A20, H⟩ := H
  replace H : ((some (([] : List Int) : List Int)).bind fun y193 => (if y193.length + l0.length < 140737488355328 then (remoraref02_Seal.l0 k t192 (y193 ++ l0) 0) else (none))) = some r := H
  have A2 := Aside0.mk A20
  clear A20
  obtain ⟨y193, hy193⟩ : ∃ y_ : List Int, y_ = (([] : List Int)) := ⟨_, rfl⟩
  replace H : (if y193.length + l0.length < 140737488355328 then (remoraref02_Seal.l0 k t192 (y193 ++ l0) 0) else (none)) = some r := by first | (rw [hy193]; with_reducible exact H) | (have H2_ := (Option.bind_some _ _).symm.trans H; rw [hy193]; with_reducible exact H2_) | (have H2_ := (Option.bind_some _ _).symm.trans H; with_reducible exact H2_) | with_reducible exact H | (rw [hy193]; exact H) | exact H
  have Ny193 := Aside0.mk hy193
  clear hy193
  by_cases c3 : y193.length + l0.length < 140737488355328
  · rw [if_pos c3] at H
    have LMc3 := Aside0.mk c3
    clear c3
    obtain ⟨y196, hy196⟩ : ∃ y_ : List Int, y_ = (y193 ++ l0) := ⟨_, rfl⟩
    replace H : (remoraref02_Seal.l0 k t192 y196 0) = some r := by first | (rw [hy196]; with_reducible exact H) | (have H2_ := (Option.bind_some _ _).symm.trans H; rw [hy196]; with_reducible exact H2_) | (have H2_ := (Option.bind_some _ _).symm.trans H; with_reducible exact H2_) | with_reducible exact H | (rw [hy196]; exact H) | exact H
    have Ny196 := Aside0.mk hy196
    clear hy196
    have H' := Aside0.mk H
    clear H
    go_enter Tryd.func20, Tryd.ntmps20
    go_wp2_with (first | ((with_reducible refine gate_dst (N := 7) rfl ?_); refine Kd.N_lit (Kd.slice 5 (Kd.int .u8)) _ 41 ?hg (N' := 7) ?hd (xs := ([l0] : List (List Int))) (inner := [.slice A0 l0.length c0]) (ok := (fun k_ => (P0_ k_ ∨ w.heap.size ≤ k_))) (okp := (fun k_ => (P0_ k_ ∨ w.heap.size ≤ k_))) ?hr ?hp (fun _ hk => hk) ((show ∀ k_, w.heap.size ≤ k_ → (fun k_ => (P0_ k_ ∨ w.heap.size ≤ k_)) k_ from fun k_ hk => (.inr (Nat.le_trans (below_size (by repeat (first | (with_reducible first | exact HB.out | apply below_alloc | apply pw_below_drewN | apply below_drew1) | exact HB.out))) hk))) _ (Nat.le_refl _)) (Below.refl _ _) (Nat.le_refl _) (by simp) ?_; (case hd => rfl); (case hg => rfl); (case hr => first | (go_simp; done) | (go_simp; rfl)); (case hp => exact (Reps.one (show Kd.FK (Kd.slice 5 (Kd.int .u8)) _ _ l0 [.slice A0 l0.length c0] from (Kd.FK_slice_mk (Kd.V_reads' (Kd.V_mono (ok' := (fun k_ => (P0_ k_ ∨ w.heap.size ≤ k_))) (HO0.out) (fun k_ hk => hk))).2.1 (Kd.V_F (Kd.V_mono (ok' := (fun k_ => (P0_ k_ ∨ w.heap.size ≤ k_))) (HO0.out) (fun k_ hk => hk))))) (Reps.none _ _))); intro v190 w4 ho5 hb hg_ hnew_; clear hg_ hnew_; (first | rw [← Ny189.out] at ho5 | (simp only [Int.reduceToNat] at ho5; rw [← Ny189.out] at ho5)); have n0_ := Aside0.mk (Kd.V_elder' (by (with_reducible repeat (first | apply Kd.V_alloc | apply Kd.V_drewN | apply Kd.V_drew)); exact HO0.out) (Kd.N_base ho5) hb); have n1_ := Aside0.mk (Kd.N_lower ho5 (below_size (by repeat (first | (with_reducible first | exact HB.out | apply below_alloc | apply pw_below_drewN | apply below_drew1) | exact HB.out)))); have n2_ := Aside0.mk (below_step (by repeat (first | (with_reducible first | exact HB.out | apply below_alloc | apply pw_below_drewN | apply below_drew1) | exact HB.out)) hb); clear HO0; clear HB; have HO0 := n0_; have HO191 := n1_; have HB := n2_; clear n0_ n1_ n2_; clear hb ho5; obtain ⟨Ao6, co6, eo6⟩ := Kd.N_slice HO191.out; subst eo6) | ((with_reducible refine gate_callee (f := 37) rfl ?_); refine goesL_ (some 8) rfl rfl Tryd.func37 (by kernel_rfl) rfl #[.slice Ao6 y189.length co6] rfl (by (try simp only [List.map_toArray, List.map_cons, List.map_nil]); first | done | rfl | (simp only [List.length_drop, List.length_take]; rfl) | (simp; done) | (simp; (repeat' apply And.intro) <;> rfl)) ?_; (with_reducible refine (remoraref02_Of.calls k _ _ y189 t192 _ ?side1 ?side2 A2.out).mono ?_); (case side1 => repeat (first | exact (Kd.N_reads' HO191.out).2.2 | (with_reducible refine Kd.C_alloc ?_ _) | (with_reducible refine Kd.C_drewN ?_ _) | (with_reducible refine Kd.C_drew ?_))); (case side2 => exact (Kd.N_reads' HO191.out).2.1); rintro e w' ⟨rfl, ⟨nd, rfl⟩⟩; refine ⟨_, rfl, ?_⟩) | ((with_reducible refine gate_dst (N := 9) rfl ?_); refine Kd.R_lit (Kd.int .u8) _ 5 ?hg (N := 9) ?hd (xs := ([] : List Int)) (inner := []) (ok := fun _ => True) (okp := fun _ => True) ?hr ?hp (fun _ hk => hk) trivial (Below.refl _ _) (Nat.le_refl _) (by simp) ?_; (case hd => rfl); (case hg => rfl); (case hr => first | (go_simp; done) | (go_simp; rfl)); (case hp => exact (Reps.none _ _)); intro v194 w7 ho8 hb hg_ hnew_; clear hg_ hnew_; (first | rw [← Ny193.out] at ho8 | (simp only [Int.reduceToNat] at ho8; rw [← Ny193.out] at ho8)); have n0_ := Aside0.mk (Kd.V_elder' (by (with_reducible repeat (first | apply Kd.V_alloc | apply Kd.V_drewN | apply Kd.V_drew)); exact HO0.out) (Kd.R_base ho8) hb); have n1_ := Aside0.mk (Kd.N_elder' (by (with_reducible repeat (first | apply Kd.N_alloc | apply Kd.N_drewN | apply Kd.N_drew)); exact HO191.out) (Kd.R_base ho8) hb); have n2_ := Aside0.mk (Kd.R_lower (Kd.R_newM (M := fun k_ => (w.heap.size ≤ k_)) ho8 (below_size (by repeat (first | (with_reducible first | exact HB.out | apply below_alloc | apply pw_below_drewN | apply below_drew1) | exact HB.out))) (fun k_ h_ => h_)) (below_size (by repeat (first | (with_reducible first | exact HB.out | apply below_alloc | apply pw_below_drewN | apply below_drew1) | exact HB.out)))); have n3_ := Aside0.mk (below_step (by repeat (first | (with_reducible first | exact HB.out | apply below_alloc | apply pw_below_drewN | apply below_drew1) | exact HB.out)) hb); clear HO0; clear HO191; clear HB; have HO0 := n0_; have HO191 := n1_; have HO195 := n2_; have HB := n3_; clear n0_ n1_ n2_ n3_; clear hb ho8) | ((with_reducible refine gate_builtin (b := .append) (xs := #[.tmp 9, .tmp 10]) rfl ?_); at_builtin; refine Kd.R_append_rows (Kd.int .u8) (w0 := w) w.heap.size rfl (.tmp 9) (.tmp 10) 41 5 (.int .u8 0) 1 rfl Tryd.underlying41 info5 rfl (by decide) (by omega) v194 y193 l0 _ _ _ (fun k_ => (w.heap.size ≤ k_)) (fun _ => False) rfl rfl ?aO ?aR (fun _ _ h => h) (fun _ h => h.elim) ?aF ?aB ?aS ?aL ?_; (case aR => repeat (first | exact (Kd.V_reads' HO0.out).2.2 | (with_reducible refine Kd.C_alloc ?_ _) | (with_reducible refine Kd.C_drewN ?_ _) | (with_reducible refine Kd.C_drew ?_))); (case aB => exact (by repeat (first | (with_reducible first | exact HB.out | apply below_alloc | apply pw_below_drewN | apply below_drew1) | exact HB.out))); (case aF => exact (fun k_ hk => (Nat.le_trans (below_size (by repeat (first | (with_reducible first | exact HB.out | apply below_alloc | apply pw_below_drewN | apply below_drew1) | exact HB.out))) hk))); (case aO => exact (by (with_reducible repeat (first | apply Kd.R_alloc | apply Kd.R_drewN | apply Kd.R_drew)); exact Kd.R_mono HO195.out (fun _ hk => hk.1))); (case aS => exact (below_size (by repeat (first | (with_reducible first | exact HB.out | apply below_alloc | apply pw_below_drewN | apply below_drew1) | exact HB.out)))); (case aL => have := LMc3.out; omega); intro v197 w9 ho hb hg hat; rw [← Ny196.out] at ho; have n0_ := Aside0.mk (Kd.V_afterv (ok := (fun k_ => (P0_ k_ ∨ w.heap.size ≤ k_) ∧ some k_ ≠ (.slice Ao6 y189.length co6 : Value).ownBlock)) (by (with_reducible repeat (first | apply Kd.V_alloc | apply Kd.V_drewN | apply Kd.V_drew)); exact HO0.out) hg hat); have n1_ := Aside0.mk (Kd.N_afterv (ok := (fun k_ => (P0_ k_ ∨ w.heap.size ≤ k_))) (by (with_reducible repeat (first | apply Kd.N_alloc | apply Kd.N_drewN | apply Kd.N_drew)); exact HO191.out) hg hat); have n2_ := Aside0.mk (hb); have n3_ := Aside0.mk (ho); clear HO0; clear HO191; clear HB; clear HO195; have HO0 := n0_; have HO191 := n1_; have HB := n2_; have HO198 := n3_; clear n0_ n1_ n2_ n3_; clear ho hb hg hat))
    go_loopg [3, 4, 5] k (fun kq v3 v4 v5 w' => ∃ (x3_1 : Int) (x4_1 : List Int) (x5_1 : Int), v3 = .int .u32 x3_1 ∧ v5 = .int .i64 x5_1 ∧ Aside0 (remoraref02_Seal.l0 kq x3_1 x4_1 x5_1 = some r) ∧ Aside0 (kq ≤ k) ∧ Aside0 (Kd.R (Kd.int .u8) 5 w' w.heap.size (fun k_ => (w.heap.size ≤ k_)) v4 x4_1) ∧ Aside0 (Below w.heap.size w w'))
    case atStart => exact ⟨(t192), (y196), (0), (by first | rfl | (simp; done) | (simp [*]; done)), (by first | rfl | (simp; done) | (simp [*]; done)), H', ⟨Nat.le_refl _⟩, ⟨by (with_reducible repeat (first | apply Kd.R_alloc | apply Kd.R_drewN | apply Kd.R_drew)); exact HO198.out⟩, ⟨by repeat (first | (with_reducible first | exact HB.out | apply below_alloc | apply pw_below_drewN | apply below_drew1) | exact HB.out)⟩⟩
    case round =>
      clear H'
      try clear c2
      try clear p2
      try clear c3
      obtain ⟨x3_1, x4_1, x5_1, rfl, rfl, HA, HK1, HO_4, HB⟩ := hrel
      cases gk with
      | zero => exact absurd HA.out (by simp [remoraref02_Seal.l0])
      | succ k1 =>
        have H := HA.out
        clear HA
        simp only [remoraref02_Seal.l0] at H
        by_cases c10 : x5_1 < 4
        · rw [if_pos c10] at H
          have c10b0 : decide (x5_1 < 4) = true := decide_eq_true c10
          clear c10
          by_cases c11 : x4_1.length < 140737488355328
          · rw [if_pos c11] at H
            have LMc11 := Aside0.mk c11
            clear c11
            obtain ⟨y199, hy199⟩ : ∃ y_ : List Int, y_ = (x4_1 ++ [(Int.tmod x3_1 256) % 256]) := ⟨_, rfl⟩
            replace H : (remoraref02_Seal.l0 k1 ((Int.tdiv x3_1 256) % 4294967296) y199 (wrap64 (x5_1 + 1))) = some r := by first | (rw [hy199]; with_reducible exact H) | (have H2_ := (Option.bind_some _ _).symm.trans H; rw [hy199]; with_reducible exact H2_) | (have H2_ := (Option.bind_some _ _).symm.trans H; with_reducible exact H2_) | with_reducible exact H | (rw [hy199]; exact H) | exact H
            have Ny199 := Aside0.mk hy199
            clear hy199
            have H' := Aside0.mk H
            clear H
            go_wp2_with (first | ((with_reducible refine gate_builtin (b := .append) (xs := #[.tmp 16, .tmp 20]) rfl ?_); at_builtin; refine Kd.R_append (Kd.int .u8) (w0 := w) w.heap.size rfl (.tmp 16) (.tmp 20) 41 5 (.int .u8 0) 1 rfl Tryd.underlying41 info5 rfl (by decide) (by omega) u4 x4_1 ((Int.tmod x3_1 256) % 256) [.int .u8 ((Int.tmod x3_1 256) % 256)] (fun k_ => (w.heap.size ≤ k_)) (fun _ => False) rfl rfl ?aP (fun _ hk => hk.elim) ?aF ?aO ?aB ?aS ?aL ?_; (case aP => exact rfl); (case aB => exact (by repeat (first | (with_reducible first | exact HB.out | apply below_alloc | apply pw_below_drewN | apply below_drew1) | exact HB.out))); (case aF => exact (fun k_ hk => (Nat.le_trans (below_size (by repeat (first | (with_reducible first | exact HB.out | apply below_alloc | apply pw_below_drewN | apply below_drew1) | exact HB.out))) hk))); (case aO => exact (by (with_reducible repeat (first | apply Kd.R_alloc | apply Kd.R_drewN | apply Kd.R_drew)); exact HO_4.out)); (case aS => exact (below_size (by repeat (first | (with_reducible first | exact HB.out | apply below_alloc | apply pw_below_drewN | apply below_drew1) | exact HB.out)))); (case aL => have := LMc11.out; omega); intro v200 w12 ho hb hg hat; rw [← Ny199.out] at ho; have n0_ := Aside0.mk (hb); have n1_ := Aside0.mk (ho); clear HB; clear HO_4; have HB := n0_; have HO201 := n1_; clear n0_ n1_; clear ho hb hg hat))
            go_roundg k1
            case measure => have := HK1.out; omega
            case rel => exact ⟨((Int.tdiv x3_1 256) % 4294967296), (y199), (wrap64 (x5_1 + 1)), (by first | rfl | (simp; done) | (simp [*]; done)), (by first | rfl | (simp; done) | (simp [*]; done)), H', ⟨by have := HK1.out; omega⟩, ⟨by (with_reducible repeat (first | apply Kd.R_alloc | apply Kd.R_drewN | apply Kd.R_drew)); exact HO201.out⟩, ⟨by repeat (first | (with_reducible first | exact HB.out | apply below_alloc | apply pw_below_drewN | apply below_drew1) | exact HB.out)⟩⟩
          · rw [if_neg c11] at H
            exact absurd H (by simp)
        · rw [if_neg c10] at H
          have c10b0 : decide (x5_1 < 4) = false := decide_eq_false c10
          clear c10
          obtain rfl := Option.some.inj H
          go_wp2
          go_ret
          exact ⟨_, by first | rfl | (simp [errW_none, errW_some] <;> rfl) | (simp [*, errW_none, errW_some] <;> rfl), by (with_reducible repeat (first | apply Kd.R_alloc | apply Kd.R_drewN | apply Kd.R_drew)); exact HO_4.out, by repeat (first | (with_reducible first | exact HB.out | apply below_alloc | apply pw_below_drewN | apply below_drew1) | exact HB.out)⟩
  · rw [if_neg c3] at H
    exact absurd H (by simp)

/-! ### remoraref01_behind: function 60 -/
def remoraref01_behind.f (l0 : List Int) (l1 : List Int) : Option (List Int) := if ([] : List Int).length + l0.length < 140737488355328 then ((some (([] : List Int) ++ l0 : List Int)).bind fun y202 => (if y202.length + l1.length < 140737488355328 then (some (y202 ++ l1)) else (none))) else (none)
set_option maxHeartbeats 8000000 in
set_option maxRecDepth 100000 in
theorem remoraref01_behind.calls (A0 : Option Addr) (c0 : Nat) (l0 : List Int) (A1 : Option Addr) (c1 : Nat) (l1 : List Int) (r : List Int) (w : World) (hr0 : Kd.C (Kd.int .u8) w A0 l0.length l0) (hc0 : l0.length ≤ c0) (hr1 : Kd.C (Kd.int .u8) w A1 l1.length l1) (hc1 : l1.length ≤ c1) (h : remoraref01_behind.f l0 l1 = some r) :
    Calls Tryd.prog 60 #[.slice A0 l0.length c0, .slice A1 l1.length c1] w fun e w' => ∃ v0_ : Value, e = .returned (v0_) ∧ Kd.R (Kd.int .u8) 5 w' w.heap.size (fun _ => True) v0_ r ∧ Below w.heap.size w w' := by
  have HR0 := Aside0.mk hr0
  have HC0 := Aside0.mk hc0
  clear hr0 hc0
  have HR1 := Aside0.mk hr1
  have HC1 := Aside0.mk hc1
  clear hr1 hc1
  have HB := Aside0.mk (Below.refl w.heap.size w)
  have H : (if ([] : List Int).length + l0.length < 140737488355328 then ((some (([] : List Int) ++ l0 : List Int)).bind fun y202 => (if y202.length + l1.length < 140737488355328 then (some (y202 ++ l1)) else (none))) else (none)) = some r := h
  clear h
  by_cases c3 : ([] : List Int).length + l0.length < 140737488355328
  · rw [if_pos c3] at H
    have LMc3 := Aside0.mk c3
    clear c3
    obtain ⟨y202, hy202⟩ : ∃ y_ : List Int, y_ = (([] : List Int) ++ l0) := ⟨_, rfl⟩
    replace H : (if y202.length + l1.length < 140737488355328 then (some (y202 ++ l1)) else (none)) = some r := by first | (rw [hy202]; with_reducible exact H) | (have H2_ := (Option.bind_some _ _).symm.trans H; rw [hy202]; with_reducible exact H2_) | (have H2_ := (Option.bind_some _ _).symm.trans H; with_reducible exact H2_) | with_reducible exact H | (rw [hy202]; exact H) | exact H
    have Ny202 := Aside0.mk hy202
    clear hy202
    by_cases c4 : y202.length + l1.length < 140737488355328
    · rw [if_pos c4] at H
      have LMc4 := Aside0.mk c4
      clear c4
      obtain ⟨y205, hy205⟩ : ∃ y_ : List Int, y_ = (y202 ++ l1) := ⟨_, rfl⟩
      replace H : (some y205) = some r := by first | (rw [hy205]; with_reducible exact H) | (have H2_ := (Option.bind_some _ _).symm.trans H; rw [hy205]; with_reducible exact H2_) | (have H2_ := (Option.bind_some _ _).symm.trans H; with_reducible exact H2_) | with_reducible exact H | (rw [hy205]; exact H) | exact H
      have Ny205 := Aside0.mk hy205
      clear hy205
      obtain rfl := Option.some.inj H
      go_enter Tryd.func60, Tryd.ntmps60
      go_wp2_with (first | ((with_reducible refine gate_builtin (b := .append) (xs := #[.tmp 6, .tmp 7]) rfl ?_); at_builtin; refine Kd.R_append_rows (Kd.int .u8) (w0 := w) w.heap.size rfl (.tmp 6) (.tmp 7) 41 5 (.int .u8 0) 1 rfl Tryd.underlying41 info5 rfl (by decide) (by omega) (.slice none 0 0) ([] : List Int) l0 _ _ _ (fun _ => True) (fun _ => False) rfl rfl ?aO ?aR (fun _ _ h => h) (fun _ h => h.elim) ?aF ?aB ?aS ?aL ?_; (case aR => repeat (first | exact HR0.out | (with_reducible refine Kd.C_alloc ?_ _) | (with_reducible refine Kd.C_drewN ?_ _) | (with_reducible refine Kd.C_drew ?_))); (case aB => exact (by repeat (first | (with_reducible first | exact HB.out | apply below_alloc | apply pw_below_drewN | apply below_drew1) | exact HB.out))); (case aF => exact (fun _ _ => trivial)); (case aO => exact ((Kd.R_nil _ _ _ _ (fun _ => True)))); (case aS => exact (below_size (by repeat (first | (with_reducible first | exact HB.out | apply below_alloc | apply pw_below_drewN | apply below_drew1) | exact HB.out)))); (case aL => have := LMc3.out; omega); intro v203 w5 ho hb hg hat; rw [← Ny202.out] at ho; have n0_ := Aside0.mk (hb); have n1_ := Aside0.mk (ho); clear HB; have HB := n0_; have HO204 := n1_; clear n0_ n1_; clear ho hb hg hat) | ((with_reducible refine gate_builtin (b := .append) (xs := #[.tmp 9, .tmp 10]) rfl ?_); at_builtin; refine Kd.R_append_rows (Kd.int .u8) (w0 := w) w.heap.size rfl (.tmp 9) (.tmp 10) 41 5 (.int .u8 0) 1 rfl Tryd.underlying41 info5 rfl (by decide) (by omega) v203 y202 l1 _ _ _ (fun _ => True) (fun _ => False) rfl rfl ?aO ?aR (fun _ _ h => h) (fun _ h => h.elim) ?aF ?aB ?aS ?aL ?_; (case aR => repeat (first | exact (Kd.C_below HR1.out HB.out) | (with_reducible refine Kd.C_alloc ?_ _) | (with_reducible refine Kd.C_drewN ?_ _) | (with_reducible refine Kd.C_drew ?_))); (case aB => exact (by repeat (first | (with_reducible first | exact HB.out | apply below_alloc | apply pw_below_drewN | apply below_drew1) | exact HB.out))); (case aF => exact (fun _ _ => trivial)); (case aO => exact (by (with_reducible repeat (first | apply Kd.R_alloc | apply Kd.R_drewN | apply Kd.R_drew)); exact HO204.out)); (case aS => exact (below_size (by repeat (first | (with_reducible first | exact HB.out | apply below_alloc | apply pw_below_drewN | apply below_drew1) | exact HB.out)))); (case aL => have := LMc4.out; omega); intro v206 w6 ho hb hg hat; rw [← Ny205.out] at ho; have n0_ := Aside0.mk (hb); have n1_ := Aside0.mk (ho); clear HB; clear HO204; have HB := n0_; have HO207 := n1_; clear n0_ n1_; clear ho hb hg hat))
      go_ret
      exact ⟨_, by first | rfl | (simp [errW_none, errW_some] <;> rfl) | (simp [*, errW_none, errW_some] <;> rfl), by (with_reducible repeat (first | apply Kd.R_alloc | apply Kd.R_drewN | apply Kd.R_drew)); exact HO207.out, by repeat (first | (with_reducible first | exact HB.out | apply below_alloc | apply pw_below_drewN | apply below_drew1) | exact HB.out)⟩
    · rw [if_neg c4] at H
      exact absurd H (by simp)
  · rw [if_neg c3] at H
    exact absurd H (by simp)

/-! ### remoraref01_groups: function 61 -/
def remoraref01_groups.l0 : Nat → Int → List Int → Option (List Int)
  | 0, _, _ => none
  | k + 1, x0, x3 => if x0 > 127 then (if x3.length < 140737488355328 then (remoraref01_groups.l0 k (wrap64 (Int.tdiv x0 128)) (x3 ++ [(wrap64 (128 + (Int.tmod x0 128))) % 256])) else (none)) else (if x3.length < 140737488355328 then (some (x3 ++ [(x0) % 256])) else (none))
def remoraref01_groups.f (k : Nat) (a0 : Int) : Option (List Int) := remoraref01_groups.l0 k a0 ([] : List Int)
set_option maxHeartbeats 8000000 in
set_option maxRecDepth 100000 in
theorem remoraref01_groups.calls (k : Nat) (a0 : Int) (r : List Int) (w : World) (h : remoraref01_groups.f k a0 = some r) :
    Calls Tryd.prog 61 #[.int .i64 a0] w fun e w' => ∃ v0_ : Value, e = .returned (v0_) ∧ Kd.R (Kd.int .u8) 5 w' w.heap.size (fun _ => True) v0_ r ∧ Below w.heap.size w w' := by
  have HB := Aside0.mk (Below.refl w.heap.size w)
  have H : (remoraref01_groups.l0 k a0 ([] : List Int)) = some r := h
  clear h
  have H' := Aside0.mk H
  clear H
  go_enter Tryd.func61, Tryd.ntmps61
  go_wp2
  go_loopg [0, 3] k (fun kq v0 v3 w' => ∃ (x0_1 : Int) (x3_1 : List Int), v0 = .int .i64 x0_1 ∧ Aside0 (remoraref01_groups.l0 kq x0_1 x3_1 = some r) ∧ Aside0 (kq ≤ k) ∧ Aside0 (Kd.R (Kd.int .u8) 5 w' w.heap.size (fun _ => True) v3 x3_1) ∧ Aside0 (Below w.heap.size w w'))
  case atStart => exact ⟨(a0), (([] : List Int)), (by first | rfl | (simp; done) | (simp [*]; done)), H', ⟨Nat.le_refl _⟩, ⟨by first | exact Kd.R_nil _ _ _ _ _ | exact Kd.N_nil _ _ _ _ _ | exact Kd.V_nil _ _ _ _ _ | exact Kd.Q_nil _ _ _ _ _ | exact Kd.S_nil _ _ _ _ _⟩, ⟨by repeat (first | (with_reducible first | exact HB.out | apply below_alloc | apply pw_below_drewN | apply below_drew1) | exact HB.out)⟩⟩
  case round =>
    clear H'
    obtain ⟨x0_1, x3_1, rfl, HA, HK1, HO_3, HB⟩ := hrel
    cases gk with
    | zero => exact absurd HA.out (by simp [remoraref01_groups.l0])
    | succ k1 =>
      have H := HA.out
      clear HA
      simp only [remoraref01_groups.l0] at H
      by_cases c2 : x0_1 > 127
      · rw [if_pos c2] at H
        have c2b0 : decide (127 < x0_1) = true := decide_eq_true c2
        clear c2
        by_cases c3 : x3_1.length < 140737488355328
        · rw [if_pos c3] at H
          have LMc3 := Aside0.mk c3
          clear c3
          obtain ⟨y208, hy208⟩ : ∃ y_ : List Int, y_ = (x3_1 ++ [(wrap64 (128 + (Int.tmod x0_1 128))) % 256]) := ⟨_, rfl⟩
          replace H : (remoraref01_groups.l0 k1 (wrap64 (Int.tdiv x0_1 128)) y208) = some r := by first | (rw [hy208]; with_reducible exact H) | (have H2_ := (Option.bind_some _ _).symm.trans H; rw [hy208]; with_reducible exact H2_) | (have H2_ := (Option.bind_some _ _).symm.trans H; with_reducible exact H2_) | with_reducible exact H | (rw [hy208]; exact H) | exact H
          have Ny208 := Aside0.mk hy208
          clear hy208
          have H' := Aside0.mk H
          clear H
          go_wp2_with (first | ((with_reducible refine gate_builtin (b := .append) (xs := #[.tmp 6, .tmp 11]) rfl ?_); at_builtin; refine Kd.R_append (Kd.int .u8) (w0 := w) w.heap.size rfl (.tmp 6) (.tmp 11) 41 5 (.int .u8 0) 1 rfl Tryd.underlying41 info5 rfl (by decide) (by omega) u3 x3_1 ((wrap64 (128 + (Int.tmod x0_1 128))) % 256) [.int .u8 ((wrap64 (128 + (Int.tmod x0_1 128))) % 256)] (fun _ => True) (fun _ => False) rfl rfl ?aP (fun _ hk => hk.elim) ?aF ?aO ?aB ?aS ?aL ?_; (case aP => exact rfl); (case aB => exact (by repeat (first | (with_reducible first | exact HB.out | apply below_alloc | apply pw_below_drewN | apply below_drew1) | exact HB.out))); (case aF => exact (fun _ _ => trivial)); (case aO => exact (by (with_reducible repeat (first | apply Kd.R_alloc | apply Kd.R_drewN | apply Kd.R_drew)); exact HO_3.out)); (case aS => exact (below_size (by repeat (first | (with_reducible first | exact HB.out | apply below_alloc | apply pw_below_drewN | apply below_drew1) | exact HB.out)))); (case aL => have := LMc3.out; omega); intro v209 w4 ho hb hg hat; rw [← Ny208.out] at ho; have n0_ := Aside0.mk (hb); have n1_ := Aside0.mk (ho); clear HB; clear HO_3; have HB := n0_; have HO210 := n1_; clear n0_ n1_; clear ho hb hg hat))
          go_roundg k1
          case measure => have := HK1.out; omega
          case rel => exact ⟨(wrap64 (Int.tdiv x0_1 128)), (y208), (by first | rfl | (simp; done) | (simp [*]; done)), H', ⟨by have := HK1.out; omega⟩, ⟨by (with_reducible repeat (first | apply Kd.R_alloc | apply Kd.R_drewN | apply Kd.R_drew)); exact HO210.out⟩, ⟨by repeat (first | (with_reducible first | exact HB.out | apply below_alloc | apply pw_below_drewN | apply below_drew1) | exact HB.out)⟩⟩
        · rw [if_neg c3] at H
          exact absurd H (by simp)
      · rw [if_neg c2] at H
        have c2b0 : decide (127 < x0_1) = false := decide_eq_false c2
        clear c2
        by_cases c5 : x3_1.length < 140737488355328
        · rw [if_pos c5] at H
          have LMc5 := Aside0.mk c5
          clear c5
          obtain ⟨y211, hy211⟩ : ∃ y_ : List Int, y_ = (x3_1 ++ [(x0_1) % 256]) := ⟨_, rfl⟩
          replace H : (some y211) = some r := by first | (rw [hy211]; with_reducible exact H) | (have H2_ := (Option.bind_some _ _).symm.trans H; rw [hy211]; with_reducible exact H2_) | (have H2_ := (Option.bind_some _ _).symm.trans H; with_reducible exact H2_) | with_reducible exact H | (rw [hy211]; exact H) | exact H
          have Ny211 := Aside0.mk hy211
          clear hy211
          obtain rfl := Option.some.inj H
          go_wp2_with (first | ((with_reducible refine gate_builtin (b := .append) (xs := #[.tmp 15, .tmp 18]) rfl ?_); at_builtin; refine Kd.R_append (Kd.int .u8) (w0 := w) w.heap.size rfl (.tmp 15) (.tmp 18) 41 5 (.int .u8 0) 1 rfl Tryd.underlying41 info5 rfl (by decide) (by omega) u3 x3_1 ((x0_1) % 256) [.int .u8 ((x0_1) % 256)] (fun _ => True) (fun _ => False) rfl rfl ?aP (fun _ hk => hk.elim) ?aF ?aO ?aB ?aS ?aL ?_; (case aP => exact rfl); (case aB => exact (by repeat (first | (with_reducible first | exact HB.out | apply below_alloc | apply pw_below_drewN | apply below_drew1) | exact HB.out))); (case aF => exact (fun _ _ => trivial)); (case aO => exact (by (with_reducible repeat (first | apply Kd.R_alloc | apply Kd.R_drewN | apply Kd.R_drew)); exact HO_3.out)); (case aS => exact (below_size (by repeat (first | (with_reducible first | exact HB.out | apply below_alloc | apply pw_below_drewN | apply below_drew1) | exact HB.out)))); (case aL => have := LMc5.out; omega); intro v212 w6 ho hb hg hat; rw [← Ny211.out] at ho; have n0_ := Aside0.mk (hb); have n1_ := Aside0.mk (ho); clear HB; clear HO_3; have HB := n0_; have HO213 := n1_; clear n0_ n1_; clear ho hb hg hat))
          go_ret
          exact ⟨_, by first | rfl | (simp [errW_none, errW_some] <;> rfl) | (simp [*, errW_none, errW_some] <;> rfl), by (with_reducible repeat (first | apply Kd.R_alloc | apply Kd.R_drewN | apply Kd.R_drew)); exact HO213.out, by repeat (first | (with_reducible first | exact HB.out | apply below_alloc | apply pw_below_drewN | apply below_drew1) | exact HB.out)⟩
        · rw [if_neg c5] at H
          exact absurd H (by simp)

/-! ### remoraref01_held: function 62 -/
def remoraref01_held.f (a0 : Int) (a1 : Int) (a2 : Int) : Option (Int) := if a0 < a1 then (some a1) else (if a0 > a2 then (some a2) else (some a0))
set_option maxHeartbeats 8000000 in
set_option maxRecDepth 100000 in
theorem remoraref01_held.calls (a0 : Int) (a1 : Int) (a2 : Int) (r : Int) (w : World) (h : remoraref01_held.f a0 a1 a2 = some r) :
    Calls Tryd.prog 62 #[.int .i64 a0, .int .i64 a1, .int .i64 a2] w fun e w' => e = .returned (.int .i64 r) ∧ Drawn0 w w' := by
  have H : (if a0 < a1 then (some a1) else (if a0 > a2 then (some a2) else (some a0))) = some r := h
  clear h
  by_cases c4 : a0 < a1
  · rw [if_pos c4] at H
    have c4b0 : decide (a0 < a1) = true := decide_eq_true c4
    clear c4
    obtain rfl := Option.some.inj H
    go_enter Tryd.func62, Tryd.ntmps62
    go_wp2
    go_ret
    exact ⟨by first | rfl | (simp; done) | (simp [*]; done), by repeat (first | exact Drawn0.refl _ | apply Drawn0.step)⟩
  · rw [if_neg c4] at H
    have c4b0 : decide (a0 < a1) = false := decide_eq_false c4
    clear c4
    by_cases c5 : a0 > a2
    · rw [if_pos c5] at H
      have c5b0 : decide (a2 < a0) = true := decide_eq_true c5
      clear c5
      obtain rfl := Option.some.inj H
      go_enter Tryd.func62, Tryd.ntmps62
      go_wp2
      go_ret
      exact ⟨by first | rfl | (simp; done) | (simp [*]; done), by repeat (first | exact Drawn0.refl _ | apply Drawn0.step)⟩
    · rw [if_neg c5] at H
      have c5b0 : decide (a2 < a0) = false := decide_eq_false c5
      clear c5
      obtain rfl := Option.some.inj H
      go_enter Tryd.func62, Tryd.ntmps62
      go_wp2
      go_ret
      exact ⟨by first | rfl | (simp; done) | (simp [*]; done), by repeat (first | exact Drawn0.refl _ | apply Drawn0.step)⟩

/-! ### remoraref01_Put: function 34 -/
def remoraref01_Put.f (k : Nat) (l0 : List Int) (a1 : Int) : Option (List Int) := (remoraref01_held.f a1 0 4611686018427387903).bind fun t214 => ((remoraref01_groups.f k t214).bind fun t215 => ((remoraref01_behind.f l0 t215).bind fun t218 => (some t218)))
set_option maxHeartbeats 8000000 in
set_option maxRecDepth 100000 in
theorem remoraref01_Put.calls (k : Nat) (A0 : Option Addr) (c0 : Nat) (l0 : List Int) (a1 : Int) (r : List Int) (w : World) (hr0 : Kd.C (Kd.int .u8) w A0 l0.length l0) (hc0 : l0.length ≤ c0) (h : remoraref01_Put.f k l0 a1 = some r) :
    Calls Tryd.prog 34 #[.slice A0 l0.length c0, .int .i64 a1] w fun e w' => ∃ v0_ : Value, e = .returned (v0_) ∧ Kd.R (Kd.int .u8) 5 w' w.heap.size (fun _ => True) v0_ r ∧ Below w.heap.size w w' := by
  have HR0 := Aside0.mk hr0
  have HC0 := Aside0.mk hc0
  clear hr0 hc0
  have HB := Aside0.mk (Below.refl w.heap.size w)
  have H : ((remoraref01_held.f a1 0 4611686018427387903).bind fun t214 => ((remoraref01_groups.f k t214).bind fun t215 => ((remoraref01_behind.f l0 t215).bind fun t218 => (some t218)))) = some r := h
  clear h
  replace H := Option.bind_eq_some_iff.mp H
  obtain ⟨t214, A30, H⟩ := H
  replace H : ((remoraref01_groups.f k t214).bind fun t215 => ((remoraref01_behind.f l0 t215).bind fun t218 => (some t218))) = some r := H
  have A3 := Aside0.mk A30
  clear A30
  replace H := Option.bind_eq_some_iff.mp H
  obtain ⟨t215, A40, H⟩ := H
  replace H : ((remoraref01_behind.f l0 t215).bind fun t218 => (some t218)) = some r := H
  have A4 := Aside0.mk A40
  clear A40
  replace H := Option.bind_eq_some_iff.mp H
  obtain ⟨t218, A50, H⟩ := H
  replace H : (some t218) = some r := H
  have A5 := Aside0.mk A50
  clear A50
  obtain rfl := Option.some.inj H
  go_enter Tryd.func34, Tryd.ntmps34
  go_wp2_with (first | ((with_reducible refine gate_callee (f := 62) rfl ?_); refine goesL_ (some 7) rfl rfl Tryd.func62 (by kernel_rfl) rfl #[.int .i64 a1, .int .i64 0, .int .i64 4611686018427387903] rfl (by (try simp only [List.map_toArray, List.map_cons, List.map_nil]); first | done | rfl | (simp only [List.length_drop, List.length_take]; rfl) | (simp; done) | (simp; (repeat' apply And.intro) <;> rfl)) ?_; (with_reducible refine (remoraref01_held.calls a1 0 4611686018427387903 t214 _ A3.out).mono ?_); rintro e w' ⟨rfl, ⟨nd, rfl⟩⟩; refine ⟨_, rfl, ?_⟩) | ((with_reducible refine gate_callee (f := 61) rfl ?_); refine goesL_ (some 8) rfl rfl Tryd.func61 (by kernel_rfl) rfl #[.int .i64 t214] rfl (by (try simp only [List.map_toArray, List.map_cons, List.map_nil]); first | done | rfl | (simp only [List.length_drop, List.length_take]; rfl) | (simp; done) | (simp; (repeat' apply And.intro) <;> rfl)) ?_; (with_reducible refine (remoraref01_groups.calls k t214 t215 _ A4.out).mono ?_); rintro e w6 ⟨v216, rfl, ho0, hb⟩; refine ⟨_, rfl, ?_⟩; have n0_ := Aside0.mk (Kd.R_lower ho0 (below_size (by repeat (first | (with_reducible first | exact HB.out | apply below_alloc | apply pw_below_drewN | apply below_drew1) | exact HB.out)))); have n1_ := Aside0.mk (below_step (by repeat (first | (with_reducible first | exact HB.out | apply below_alloc | apply pw_below_drewN | apply below_drew1) | exact HB.out)) hb); clear HB; have HO217 := n0_; have HB := n1_; clear n0_ n1_; (try clear hb); (try clear hb2); (try clear hk); (try clear hi); (try clear ho0); obtain ⟨Ao7, co7, eo7⟩ := Kd.R_slice HO217.out; subst eo7) | ((with_reducible refine gate_callee (f := 60) rfl ?_); refine goesL_ (some 9) rfl rfl Tryd.func60 (by kernel_rfl) rfl #[.slice A0 l0.length c0, .slice Ao7 t215.length co7] rfl (by (try simp only [List.map_toArray, List.map_cons, List.map_nil]); first | done | rfl | (simp only [List.length_drop, List.length_take]; rfl) | (simp; done) | (simp; (repeat' apply And.intro) <;> rfl)) ?_; (with_reducible refine (remoraref01_behind.calls _ _ l0 _ _ t215 t218 _ ?side1 ?side2 ?side3 ?side4 A5.out).mono ?_); (case side1 => repeat (first | exact (Kd.C_below HR0.out HB.out) | (with_reducible refine Kd.C_alloc ?_ _) | (with_reducible refine Kd.C_drewN ?_ _) | (with_reducible refine Kd.C_drew ?_))); (case side2 => exact HC0.out); (case side3 => repeat (first | exact (Kd.R_reads' HO217.out).2.2 | (with_reducible refine Kd.C_alloc ?_ _) | (with_reducible refine Kd.C_drewN ?_ _) | (with_reducible refine Kd.C_drew ?_))); (case side4 => exact (Kd.R_reads' HO217.out).2.1); rintro e w8 ⟨v219, rfl, ho0, hb⟩; refine ⟨_, rfl, ?_⟩; have n0_ := Aside0.mk (Kd.R_elder' (by (with_reducible repeat (first | apply Kd.R_alloc | apply Kd.R_drewN | apply Kd.R_drew)); exact HO217.out) (Kd.R_base ho0) hb); have n1_ := Aside0.mk (Kd.R_lower (Kd.R_new' ho0 (Kd.R_lt (by (with_reducible repeat (first | apply Kd.R_alloc | apply Kd.R_drewN | apply Kd.R_drew)); exact HO217.out))) (below_size (by repeat (first | (with_reducible first | exact HB.out | apply below_alloc | apply pw_below_drewN | apply below_drew1) | exact HB.out)))); have n2_ := Aside0.mk (below_step (by repeat (first | (with_reducible first | exact HB.out | apply below_alloc | apply pw_below_drewN | apply below_drew1) | exact HB.out)) hb); clear HO217; clear HB; have HO217 := n0_; have HO220 := n1_; have HB := n2_; clear n0_ n1_ n2_; (try clear hb); (try clear hb2); (try clear hk); (try clear hi); (try clear ho0)))
  go_ret
  exact ⟨_, by first | rfl | (simp [errW_none, errW_some] <;> rfl) | (simp [*, errW_none, errW_some] <;> rfl), by (with_reducible repeat (first | apply Kd.R_alloc | apply Kd.R_drewN | apply Kd.R_drew)); exact Kd.R_mono HO220.out (fun _ hk => trivial), by repeat (first | (with_reducible first | exact HB.out | apply below_alloc | apply pw_below_drewN | apply below_drew1) | exact HB.out)⟩

/-! ### remoraref01_PutText: function 35, a contract of my own -/
def remoraref01_PutText.f (k : Nat) (l0 : List Int) (a1 : ByteArray) : Option (List Int) :=
  if a1.size ≤ 140737488351232 then (remoraref01_Put.f k l0 (a1.size : Int)).bind fun t => remoraref01_behind.f t (bytesOf a1) else none
set_option maxHeartbeats 1000000 in
theorem remoraref01_PutText.calls (k : Nat) (A0 : Option Addr) (c0 : Nat) (l0 : List Int) (a1 : ByteArray) (r : List Int) (w : World) (hr0 : Kd.C (Kd.int .u8) w A0 l0.length l0) (hc0 : l0.length ≤ c0) (h : remoraref01_PutText.f k l0 a1 = some r) :
    Calls Tryd.prog 35 #[.slice A0 l0.length c0, .string a1] w fun e w' => ∃ v0_ : Value, e = .returned (v0_) ∧ Kd.R (Kd.int .u8) 5 w' w.heap.size (fun _ => True) v0_ r ∧ Below w.heap.size w w' := by
  have HR0 := Aside0.mk hr0
  have HC0 := Aside0.mk hc0
  clear hr0 hc0
  unfold remoraref01_PutText.f at h
  by_cases hs : a1.size ≤ 140737488351232
  · rw [if_pos hs] at h
    obtain ⟨t, hp, h⟩ := Option.bind_eq_some_iff.mp h
    have HP := Aside0.mk hp
    have HH := Aside0.mk h
    have HS := Aside0.mk hs
    clear hp h hs
    have kb := fun W => print_bytes (P := Tryd.prog) 9 41 5 Tryd.underlying9 Tryd.underlying41 Tryd.underlying5 a1 W
    go_enter Tryd.func35, Tryd.ntmps35
    go_wp2_with fail
    refine (remoraref01_Put.calls k _ _ l0 _ t _ HR0.out HC0.out HP.out).mono ?_
    rintro e w1 ⟨v1, rfl, ho, hb⟩
    obtain ⟨A1, c1, e1⟩ := Kd.R_slice ho
    subst e1
    have HO := Aside0.mk ho
    have HB := Aside0.mk hb
    clear ho hb
    go_wp2_with fail
    have hB := Kd.C_bytes_u8 w1 5 a1 (by have := HS.out; omega)
    have hb2 : Below w1.heap.size w1 (Lib.bytesWorld w1 5 a1) := bytes_below (Below.refl _ _) (Nat.le_refl _) _ _
    have hcall := remoraref01_behind.calls A1 c1 t (some ⟨w1.heap.size, 0, none⟩) (grownCap w1 a1.size 0 5) (bytesOf a1) r (Lib.bytesWorld w1 5 a1) (Kd.C_below (Kd.R_reads' HO.out).2.2 hb2) (Kd.R_reads' HO.out).2.1 hB (by rw [bytesOf_length]; exact grownCap_ge _ _ _ _) HH.out
    rw [bytesOf_length] at hcall
    refine hcall.mono ?_
    rintro e w2 ⟨v2, rfl, ho2, hb3⟩
    have HB2 := Aside0.mk (below_step (below_step HB.out hb2) hb3)
    have HO2 := Aside0.mk (Kd.R_lower ho2 (below_size (below_step HB.out hb2)))
    clear ho2 hb3 hB hb2 hcall kb
    go_wp2
    go_ret
    exact ⟨_, rfl, HO2.out, HB2.out⟩
  · rw [if_neg hs] at h
    cases h
/-! ### remoraref01_PutInt: function 36 -/
def remoraref01_PutInt.f (k : Nat) (l0 : List Int) (a1 : Int) : Option (List Int) := (remoraref01_held.f a1 (-2305843009213693952) 2305843009213693951).bind fun t221 => (if t221 < 0 then ((remoraref01_groups.f k (wrap64 ((wrap64 (2 * (wrap64 (-(wrap64 (t221 + 1)))))) + 1))).bind fun t222 => ((remoraref01_behind.f l0 t222).bind fun t225 => (some t225))) else ((remoraref01_groups.f k (wrap64 (2 * t221))).bind fun t228 => ((remoraref01_behind.f l0 t228).bind fun t231 => (some t231))))
set_option maxHeartbeats 8000000 in
set_option maxRecDepth 100000 in
theorem remoraref01_PutInt.calls (k : Nat) (A0 : Option Addr) (c0 : Nat) (l0 : List Int) (a1 : Int) (r : List Int) (w : World) (hr0 : Kd.C (Kd.int .u8) w A0 l0.length l0) (hc0 : l0.length ≤ c0) (h : remoraref01_PutInt.f k l0 a1 = some r) :
    Calls Tryd.prog 36 #[.slice A0 l0.length c0, .int .i64 a1] w fun e w' => ∃ v0_ : Value, e = .returned (v0_) ∧ Kd.R (Kd.int .u8) 5 w' w.heap.size (fun _ => True) v0_ r ∧ Below w.heap.size w w' := by
  have HR0 := Aside0.mk hr0
  have HC0 := Aside0.mk hc0
  clear hr0 hc0
  have HB := Aside0.mk (Below.refl w.heap.size w)
  have H : ((remoraref01_held.f a1 (-2305843009213693952) 2305843009213693951).bind fun t221 => (if t221 < 0 then ((remoraref01_groups.f k (wrap64 ((wrap64 (2 * (wrap64 (-(wrap64 (t221 + 1)))))) + 1))).bind fun t222 => ((remoraref01_behind.f l0 t222).bind fun t225 => (some t225))) else ((remoraref01_groups.f k (wrap64 (2 * t221))).bind fun t228 => ((remoraref01_behind.f l0 t228).bind fun t231 => (some t231))))) = some r := h
  clear h
  replace H := Option.bind_eq_some_iff.mp H
  obtain ⟨t221, A30, H⟩ := H
  replace H : (if t221 < 0 then ((remoraref01_groups.f k (wrap64 ((wrap64 (2 * (wrap64 (-(wrap64 (t221 + 1)))))) + 1))).bind fun t222 => ((remoraref01_behind.f l0 t222).bind fun t225 => (some t225))) else ((remoraref01_groups.f k (wrap64 (2 * t221))).bind fun t228 => ((remoraref01_behind.f l0 t228).bind fun t231 => (some t231)))) = some r := H
  have A3 := Aside0.mk A30
  clear A30
  by_cases c4 : t221 < 0
  · rw [if_pos c4] at H
    have c4b0 : decide (t221 < 0) = true := decide_eq_true c4
    clear c4
    replace H := Option.bind_eq_some_iff.mp H
    obtain ⟨t222, A50, H⟩ := H
    replace H : ((remoraref01_behind.f l0 t222).bind fun t225 => (some t225)) = some r := H
    have A5 := Aside0.mk A50
    clear A50
    replace H := Option.bind_eq_some_iff.mp H
    obtain ⟨t225, A60, H⟩ := H
    replace H : (some t225) = some r := H
    have A6 := Aside0.mk A60
    clear A60
    obtain rfl := Option.some.inj H
    go_enter Tryd.func36, Tryd.ntmps36
    go_wp2_with (first | ((with_reducible refine gate_callee (f := 62) rfl ?_); refine goesL_ (some 6) rfl rfl Tryd.func62 (by kernel_rfl) rfl #[.int .i64 a1, .int .i64 (-2305843009213693952), .int .i64 2305843009213693951] rfl (by (try simp only [List.map_toArray, List.map_cons, List.map_nil]); first | done | rfl | (simp only [List.length_drop, List.length_take]; rfl) | (simp; done) | (simp; (repeat' apply And.intro) <;> rfl)) ?_; (with_reducible refine (remoraref01_held.calls a1 (-2305843009213693952) 2305843009213693951 t221 _ A3.out).mono ?_); rintro e w' ⟨rfl, ⟨nd, rfl⟩⟩; refine ⟨_, rfl, ?_⟩) | ((with_reducible refine gate_callee (f := 61) rfl ?_); refine goesL_ (some 15) rfl rfl Tryd.func61 (by kernel_rfl) rfl #[.int .i64 (wrap64 ((wrap64 (2 * (wrap64 (-(wrap64 (t221 + 1)))))) + 1))] rfl (by (try simp only [List.map_toArray, List.map_cons, List.map_nil]); first | done | rfl | (simp only [List.length_drop, List.length_take]; rfl) | (simp; done) | (simp; (repeat' apply And.intro) <;> rfl)) ?_; (with_reducible refine (remoraref01_groups.calls k (wrap64 ((wrap64 (2 * (wrap64 (-(wrap64 (t221 + 1)))))) + 1)) t222 _ A5.out).mono ?_); rintro e w7 ⟨v223, rfl, ho0, hb⟩; refine ⟨_, rfl, ?_⟩; have n0_ := Aside0.mk (Kd.R_lower ho0 (below_size (by repeat (first | (with_reducible first | exact HB.out | apply below_alloc | apply pw_below_drewN | apply below_drew1) | exact HB.out)))); have n1_ := Aside0.mk (below_step (by repeat (first | (with_reducible first | exact HB.out | apply below_alloc | apply pw_below_drewN | apply below_drew1) | exact HB.out)) hb); clear HB; have HO224 := n0_; have HB := n1_; clear n0_ n1_; (try clear hb); (try clear hb2); (try clear hk); (try clear hi); (try clear ho0); obtain ⟨Ao8, co8, eo8⟩ := Kd.R_slice HO224.out; subst eo8) | ((with_reducible refine gate_callee (f := 60) rfl ?_); refine goesL_ (some 16) rfl rfl Tryd.func60 (by kernel_rfl) rfl #[.slice A0 l0.length c0, .slice Ao8 t222.length co8] rfl (by (try simp only [List.map_toArray, List.map_cons, List.map_nil]); first | done | rfl | (simp only [List.length_drop, List.length_take]; rfl) | (simp; done) | (simp; (repeat' apply And.intro) <;> rfl)) ?_; (with_reducible refine (remoraref01_behind.calls _ _ l0 _ _ t222 t225 _ ?side1 ?side2 ?side3 ?side4 A6.out).mono ?_); (case side1 => repeat (first | exact (Kd.C_below HR0.out HB.out) | (with_reducible refine Kd.C_alloc ?_ _) | (with_reducible refine Kd.C_drewN ?_ _) | (with_reducible refine Kd.C_drew ?_))); (case side2 => exact HC0.out); (case side3 => repeat (first | exact (Kd.R_reads' HO224.out).2.2 | (with_reducible refine Kd.C_alloc ?_ _) | (with_reducible refine Kd.C_drewN ?_ _) | (with_reducible refine Kd.C_drew ?_))); (case side4 => exact (Kd.R_reads' HO224.out).2.1); rintro e w9 ⟨v226, rfl, ho0, hb⟩; refine ⟨_, rfl, ?_⟩; have n0_ := Aside0.mk (Kd.R_elder' (by (with_reducible repeat (first | apply Kd.R_alloc | apply Kd.R_drewN | apply Kd.R_drew)); exact HO224.out) (Kd.R_base ho0) hb); have n1_ := Aside0.mk (Kd.R_lower (Kd.R_new' ho0 (Kd.R_lt (by (with_reducible repeat (first | apply Kd.R_alloc | apply Kd.R_drewN | apply Kd.R_drew)); exact HO224.out))) (below_size (by repeat (first | (with_reducible first | exact HB.out | apply below_alloc | apply pw_below_drewN | apply below_drew1) | exact HB.out)))); have n2_ := Aside0.mk (below_step (by repeat (first | (with_reducible first | exact HB.out | apply below_alloc | apply pw_below_drewN | apply below_drew1) | exact HB.out)) hb); clear HO224; clear HB; have HO224 := n0_; have HO227 := n1_; have HB := n2_; clear n0_ n1_ n2_; (try clear hb); (try clear hb2); (try clear hk); (try clear hi); (try clear ho0)))
    go_ret
    exact ⟨_, by first | rfl | (simp [errW_none, errW_some] <;> rfl) | (simp [*, errW_none, errW_some] <;> rfl), by (with_reducible repeat (first | apply Kd.R_alloc | apply Kd.R_drewN | apply Kd.R_drew)); exact Kd.R_mono HO227.out (fun _ hk => trivial), by repeat (first | (with_reducible first | exact HB.out | apply below_alloc | apply pw_below_drewN | apply below_drew1) | exact HB.out)⟩
  · rw [if_neg c4] at H
    have c4b0 : decide (t221 < 0) = false := decide_eq_false c4
    clear c4
    replace H := Option.bind_eq_some_iff.mp H
    obtain ⟨t228, A100, H⟩ := H
    replace H : ((remoraref01_behind.f l0 t228).bind fun t231 => (some t231)) = some r := H
    have A10 := Aside0.mk A100
    clear A100
    replace H := Option.bind_eq_some_iff.mp H
    obtain ⟨t231, A110, H⟩ := H
    replace H : (some t231) = some r := H
    have A11 := Aside0.mk A110
    clear A110
    obtain rfl := Option.some.inj H
    go_enter Tryd.func36, Tryd.ntmps36
    go_wp2_with (first | ((with_reducible refine gate_callee (f := 62) rfl ?_); refine goesL_ (some 6) rfl rfl Tryd.func62 (by kernel_rfl) rfl #[.int .i64 a1, .int .i64 (-2305843009213693952), .int .i64 2305843009213693951] rfl (by (try simp only [List.map_toArray, List.map_cons, List.map_nil]); first | done | rfl | (simp only [List.length_drop, List.length_take]; rfl) | (simp; done) | (simp; (repeat' apply And.intro) <;> rfl)) ?_; (with_reducible refine (remoraref01_held.calls a1 (-2305843009213693952) 2305843009213693951 t221 _ A3.out).mono ?_); rintro e w' ⟨rfl, ⟨nd, rfl⟩⟩; refine ⟨_, rfl, ?_⟩) | ((with_reducible refine gate_callee (f := 61) rfl ?_); refine goesL_ (some 20) rfl rfl Tryd.func61 (by kernel_rfl) rfl #[.int .i64 (wrap64 (2 * t221))] rfl (by (try simp only [List.map_toArray, List.map_cons, List.map_nil]); first | done | rfl | (simp only [List.length_drop, List.length_take]; rfl) | (simp; done) | (simp; (repeat' apply And.intro) <;> rfl)) ?_; (with_reducible refine (remoraref01_groups.calls k (wrap64 (2 * t221)) t228 _ A10.out).mono ?_); rintro e w12 ⟨v229, rfl, ho0, hb⟩; refine ⟨_, rfl, ?_⟩; have n0_ := Aside0.mk (Kd.R_lower ho0 (below_size (by repeat (first | (with_reducible first | exact HB.out | apply below_alloc | apply pw_below_drewN | apply below_drew1) | exact HB.out)))); have n1_ := Aside0.mk (below_step (by repeat (first | (with_reducible first | exact HB.out | apply below_alloc | apply pw_below_drewN | apply below_drew1) | exact HB.out)) hb); clear HB; have HO230 := n0_; have HB := n1_; clear n0_ n1_; (try clear hb); (try clear hb2); (try clear hk); (try clear hi); (try clear ho0); obtain ⟨Ao13, co13, eo13⟩ := Kd.R_slice HO230.out; subst eo13) | ((with_reducible refine gate_callee (f := 60) rfl ?_); refine goesL_ (some 21) rfl rfl Tryd.func60 (by kernel_rfl) rfl #[.slice A0 l0.length c0, .slice Ao13 t228.length co13] rfl (by (try simp only [List.map_toArray, List.map_cons, List.map_nil]); first | done | rfl | (simp only [List.length_drop, List.length_take]; rfl) | (simp; done) | (simp; (repeat' apply And.intro) <;> rfl)) ?_; (with_reducible refine (remoraref01_behind.calls _ _ l0 _ _ t228 t231 _ ?side1 ?side2 ?side3 ?side4 A11.out).mono ?_); (case side1 => repeat (first | exact (Kd.C_below HR0.out HB.out) | (with_reducible refine Kd.C_alloc ?_ _) | (with_reducible refine Kd.C_drewN ?_ _) | (with_reducible refine Kd.C_drew ?_))); (case side2 => exact HC0.out); (case side3 => repeat (first | exact (Kd.R_reads' HO230.out).2.2 | (with_reducible refine Kd.C_alloc ?_ _) | (with_reducible refine Kd.C_drewN ?_ _) | (with_reducible refine Kd.C_drew ?_))); (case side4 => exact (Kd.R_reads' HO230.out).2.1); rintro e w14 ⟨v232, rfl, ho0, hb⟩; refine ⟨_, rfl, ?_⟩; have n0_ := Aside0.mk (Kd.R_elder' (by (with_reducible repeat (first | apply Kd.R_alloc | apply Kd.R_drewN | apply Kd.R_drew)); exact HO230.out) (Kd.R_base ho0) hb); have n1_ := Aside0.mk (Kd.R_lower (Kd.R_new' ho0 (Kd.R_lt (by (with_reducible repeat (first | apply Kd.R_alloc | apply Kd.R_drewN | apply Kd.R_drew)); exact HO230.out))) (below_size (by repeat (first | (with_reducible first | exact HB.out | apply below_alloc | apply pw_below_drewN | apply below_drew1) | exact HB.out)))); have n2_ := Aside0.mk (below_step (by repeat (first | (with_reducible first | exact HB.out | apply below_alloc | apply pw_below_drewN | apply below_drew1) | exact HB.out)) hb); clear HO230; clear HB; have HO230 := n0_; have HO233 := n1_; have HB := n2_; clear n0_ n1_ n2_; (try clear hb); (try clear hb2); (try clear hk); (try clear hi); (try clear ho0)))
    go_ret
    exact ⟨_, by first | rfl | (simp [errW_none, errW_some] <;> rfl) | (simp [*, errW_none, errW_some] <;> rfl), by (with_reducible repeat (first | apply Kd.R_alloc | apply Kd.R_drewN | apply Kd.R_drew)); exact Kd.R_mono HO233.out (fun _ hk => trivial), by repeat (first | (with_reducible first | exact HB.out | apply below_alloc | apply pw_below_drewN | apply below_drew1) | exact HB.out)⟩

/-! ### remoraref33_Ledger_Bytes: function 14, a contract of my own -/
def refLine (k : Nat) (b : List Int) (x : Ln) : Option (List Int) :=
  (remoraref01_PutText.f k b x.path).bind fun b1 => (remoraref01_Put.f k b1 x.ino).bind fun b2 => (remoraref01_Put.f k b2 x.size).bind fun b3 => (remoraref01_PutInt.f k b3 x.sec).bind fun b4 => (remoraref01_Put.f k b4 x.nano).bind fun b5 =>
    if b5.length + x.sum.size ≤ 140737488355328 then some (b5 ++ bytesOf x.sum) else none
def refLines (k : Nat) : List Int → List Ln → Option (List Int)
  | b, [] => some b
  | b, x :: S => (refLine k b x).bind fun b' => refLines k b' S
def refBytesF (k : Nat) (S : List Ln) : Option (List Int) := (remoraref01_Put.f k [] S.length).bind fun b => (refLines k b S).bind fun r => remoraref02_Seal.f k r
theorem refLine_some {k : Nat} {b r : List Int} {x : Ln} (h : refLine k b x = some r) : ∃ b1 b2 b3 b4 b5, remoraref01_PutText.f k b x.path = some b1 ∧ remoraref01_Put.f k b1 x.ino = some b2 ∧ remoraref01_Put.f k b2 x.size = some b3 ∧ remoraref01_PutInt.f k b3 x.sec = some b4 ∧ remoraref01_Put.f k b4 x.nano = some b5 ∧ b5.length + x.sum.size ≤ 140737488355328 ∧ b5 ++ bytesOf x.sum = r := by
  unfold refLine at h
  obtain ⟨b1, h1, h⟩ := Option.bind_eq_some_iff.1 h
  obtain ⟨b2, h2, h⟩ := Option.bind_eq_some_iff.1 h
  obtain ⟨b3, h3, h⟩ := Option.bind_eq_some_iff.1 h
  obtain ⟨b4, h4, h⟩ := Option.bind_eq_some_iff.1 h
  obtain ⟨b5, h5, h⟩ := Option.bind_eq_some_iff.1 h
  split at h
  · exact ⟨b1, b2, b3, b4, b5, h1, h2, h3, h4, h5, by assumption, Option.some.inj h⟩
  · cases h
set_option maxHeartbeats 16000000 in
set_option maxRecDepth 20000 in
theorem ref_Bytes.at_ (k b0 p : Nat) (room : Int) (v : Value) (S : List Ln) (r : List Int) (w : World) (h : Rl b0 p room v S w) (hf : refBytesF k S = some r) :
    Calls Tryd.prog 14 #[.pointer (some ⟨p, 0, none⟩)] w fun e w' => ∃ v', e = .returned v' ∧ Kd.R (Kd.int .u8) 5 w' w.heap.size (fun _ => True) v' r ∧ Below w.heap.size w w' := by
  obtain ⟨l0, h0, hf⟩ := Option.bind_eq_some_iff.1 hf
  obtain ⟨l1, h1, hf⟩ := Option.bind_eq_some_iff.1 hf
  have G0 := Aside0.mk h0
  have H1 := Aside0.mk h1
  have HF := Aside0.mk hf
  have HL := Aside0.mk h
  obtain ⟨A, c, rfl, hc, hC⟩ := Kd.R_reads h.hR
  obtain ⟨m, hm⟩ : ∃ m, m = S.length := ⟨_, rfl⟩
  have hmp : (S.map ofL).length = m := by rw [hm]; exact map_len S
  rw [hmp] at hC hc h HL
  rw [← hm] at G0
  have HM := Aside0.mk (And.intro hm hmp)
  have HC := Aside0.mk hC
  have q1 := (rl_cells h.hP).2
  have HH := Aside0.mk (remoraref01_Put.calls k none 0 [] (m : Int) l0 w (Kd.C_nil _ _) (Nat.le_refl _) G0.out)
  clear h hf h0 h1 hC hc hm hmp
  go_enter Tryd.func14, Tryd.ntmps14
  go_wp2_with fail
  refine HH.out.mono ?_
  rintro e w1 ⟨v0, rfl, hR0, hb0⟩
  have HBB := Aside0.mk hb0
  have HR0 := Aside0.mk hR0
  have HL1 := Aside0.mk (HL.out.below hb0)
  clear hR0 hb0 HH q1
  go_wp2
  go_loopg [3, 4, 5] m (fun g v3 v4 v5 w' => ∃ (i : Nat) (b : List Int), g = m - i ∧ v4 = .int .i64 i ∧ Aside0 (i ≤ m) ∧ Aside0 (Kd.R (Kd.int .u8) 5 w' w.heap.size (fun _ => True) v3 b) ∧ Aside0 (refLines k b (S.drop i) = some l1) ∧ Aside0 (Below w.heap.size w w'))
  case atStart => exact ⟨0, l0, rfl, rfl, ⟨Nat.zero_le _⟩, HR0, H1, HBB⟩
  case round =>
    obtain ⟨i, b0_, rfl, rfl, HI, HR, HF1, HBW⟩ := hrel
    have HLw := Aside0.mk (HL.out.below HBW.out)
    have q1 := (rl_cells HLw.out.hP).2
    by_cases c1 : i < m
    rotate_left
    · have e1 : decide ((i : Int) < (m : Int)) = false := decide_eq_false (by omega)
      have e1' : decide (i < m) = false := decide_eq_false c1
      have e1n : (i < m) = False := eq_false c1
      have e1i : ((i : Int) < (m : Int)) = False := eq_false (by omega)
      have hF1 := HF1.out
      rw [List.drop_eq_nil_of_le (by have := HM.out.1; omega)] at hF1
      obtain rfl : b0_ = l1 := Option.some.inj hF1
      obtain ⟨A3, c3, rfl, hc3, hC3⟩ := Kd.R_reads HR.out
      have HSe := Aside0.mk (remoraref02_Seal.calls k (fun k_ => some k_ = (.slice A3 b0_.length c3 : Value).ownBlock) A3 c3 b0_ r wr (Kd.R_V (Kd.R_tight rfl HR.out)) HF.out)
      clear c1 hF1 hc3 hC3 HF1
      go_wp2_with fail
      refine HSe.out.mono ?_
      rintro e w9 ⟨v9, rfl, hR9, hb9⟩
      have HR9 := Aside0.mk (Kd.R_mono (Kd.R_lower hR9 HBW.out.size) (fun _ _ => trivial))
      have HB9 := Aside0.mk (ld_step HBW.out hb9)
      clear hR9 hb9 HSe
      go_wp2
      go_ret
      exact ⟨_, rfl, HR9.out, HB9.out⟩
    have e1 : decide ((i : Int) < (m : Int)) = true := decide_eq_true (by omega)
    have e1' : decide (i < m) = true := decide_eq_true c1
    have e1n : (i < m) = True := eq_true c1
    have e1i : ((i : Int) < (m : Int)) = True := eq_true (by omega)
    have hi0 : (0 ≤ (i : Int)) = True := eq_true (by omega)
    have hadd : wrap64 ((i : Int) + 1) = ((i + 1 : Nat) : Int) := by have := HM.out.1; have := HL.out.hl; unfold wrap64; omega
    obtain ⟨x, hx⟩ : ∃ x, S[i]? = some x := ⟨_, List.getElem?_eq_getElem (show i < S.length by have := HM.out.1; omega)⟩
    have hF1 := HF1.out
    rw [List.drop_eq_getElem_cons (show i < S.length by have := HM.out.1; omega), show S[i]'(by have := HM.out.1; omega) = x from Option.some.inj ((List.getElem?_eq_getElem _).symm.trans hx)] at hF1
    obtain ⟨b6, hl1, hF2⟩ := Option.bind_eq_some_iff.1 hF1
    obtain ⟨b1, b2, b3, b4, b5, g1, g2, g3, g4, g5, g6, g7⟩ := refLine_some hl1
    have G1 := Aside0.mk g1
    have G2 := Aside0.mk g2
    have G3 := Aside0.mk g3
    have G4 := Aside0.mk g4
    have G5 := Aside0.mk g5
    have G6 := Aside0.mk g6
    have G7 := Aside0.mk g7
    have HF2 := Aside0.mk hF2
    have HX := Aside0.mk hx
    have C1 := Aside0.mk c1
    clear hF1 hl1 hF2 g1 g2 g3 g4 g5 g6 g7 HF1
    obtain ⟨ad, y, rfl, hy, d0, d1, d2, d3, d4, d5⟩ := line_at (Kd.C_below HC.out HBW.out) i c1 (by have := HM.out; omega)
    rw [hx] at hy
    obtain rfl := Option.some.inj hy
    clear hy hx c1
    obtain ⟨gx, hgx⟩ : ∃ gx, wr.heap.size = gx := ⟨_, rfl⟩
    obtain ⟨w2, hw2⟩ : ∃ w2, wr.alloc (.cells #[.string x.path, .int .i64 x.ino, .int .i64 x.size, .int .i64 x.sec, .int .i64 x.nano, .string x.sum] 71) = w2 := ⟨_, rfl⟩
    have HX2 : Aside0 (w2.heap[gx]? = some (.cells #[.string x.path, .int .i64 x.ino, .int .i64 x.size, .int .i64 x.sec, .int .i64 x.nano, .string x.sum] 71 (0, 0))) := ⟨by rw [← hw2, ← hgx]; exact blk_new wr _⟩
    have HB2 : Aside0 (Below wr.heap.size wr w2) := ⟨by rw [← hw2]; exact below_alloc (Below.refl _ _) _⟩
    have HBW2 := Aside0.mk (ld_step HBW.out HB2.out)
    have HRb := Aside0.mk (Kd.R_below HR.out HB2.out)
    obtain ⟨A0, c0, rfl, hc0, hC0⟩ := Kd.R_reads HRb.out
    have HSW2 : Aside0 (w.heap.size ≤ w2.heap.size) := ⟨HBW2.out.size⟩
    have HC0 := Aside0.mk (Kd.C_drew hC0)
    have HL0 := Aside0.mk hc0
    clear hc0 hC0
    go_wp2_with fail
    have HXd := Aside0.mk (show w2.drew.heap[gx]? = some (.cells #[.string x.path, .int .i64 x.ino, .int .i64 x.size, .int .i64 x.sec, .int .i64 x.nano, .string x.sum] 71 (0, 0)) from HX2.out)
    have HBWd : Aside0 (Below w.heap.size w w2.drew) := ⟨below_drew HBW2.out⟩
    have HSWd : Aside0 (w.heap.size ≤ w2.drew.heap.size) := HSW2
    refine start_ (n := 11) (S := fun w' => w'.cell? ⟨gx, 0, none⟩ = some (.string x.path) ∧ w'.cell? ⟨gx, 1, none⟩ = some (.int .i64 x.ino) ∧ w'.cell? ⟨gx, 2, none⟩ = some (.int .i64 x.size)) (ds := []) #[F_,F_,F_,F_,F_,F_,F_,F_,F_,F_,F_] (by kernel_rfl) rfl rfl ⟨(lx_cells (x := x) HXd.out).1, (lx_cells (x := x) HXd.out).2.1, (lx_cells (x := x) HXd.out).2.2.1⟩ (fun hHeld => ?_)
    refine pure_ (i := 0) (N := some 28) (v := ?_) (a' := ?_) #[T_,F_,F_,F_,F_,F_,F_,F_,F_,F_,F_] rfl rfl (by kernel_rfl) (fun _ _ _ h => h) (Or.inl ⟨by rfl, ?_⟩) ?_ ?_
    rotate_left
    · intro w'
      go_simp
      with_reducible rfl
    rotate_left
    · simp only [Act.put, List.setIfInBounds_toArray, List.set_cons_zero, List.set_cons_succ, i64_w, i32_w]
      rfl
    refine pure_ (i := 1) (N := some 29) (v := ?_) (a' := ?_) #[T_,T_,F_,F_,F_,F_,F_,F_,F_,F_,F_] rfl rfl (by kernel_rfl) (fun _ _ _ h => h) (Or.inl ⟨by rfl, ?_⟩) ?_ ?_
    rotate_left
    · intro w'
      go_simp
      with_reducible rfl
    rotate_left
    · simp only [Act.put, List.setIfInBounds_toArray, List.set_cons_zero, List.set_cons_succ, i64_w, i32_w]
      rfl
    refine pure_ (i := 4) (N := some 32) (v := ?_) (a' := ?_) #[T_,T_,F_,F_,T_,F_,F_,F_,F_,F_,F_] rfl rfl (by kernel_rfl) (fun _ _ _ h => h) (Or.inl ⟨by rfl, ?_⟩) ?_ ?_
    rotate_left
    · intro w'
      go_simp
      with_reducible rfl
    rotate_left
    · simp only [Act.put, List.setIfInBounds_toArray, List.set_cons_zero, List.set_cons_succ, i64_w, i32_w]
      rfl
    refine pure_ (i := 7) (N := some 35) (v := ?_) (a' := ?_) #[T_,T_,F_,F_,T_,F_,F_,T_,F_,F_,F_] rfl rfl (by kernel_rfl) (fun _ _ _ h => h) (Or.inl ⟨by rfl, ?_⟩) ?_ ?_
    rotate_left
    · intro w'
      go_simp
      with_reducible rfl
    rotate_left
    · simp only [Act.put, List.setIfInBounds_toArray, List.set_cons_zero, List.set_cons_succ, i64_w, i32_w]
      rfl
    refine take_ (i := 2) (N := some 30) (v := ?_) (a' := ?_) #[T_,T_,T_,F_,T_,F_,F_,T_,F_,F_,F_] rfl rfl (by kernel_rfl) (fun _ _ _ h => h) (Or.inl ⟨by rfl, ?_⟩) hHeld ?_ ?_
    rotate_left
    · rintro w' ⟨s0, s1, s2⟩
      go_simp
      with_reducible rfl
    rotate_left
    · simp only [Act.put, List.setIfInBounds_toArray, List.set_cons_zero, List.set_cons_succ, i64_w, i32_w]
      rfl
    refine take_ (i := 5) (N := some 33) (v := ?_) (a' := ?_) #[T_,T_,T_,F_,T_,T_,F_,T_,F_,F_,F_] rfl rfl (by kernel_rfl) (fun _ _ _ h => h) (Or.inl ⟨by rfl, ?_⟩) hHeld ?_ ?_
    rotate_left
    · rintro w' ⟨s0, s1, s2⟩
      go_simp
      with_reducible rfl
    rotate_left
    · simp only [Act.put, List.setIfInBounds_toArray, List.set_cons_zero, List.set_cons_succ, i64_w, i32_w]
      rfl
    refine take_ (i := 8) (N := some 36) (v := ?_) (a' := ?_) #[T_,T_,T_,F_,T_,T_,F_,T_,T_,F_,F_] rfl rfl (by kernel_rfl) (fun _ _ _ h => h) (Or.inl ⟨by rfl, ?_⟩) hHeld ?_ ?_
    rotate_left
    · rintro w' ⟨s0, s1, s2⟩
      go_simp
      with_reducible rfl
    rotate_left
    · simp only [Act.put, List.setIfInBounds_toArray, List.set_cons_zero, List.set_cons_succ, i64_w, i32_w]
      rfl
    refine one_ (i := 3) (N := some 31) #[T_,T_,T_,T_,T_,T_,F_,T_,T_,F_,F_] rfl rfl (by kernel_rfl) (by decide) (fun K hK => ?_)
    refine goes_ Tryd.func35 (by kernel_rfl) rfl #[.slice A0 b0_.length c0, .string x.path] (by rfl) rfl rfl (by simp only [List.map_toArray, List.map_cons, List.map_nil]; rfl) ?_
    with_reducible refine (remoraref01_PutText.calls k A0 c0 b0_ (x.path) b1 w2.drew (HC0.out) (HL0.out) G1.out).mono ?_
    rintro e W1 ⟨v1, rfl, hR1, hb1⟩
    refine ⟨_, rfl, ?_⟩
    have HX1 := Aside0.mk (blk_below (w := w2.drew) HXd.out hb1)
    have HBW1 := Aside0.mk (ld_step HBWd.out (show Below (w2.drew).heap.size (w2.drew) W1 from hb1))
    have HSW1 : Aside0 (w.heap.size ≤ W1.heap.size) := ⟨by have := HBW1.out.size; exact this⟩
    have HR1 := Aside0.mk (Kd.R_lower hR1 HSWd.out)
    obtain ⟨A1, c1, rfl, hcq, hCq⟩ := Kd.R_reads hR1
    have HC1 := Aside0.mk hCq
    have HL1 := Aside0.mk hcq
    clear hR1 hb1 hcq hCq
    refine hK.out _ _ ⟨(lx_cells (x := x) HX1.out).1, (lx_cells (x := x) HX1.out).2.1, (lx_cells (x := x) HX1.out).2.2.1⟩ (fun hHeld => ?_)
    clear hK K
    refine norm_ (a' := ?_) ?_ ?_
    rotate_left
    · show Act.put _ (some 31) _ = _
      simp only [Act.put, List.setIfInBounds_toArray, List.set_cons_zero, List.set_cons_succ, i64_w, i32_w]
      rfl
    refine one_ (i := 6) (N := some 34) #[T_,T_,T_,T_,T_,T_,T_,T_,T_,F_,F_] rfl rfl (by kernel_rfl) (by decide) (fun K hK => ?_)
    refine goes_ Tryd.func34 (by kernel_rfl) rfl #[.slice A1 b1.length c1, .int .i64 x.ino] (by rfl) rfl rfl (by simp only [List.map_toArray, List.map_cons, List.map_nil]; rfl) ?_
    with_reducible refine (remoraref01_Put.calls k A1 c1 b1 (x.ino) b2 W1 (HC1.out) (HL1.out) G2.out).mono ?_
    rintro e W2 ⟨v2, rfl, hR2, hb2⟩
    refine ⟨_, rfl, ?_⟩
    have HX2 := Aside0.mk (blk_below (w := W1) HX1.out hb2)
    have HBW2 := Aside0.mk (ld_step HBW1.out (show Below (W1).heap.size (W1) W2 from hb2))
    have HSW2 : Aside0 (w.heap.size ≤ W2.heap.size) := ⟨by have := HBW2.out.size; exact this⟩
    have HR2 := Aside0.mk (Kd.R_lower hR2 HSW1.out)
    obtain ⟨A2, c2, rfl, hcq, hCq⟩ := Kd.R_reads hR2
    have HC2 := Aside0.mk hCq
    have HL2 := Aside0.mk hcq
    clear hR2 hb2 hcq hCq
    refine hK.out _ _ ⟨(lx_cells (x := x) HX2.out).1, (lx_cells (x := x) HX2.out).2.1, (lx_cells (x := x) HX2.out).2.2.1⟩ (fun hHeld => ?_)
    clear hK K
    refine norm_ (a' := ?_) ?_ ?_
    rotate_left
    · show Act.put _ (some 34) _ = _
      simp only [Act.put, List.setIfInBounds_toArray, List.set_cons_zero, List.set_cons_succ, i64_w, i32_w]
      rfl
    refine one_ (i := 9) (N := some 37) #[T_,T_,T_,T_,T_,T_,T_,T_,T_,T_,F_] rfl rfl (by kernel_rfl) (by decide) (fun K hK => ?_)
    refine goes_ Tryd.func34 (by kernel_rfl) rfl #[.slice A2 b2.length c2, .int .i64 x.size] (by rfl) rfl rfl (by simp only [List.map_toArray, List.map_cons, List.map_nil]; rfl) ?_
    with_reducible refine (remoraref01_Put.calls k A2 c2 b2 (x.size) b3 W2 (HC2.out) (HL2.out) G3.out).mono ?_
    rintro e W3 ⟨v3, rfl, hR3, hb3⟩
    refine ⟨_, rfl, ?_⟩
    have HX3 := Aside0.mk (blk_below (w := W2) HX2.out hb3)
    have HBW3 := Aside0.mk (ld_step HBW2.out (show Below (W2).heap.size (W2) W3 from hb3))
    have HSW3 : Aside0 (w.heap.size ≤ W3.heap.size) := ⟨by have := HBW3.out.size; exact this⟩
    have HR3 := Aside0.mk (Kd.R_lower hR3 HSW2.out)
    obtain ⟨A3, c3, rfl, hcq, hCq⟩ := Kd.R_reads hR3
    have HC3 := Aside0.mk hCq
    have HL3 := Aside0.mk hcq
    clear hR3 hb3 hcq hCq
    refine hK.out _ _ ⟨(lx_cells (x := x) HX3.out).1, (lx_cells (x := x) HX3.out).2.1, (lx_cells (x := x) HX3.out).2.2.1⟩ (fun hHeld => ?_)
    clear hK K
    refine norm_ (a' := ?_) ?_ ?_
    rotate_left
    · show Act.put _ (some 37) _ = _
      simp only [Act.put, List.setIfInBounds_toArray, List.set_cons_zero, List.set_cons_succ, i64_w, i32_w]
      rfl
    refine pure_ (i := 10) (N := some 3) (v := ?_) (a' := ?_) #[T_,T_,T_,T_,T_,T_,T_,T_,T_,T_,T_] rfl rfl (by kernel_rfl) (fun _ _ _ h => h) (Or.inl ⟨by rfl, ?_⟩) ?_ ?_
    rotate_left
    · intro w'
      go_simp
      with_reducible rfl
    rotate_left
    · simp only [Act.put, List.setIfInBounds_toArray, List.set_cons_zero, List.set_cons_succ, i64_w, i32_w]
      rfl
    refine done_ (by kernel_rfl) ?_
    clear hHeld
    go_wp2_with fail
    have HC3d := Aside0.mk (Kd.C_drew HC3.out)
    have HX3d := Aside0.mk (show W3.drew.heap[gx]? = some (.cells #[.string x.path, .int .i64 x.ino, .int .i64 x.size, .int .i64 x.sec, .int .i64 x.nano, .string x.sum] 71 (0, 0)) from HX3.out)
    have HBW3d : Aside0 (Below w.heap.size w W3.drew) := ⟨below_drew HBW3.out⟩
    have HSW3d : Aside0 (w.heap.size ≤ W3.drew.heap.size) := HSW3
    refine start_ (n := 11) (S := fun w' => w'.cell? ⟨gx, 3, none⟩ = some (.int .i64 x.sec) ∧ w'.cell? ⟨gx, 4, none⟩ = some (.int .i64 x.nano) ∧ w'.cell? ⟨gx, 5, none⟩ = some (.string x.sum)) (ds := [9]) #[F_,F_,F_,F_,F_,F_,F_,F_,F_,F_,F_] (by kernel_rfl) rfl rfl ⟨(lx_cells (x := x) HX3d.out).2.2.2.1, (lx_cells (x := x) HX3d.out).2.2.2.2.1, (lx_cells (x := x) HX3d.out).2.2.2.2.2⟩ (fun hHeld => ?_)
    refine pure_ (i := 0) (N := some 38) (v := ?_) (a' := ?_) #[T_,F_,F_,F_,F_,F_,F_,F_,F_,F_,F_] rfl rfl (by kernel_rfl) (fun _ _ _ h => h) (Or.inl ⟨by rfl, ?_⟩) ?_ ?_
    rotate_left
    · intro w'
      go_simp
      with_reducible rfl
    rotate_left
    · simp only [Act.put, List.setIfInBounds_toArray, List.set_cons_zero, List.set_cons_succ, i64_w, i32_w]
      rfl
    refine pure_ (i := 1) (N := some 39) (v := ?_) (a' := ?_) #[T_,T_,F_,F_,F_,F_,F_,F_,F_,F_,F_] rfl rfl (by kernel_rfl) (fun _ _ _ h => h) (Or.inl ⟨by rfl, ?_⟩) ?_ ?_
    rotate_left
    · intro w'
      go_simp
      with_reducible rfl
    rotate_left
    · simp only [Act.put, List.setIfInBounds_toArray, List.set_cons_zero, List.set_cons_succ, i64_w, i32_w]
      rfl
    refine pure_ (i := 4) (N := some 42) (v := ?_) (a' := ?_) #[T_,T_,F_,F_,T_,F_,F_,F_,F_,F_,F_] rfl rfl (by kernel_rfl) (fun _ _ _ h => h) (Or.inl ⟨by rfl, ?_⟩) ?_ ?_
    rotate_left
    · intro w'
      go_simp
      with_reducible rfl
    rotate_left
    · simp only [Act.put, List.setIfInBounds_toArray, List.set_cons_zero, List.set_cons_succ, i64_w, i32_w]
      rfl
    refine pure_ (i := 7) (N := some 45) (v := ?_) (a' := ?_) #[T_,T_,F_,F_,T_,F_,F_,T_,F_,F_,F_] rfl rfl (by kernel_rfl) (fun _ _ _ h => h) (Or.inl ⟨by rfl, ?_⟩) ?_ ?_
    rotate_left
    · intro w'
      go_simp
      with_reducible rfl
    rotate_left
    · simp only [Act.put, List.setIfInBounds_toArray, List.set_cons_zero, List.set_cons_succ, i64_w, i32_w]
      rfl
    refine take_ (i := 2) (N := some 40) (v := ?_) (a' := ?_) #[T_,T_,T_,F_,T_,F_,F_,T_,F_,F_,F_] rfl rfl (by kernel_rfl) (fun _ _ _ h => h) (Or.inl ⟨by rfl, ?_⟩) hHeld ?_ ?_
    rotate_left
    · rintro w' ⟨s0, s1, s2⟩
      go_simp
      with_reducible rfl
    rotate_left
    · simp only [Act.put, List.setIfInBounds_toArray, List.set_cons_zero, List.set_cons_succ, i64_w, i32_w]
      rfl
    refine take_ (i := 5) (N := some 43) (v := ?_) (a' := ?_) #[T_,T_,T_,F_,T_,T_,F_,T_,F_,F_,F_] rfl rfl (by kernel_rfl) (fun _ _ _ h => h) (Or.inl ⟨by rfl, ?_⟩) hHeld ?_ ?_
    rotate_left
    · rintro w' ⟨s0, s1, s2⟩
      go_simp
      with_reducible rfl
    rotate_left
    · simp only [Act.put, List.setIfInBounds_toArray, List.set_cons_zero, List.set_cons_succ, i64_w, i32_w]
      rfl
    refine take_ (i := 8) (N := some 46) (v := ?_) (a' := ?_) #[T_,T_,T_,F_,T_,T_,F_,T_,T_,F_,F_] rfl rfl (by kernel_rfl) (fun _ _ _ h => h) (Or.inl ⟨by rfl, ?_⟩) hHeld ?_ ?_
    rotate_left
    · rintro w' ⟨s0, s1, s2⟩
      go_simp
      with_reducible rfl
    rotate_left
    · simp only [Act.put, List.setIfInBounds_toArray, List.set_cons_zero, List.set_cons_succ, i64_w, i32_w]
      rfl
    refine one_ (i := 3) (N := some 41) #[T_,T_,T_,T_,T_,T_,F_,T_,T_,F_,F_] rfl rfl (by kernel_rfl) (by decide) (fun K hK => ?_)
    refine goes_ Tryd.func36 (by kernel_rfl) rfl #[.slice A3 b3.length c3, .int .i64 x.sec] (by rfl) rfl rfl (by simp only [List.map_toArray, List.map_cons, List.map_nil]; rfl) ?_
    with_reducible refine (remoraref01_PutInt.calls k A3 c3 b3 (x.sec) b4 W3.drew (HC3d.out) (HL3.out) G4.out).mono ?_
    rintro e W4 ⟨v4, rfl, hR4, hb4⟩
    refine ⟨_, rfl, ?_⟩
    have HX4 := Aside0.mk (blk_below (w := W3.drew) HX3d.out hb4)
    have HBW4 := Aside0.mk (ld_step HBW3d.out (show Below (W3.drew).heap.size (W3.drew) W4 from hb4))
    have HSW4 : Aside0 (w.heap.size ≤ W4.heap.size) := ⟨by have := HBW4.out.size; exact this⟩
    have HR4 := Aside0.mk (Kd.R_lower hR4 HSW3d.out)
    obtain ⟨A4, c4, rfl, hcq, hCq⟩ := Kd.R_reads hR4
    have HC4 := Aside0.mk hCq
    have HL4 := Aside0.mk hcq
    clear hR4 hb4 hcq hCq
    refine hK.out _ _ ⟨(lx_cells (x := x) HX4.out).2.2.2.1, (lx_cells (x := x) HX4.out).2.2.2.2.1, (lx_cells (x := x) HX4.out).2.2.2.2.2⟩ (fun hHeld => ?_)
    clear hK K
    refine norm_ (a' := ?_) ?_ ?_
    rotate_left
    · show Act.put _ (some 41) _ = _
      simp only [Act.put, List.setIfInBounds_toArray, List.set_cons_zero, List.set_cons_succ, i64_w, i32_w]
      rfl
    refine one_ (i := 6) (N := some 44) #[T_,T_,T_,T_,T_,T_,T_,T_,T_,F_,F_] rfl rfl (by kernel_rfl) (by decide) (fun K hK => ?_)
    refine goes_ Tryd.func34 (by kernel_rfl) rfl #[.slice A4 b4.length c4, .int .i64 x.nano] (by rfl) rfl rfl (by simp only [List.map_toArray, List.map_cons, List.map_nil]; rfl) ?_
    with_reducible refine (remoraref01_Put.calls k A4 c4 b4 (x.nano) b5 W4 (HC4.out) (HL4.out) G5.out).mono ?_
    rintro e W5 ⟨v5, rfl, hR5, hb5⟩
    refine ⟨_, rfl, ?_⟩
    have HX5 := Aside0.mk (blk_below (w := W4) HX4.out hb5)
    have HBW5 := Aside0.mk (ld_step HBW4.out (show Below (W4).heap.size (W4) W5 from hb5))
    have HSW5 : Aside0 (w.heap.size ≤ W5.heap.size) := ⟨by have := HBW5.out.size; exact this⟩
    have HR5 := Aside0.mk (Kd.R_lower hR5 HSW4.out)
    obtain ⟨A5, c5, rfl, hcq, hCq⟩ := Kd.R_reads hR5
    have HC5 := Aside0.mk hCq
    have HL5 := Aside0.mk hcq
    clear hR5 hb5 hcq hCq
    refine hK.out _ _ ⟨(lx_cells (x := x) HX5.out).2.2.2.1, (lx_cells (x := x) HX5.out).2.2.2.2.1, (lx_cells (x := x) HX5.out).2.2.2.2.2⟩ (fun hHeld => ?_)
    clear hK K
    refine norm_ (a' := ?_) ?_ ?_
    rotate_left
    · show Act.put _ (some 44) _ = _
      simp only [Act.put, List.setIfInBounds_toArray, List.set_cons_zero, List.set_cons_succ, i64_w, i32_w]
      rfl
    refine last_ (i := 9) (N := some 47) #[T_,T_,T_,T_,T_,T_,T_,T_,T_,T_,F_] rfl rfl (by kernel_rfl) (by decide) (fun K hK => ?_)
    refine step_append_str (w0 := w) w.heap.size (by rfl) (.tmp 44) (.tmp 46) 41 9 5 rfl Tryd.underlying41 Tryd.underlying9 info_u8 (.slice A5 b5.length c5) b5 x.sum rfl rfl HR5.out HBW5.out HSW5.out G6.out ?_
    intro v6 w6 ho6 hb6
    rw [G7.out] at ho6
    have HR6 := Aside0.mk ho6
    have HBW6 := Aside0.mk hb6
    clear ho6 hb6
    refine hK.out _ _ ?_
    clear hK K
    refine norm_ (a' := ?_) ?_ ?_
    rotate_left
    · show Act.put _ (some 47) _ = _
      simp only [Act.put, List.setIfInBounds_toArray, List.set_cons_zero, List.set_cons_succ, i64_w, i32_w]
      rfl
    refine pure_ (i := 10) (N := some 3) (v := ?_) (a' := ?_) #[T_,T_,T_,T_,T_,T_,T_,T_,T_,T_,T_] rfl rfl (by kernel_rfl) (fun _ _ _ h => h) (Or.inl ⟨by rfl, ?_⟩) ?_ ?_
    rotate_left
    · intro w'
      go_simp
      with_reducible rfl
    rotate_left
    · simp only [Act.put, List.setIfInBounds_toArray, List.set_cons_zero, List.set_cons_succ, i64_w, i32_w]
      rfl
    refine done_ (by kernel_rfl) ?_
    clear hHeld
    go_wp2
    go_roundg (m - (i + 1))
    case measure => have := C1.out; omega
    case rel => exact ⟨i + 1, b6, rfl, by first | rfl | rw [hadd], ⟨by have := C1.out; omega⟩, HR6, HF2, HBW6⟩
theorem cv_step {P : Program} {o : Oper} {a : Act} {W : World} {x : Operand} {s d : TypeId} {u z : Value} (ho : o.op = .convert s d x) (hx : a.eval x = u) (hr : (convert s d u).run P W = .ok z W) : (execOp a.eval o).run P W = .ok (.value z) W := by
  unfold execOp
  simp only [ho, hx, hr, Sem.run_bind, Sem.run_pure, Result.andThen_ok]
theorem C_str33 {w : World} {A : Option Addr} {n c : Nat} {l : List Int} (hC : Kd.C (Kd.int .u8) w A n l) : (convert 41 9 (.slice A n c)).run Tryd.prog w = .ok (.string (strOfNums l)) w := by
  have e : l.length = n := hC.1
  subst e
  exact Kd.C_string (P := Tryd.prog) (A := A) (c := c) Tryd.underlying41 Tryd.underlying5 Tryd.underlying9 hC
/-! ### crc_Open: function 38, a contract of my own -/
theorem sealV_eq (s : Int) : sealV s = .agg ((sealL s).map (Value.int .u8)).toArray := rfl
theorem tail_cell {w : World} {a : Addr} {l : List Int} (hC : Kd.C (Kd.int .u8) w (some a) l.length l) (n : Nat) (hn : l.length = n + 4) (i : Nat) (hi : i < 4) : w.cell? ((a.add n).add i) = some (.int .u8 (rd l ((n + i : Nat) : Int))) := by
  obtain ⟨ad, e, hx⟩ := Kd.at_int hC ((n + i : Nat) : Int) (by omega) (by omega)
  cases e
  rw [Addr.add_add]
  rw [Int.toNat_natCast] at hx
  exact hx
theorem crc_seal.at_ (A : Option Addr) (c n : Nat) (l : List Int) (w : World) (hn : l.length = n) (hG : GT w) (hC : Kd.C (Kd.int .u8) w A n l) (hcap : n ≤ c) (hlen : n ≤ 9223372036854775807) :
    Calls Tryd.prog 59 #[.slice A n c] w fun e w' => e = .returned (sealV (crcSum l)) ∧ Below w.heap.size w w' := by
  subst hn
  exact crc_seal.calls A c l w hG hC hcap hlen
set_option maxHeartbeats 1000000 in
theorem crc_Open.bad (a : Addr) (c : Nat) (l : List Int) (n : Nat) (w : World) (hG : GT w) (hC : Kd.C (Kd.int .u8) w (some a) l.length l) (hcap : l.length ≤ c) (hlen : l.length ≤ 9223372036854775807) (hn : l.length = n + 4) (x0 x1 x2 x3 : Int)
    (hx0 : rd l ((n + 0 : Nat) : Int) = x0) (hx1 : rd l ((n + 1 : Nat) : Int) = x1) (hx2 : rd l ((n + 2 : Nat) : Int) = x2) (hx3 : rd l ((n + 3 : Nat) : Int) = x3) (hb : decide (sealL (crcSum (l.take n)) = [x0, x1, x2, x3]) = false) :
    Calls Tryd.prog 38 #[.slice (some a) l.length c] w fun e w' => e = .returned (.tuple #[.slice none 0 0, .int .i64 6]) ∧ Below w.heap.size w w' := by
  have hS : ∀ W : World, Below w.heap.size w W → W.cell? (a.add n) = some (.int .u8 x0) ∧ W.cell? ⟨(a.add n).block, (a.add n).off + 1, none⟩ = some (.int .u8 x1) ∧
      W.cell? ⟨(a.add n).block, (a.add n).off + 2, none⟩ = some (.int .u8 x2) ∧ W.cell? ⟨(a.add n).block, (a.add n).off + 3, none⟩ = some (.int .u8 x3) := by
    intro W hb
    have t := fun i hi => tail_cell (Kd.C_below hC hb) n hn i hi
    subst hx0 hx1 hx2 hx3
    exact ⟨(by have := t 0 (by omega); rwa [Addr.add_zero'] at this), t 1 (by omega), t 2 (by omega), t 3 (by omega)⟩
  obtain ⟨i0, hi0, _, hsz0, _⟩ := info_parts info5_
  have hs1 := cut_to (P := Tryd.prog) 41 5 .i64 Tryd.underlying41 hi0 (some a) (n + 4) c (n : Int) (by omega) (by omega) (by omega)
  have hs2 := cut_from (P := Tryd.prog) 41 5 .i64 Tryd.underlying41 hi0 1 hsz0 (some a) (n + 4) c (n : Int) (by omega) (by omega)
  rw [Int.toNat_natCast] at hs1 hs2
  rw [if_neg (by omega), show n + 4 - n = 4 by omega, Nat.mul_one] at hs2
  have hs3 := fun W : World => run_arrayAt (P := Tryd.prog) W 98 5 4 (some (a.add n)) 4 (c - n) Tryd.underlying98 (Nat.le_refl _)
  have hbin : ∀ W : World, (binOp .neq 98 (sealV (crcSum (l.take n))) (.agg #[.int .u8 x0, .int .u8 x1, .int .u8 x2, .int .u8 x3])).run Tryd.prog W = .ok (.bool true) W := by
    intro W
    have := run_equalIn_ints (P := Tryd.prog) W 9998 98 5 .u8 4 (sealL (crcSum (l.take n))) [x0, x1, x2, x3] Tryd.underlying98 Tryd.underlying5 (by kernel_rfl) rfl rfl
    rw [hb, ← sealV_eq] at this
    unfold sealV at this ⊢
    rw [run_neq_struct]
    rw [show (9998 + 2 : Nat) = 10000 from rfl] at this
    simp only [List.map_cons, List.map_nil] at this
    rw [this]; rfl
  have hgu : ∀ W : World, (eqGuard .neq 98 (.tmp 13) (.tmp 18) (sealV (crcSum (l.take n))) (.agg #[.int .u8 x0, .int .u8 x1, .int .u8 x2, .int .u8 x3])).run Tryd.prog W = .ok () W := fun W => run_guard_agg W 98 _ _ _ _ (by kernel_rfl)
  have HCut : Kd.C (Kd.int .u8) w (some a) n (l.take n) := by
    have h_ := Kd.C_take hC (m := n) (by omega)
    rwa [List.length_take, Nat.min_eq_left (by omega)] at h_
  have HG1 := GT.below hG (below_drew1 (Below.refl _ w))
  have HC1 : Kd.C (Kd.int .u8) w.drew (some a) n (l.take n) := Kd.C_below HCut (below_drew1 (Below.refl _ w))
  have HG := Aside0.mk hG
  have HG1 := Aside0.mk HG1
  have HC1 := Aside0.mk HC1
  have hnc : n ≤ c := by omega
  have hn63 : n ≤ 9223372036854775807 := by omega
  have HC := Aside0.mk HCut
  have HS := Aside0.mk hS
  clear hG hC HCut hS hi0 hsz0 hb hx0 hx1 hx2 hx3
  have hc4 : (n : Int) + 4 ≤ c := by omega
  have hl5 : (n : Int) ≤ 9223372036854775803 := by omega
  have hc0 : (0 : Int) ≤ n := by omega
  have htl : (l.take n).length = n := by rw [List.length_take]; omega
  rw [hn]
  clear hn hcap hlen
  go_enter Tryd.func38, Tryd.ntmps38
  go_wp2
  refine start_ (n := 10) (S := fun w' => w'.cell? (a.add n) = some (.int .u8 x0) ∧ w'.cell? ⟨(a.add n).block, (a.add n).off + 1, none⟩ = some (.int .u8 x1) ∧ w'.cell? ⟨(a.add n).block, (a.add n).off + 2, none⟩ = some (.int .u8 x2) ∧ w'.cell? ⟨(a.add n).block, (a.add n).off + 3, none⟩ = some (.int .u8 x3)) (ds := []) #[F_,F_,F_,F_,F_,F_,F_,F_,F_,F_] (by kernel_rfl) rfl rfl ⟨((HS.out _ (below_drew1 (Below.refl _ _))).1), ((HS.out _ (below_drew1 (Below.refl _ _))).2.1), ((HS.out _ (below_drew1 (Below.refl _ _))).2.2.1), ((HS.out _ (below_drew1 (Below.refl _ _))).2.2.2)⟩ (fun hHeld => ?_)
  refine pure_ (i := 0) (N := some 10) (v := ?_) (a' := ?_) #[T_,F_,F_,F_,F_,F_,F_,F_,F_,F_] rfl rfl (by kernel_rfl) (fun _ _ _ h => h) (Or.inl ⟨by rfl, ?_⟩) ?_ ?_
  rotate_left
  · intro w'
    go_simp
    with_reducible rfl
  rotate_left
  · simp only [Act.put, List.setIfInBounds_toArray, List.set_cons_zero, List.set_cons_succ, i64_w, i32_w]
    rfl
  refine pure_ (i := 1) (N := some 11) (v := ?_) (a' := ?_) #[T_,T_,F_,F_,F_,F_,F_,F_,F_,F_] rfl rfl (by kernel_rfl) (fun _ _ _ h => h) (Or.inl ⟨by rfl, ?_⟩) ?_ ?_
  rotate_left
  · intro w'
    go_simp
    with_reducible rfl
  rotate_left
  · simp only [Act.put, List.setIfInBounds_toArray, List.set_cons_zero, List.set_cons_succ, i64_w, i32_w]
    rfl
  refine pure_ (i := 2) (N := some 12) (v := ?_) (a' := ?_) #[T_,T_,T_,F_,F_,F_,F_,F_,F_,F_] rfl rfl (by kernel_rfl) (fun _ _ _ h => h) (Or.inl ⟨by rfl, ?_⟩) ?_ ?_
  rotate_left
  · intro w'
    go_simp
    with_reducible rfl
  rotate_left
  · simp only [Act.put, List.setIfInBounds_toArray, List.set_cons_zero, List.set_cons_succ, i64_w, i32_w]
    rfl
  refine pure_ (i := 4) (N := some 14) (v := ?_) (a' := ?_) #[T_,T_,T_,F_,T_,F_,F_,F_,F_,F_] rfl rfl (by kernel_rfl) (fun _ _ _ h => h) (Or.inl ⟨by rfl, ?_⟩) ?_ ?_
  rotate_left
  · intro w'
    go_simp
    with_reducible rfl
  rotate_left
  · simp only [Act.put, List.setIfInBounds_toArray, List.set_cons_zero, List.set_cons_succ, i64_w, i32_w]
    rfl
  refine pure_ (i := 5) (N := some 15) (v := ?_) (a' := ?_) #[T_,T_,T_,F_,T_,T_,F_,F_,F_,F_] rfl rfl (by kernel_rfl) (fun _ _ _ h => h) (Or.inl ⟨by rfl, ?_⟩) ?_ ?_
  rotate_left
  · intro w'
    go_simp
    with_reducible rfl
  rotate_left
  · simp only [Act.put, List.setIfInBounds_toArray, List.set_cons_zero, List.set_cons_succ, i64_w, i32_w]
    rfl
  refine pure_ (i := 6) (N := some 16) (v := ?_) (a' := ?_) #[T_,T_,T_,F_,T_,T_,T_,F_,F_,F_] rfl rfl (by kernel_rfl) (fun _ _ _ h => h) (Or.inl ⟨by rfl, ?_⟩) ?_ ?_
  rotate_left
  · intro w'
    go_simp
    with_reducible rfl
  rotate_left
  · simp only [Act.put, List.setIfInBounds_toArray, List.set_cons_zero, List.set_cons_succ, i64_w, i32_w]
    rfl
  refine pure_ (i := 7) (N := some 17) (v := ?_) (a' := ?_) #[T_,T_,T_,F_,T_,T_,T_,T_,F_,F_] rfl rfl (by kernel_rfl) (fun _ _ _ h => h) (Or.inl ⟨by rfl, ?_⟩) ?_ ?_
  rotate_left
  · intro w'
    go_simp
    with_reducible rfl
  rotate_left
  · simp only [Act.put, List.setIfInBounds_toArray, List.set_cons_zero, List.set_cons_succ, i64_w, i32_w]
    rfl
  refine take_ (i := 8) (N := some 18) (v := ?_) (a' := ?_) #[T_,T_,T_,F_,T_,T_,T_,T_,T_,F_] rfl rfl (by kernel_rfl) (fun _ _ _ h => h) (Or.inl ⟨by rfl, ?_⟩) hHeld ?_ ?_
  rotate_left
  · rintro w' ⟨s0, s1, s2, s3⟩
    go_simp
    with_reducible rfl
  rotate_left
  · simp only [Act.put, List.setIfInBounds_toArray, List.set_cons_zero, List.set_cons_succ, i64_w, i32_w]
    rfl
  refine one_ (i := 3) (N := some 13) #[T_,T_,T_,T_,T_,T_,T_,T_,T_,F_] rfl rfl (by kernel_rfl) (by decide) (fun K hK => ?_)
  refine goes_ Tryd.func59 (by kernel_rfl) rfl #[.slice (some a) n c] (by rfl) rfl rfl (by simp only [List.map_toArray, List.map_cons, List.map_nil]; rfl) ?_
  with_reducible refine (crc_seal.at_ (some a) c n (l.take n) _ htl HG1.out HC1.out hnc hn63).mono ?_
  rintro e w3 ⟨rfl, hb3⟩
  refine ⟨_, rfl, ?_⟩
  refine hK.out _ _ ⟨((HS.out _ (below_step (below_drew1 (Below.refl _ w)) hb3)).1), ((HS.out _ (below_step (below_drew1 (Below.refl _ w)) hb3)).2.1), ((HS.out _ (below_step (below_drew1 (Below.refl _ w)) hb3)).2.2.1), ((HS.out _ (below_step (below_drew1 (Below.refl _ w)) hb3)).2.2.2)⟩ (fun hHeld => ?_)
  clear hK K
  refine norm_ (a' := ?_) ?_ ?_
  rotate_left
  · show Act.put _ (some 13) _ = _
    simp only [Act.put, List.setIfInBounds_toArray, List.set_cons_zero, List.set_cons_succ, i64_w, i32_w]
    rfl
  refine pure_ (i := 9) (N := some 19) (v := ?_) (a' := ?_) #[T_,T_,T_,T_,T_,T_,T_,T_,T_,T_] rfl rfl (by kernel_rfl) (fun _ _ _ h => h) (Or.inl ⟨by rfl, ?_⟩) ?_ ?_
  rotate_left
  · intro w'
    go_simp
    with_reducible rfl
  rotate_left
  · simp only [Act.put, List.setIfInBounds_toArray, List.set_cons_zero, List.set_cons_succ, i64_w, i32_w]
    rfl
  refine done_ (by kernel_rfl) ?_
  go_wp2
  go_ret2
  exact ⟨rfl, below_step (below_drew1 (Below.refl _ w)) hb3⟩
set_option maxHeartbeats 1000000 in
theorem crc_Open.good (a : Addr) (c : Nat) (l : List Int) (n : Nat) (w : World) (hG : GT w) (hC : Kd.C (Kd.int .u8) w (some a) l.length l) (hcap : l.length ≤ c) (hlen : l.length ≤ 140737488355328) (hn : l.length = n + 4) (x0 x1 x2 x3 : Int)
    (hx0 : rd l ((n + 0 : Nat) : Int) = x0) (hx1 : rd l ((n + 1 : Nat) : Int) = x1) (hx2 : rd l ((n + 2 : Nat) : Int) = x2) (hx3 : rd l ((n + 3 : Nat) : Int) = x3) (hb : decide (sealL (crcSum (l.take n)) = [x0, x1, x2, x3]) = true) :
    Calls Tryd.prog 38 #[.slice (some a) l.length c] w fun e w' => ∃ v, e = .returned (.tuple #[v, .int .i64 0]) ∧ Kd.R (Kd.int .u8) 5 w' w.heap.size (fun _ => True) v (l.take n) ∧ Below w.heap.size w w' := by
  have hS : ∀ W : World, Below w.heap.size w W → W.cell? (a.add n) = some (.int .u8 x0) ∧ W.cell? ⟨(a.add n).block, (a.add n).off + 1, none⟩ = some (.int .u8 x1) ∧
      W.cell? ⟨(a.add n).block, (a.add n).off + 2, none⟩ = some (.int .u8 x2) ∧ W.cell? ⟨(a.add n).block, (a.add n).off + 3, none⟩ = some (.int .u8 x3) := by
    intro W hb
    have t := fun i hi => tail_cell (Kd.C_below hC hb) n hn i hi
    subst hx0 hx1 hx2 hx3
    exact ⟨(by have := t 0 (by omega); rwa [Addr.add_zero'] at this), t 1 (by omega), t 2 (by omega), t 3 (by omega)⟩
  obtain ⟨i0, hi0, _, hsz0, _⟩ := info_parts info5_
  have hs1 := cut_to (P := Tryd.prog) 41 5 .i64 Tryd.underlying41 hi0 (some a) (n + 4) c (n : Int) (by omega) (by omega) (by omega)
  have hs2 := cut_from (P := Tryd.prog) 41 5 .i64 Tryd.underlying41 hi0 1 hsz0 (some a) (n + 4) c (n : Int) (by omega) (by omega)
  rw [Int.toNat_natCast] at hs1 hs2
  rw [if_neg (by omega), show n + 4 - n = 4 by omega, Nat.mul_one] at hs2
  have hs3 := fun W : World => run_arrayAt (P := Tryd.prog) W 98 5 4 (some (a.add n)) 4 (c - n) Tryd.underlying98 (Nat.le_refl _)
  have hbin : ∀ W : World, (binOp .neq 98 (sealV (crcSum (l.take n))) (.agg #[.int .u8 x0, .int .u8 x1, .int .u8 x2, .int .u8 x3])).run Tryd.prog W = .ok (.bool false) W := by
    intro W
    have := run_equalIn_ints (P := Tryd.prog) W 9998 98 5 .u8 4 (sealL (crcSum (l.take n))) [x0, x1, x2, x3] Tryd.underlying98 Tryd.underlying5 (by kernel_rfl) rfl rfl
    rw [hb, ← sealV_eq] at this
    unfold sealV at this ⊢
    rw [run_neq_struct]
    rw [show (9998 + 2 : Nat) = 10000 from rfl] at this
    simp only [List.map_cons, List.map_nil] at this
    rw [this]; rfl
  have hgu : ∀ W : World, (eqGuard .neq 98 (.tmp 13) (.tmp 18) (sealV (crcSum (l.take n))) (.agg #[.int .u8 x0, .int .u8 x1, .int .u8 x2, .int .u8 x3])).run Tryd.prog W = .ok () W := fun W => run_guard_agg W 98 _ _ _ _ (by kernel_rfl)
  have HCut : Kd.C (Kd.int .u8) w (some a) n (l.take n) := by
    have h_ := Kd.C_take hC (m := n) (by omega)
    rwa [List.length_take, Nat.min_eq_left (by omega)] at h_
  have HG1 := GT.below hG (below_drew1 (Below.refl _ w))
  have HC1 : Kd.C (Kd.int .u8) w.drew (some a) n (l.take n) := Kd.C_below HCut (below_drew1 (Below.refl _ w))
  have HG := Aside0.mk hG
  have HG1 := Aside0.mk HG1
  have HC1 := Aside0.mk HC1
  have hnc : n ≤ c := by omega
  have hn63 : n ≤ 9223372036854775807 := by omega
  have HC := Aside0.mk HCut
  have HS := Aside0.mk hS
  clear hG hC HCut hS hi0 hsz0 hb hx0 hx1 hx2 hx3
  have hc4 : (n : Int) + 4 ≤ c := by omega
  have hl5 : (n : Int) ≤ 9223372036854775803 := by omega
  have hc0 : (0 : Int) ≤ n := by omega
  have hn47 : n < 140737488355328 := by omega
  have htl : (l.take n).length = n := by rw [List.length_take]; omega
  rw [hn]
  clear hn hcap hlen
  go_enter Tryd.func38, Tryd.ntmps38
  go_wp2
  refine start_ (n := 10) (S := fun w' => w'.cell? (a.add n) = some (.int .u8 x0) ∧ w'.cell? ⟨(a.add n).block, (a.add n).off + 1, none⟩ = some (.int .u8 x1) ∧ w'.cell? ⟨(a.add n).block, (a.add n).off + 2, none⟩ = some (.int .u8 x2) ∧ w'.cell? ⟨(a.add n).block, (a.add n).off + 3, none⟩ = some (.int .u8 x3)) (ds := []) #[F_,F_,F_,F_,F_,F_,F_,F_,F_,F_] (by kernel_rfl) rfl rfl ⟨((HS.out _ (below_drew1 (Below.refl _ _))).1), ((HS.out _ (below_drew1 (Below.refl _ _))).2.1), ((HS.out _ (below_drew1 (Below.refl _ _))).2.2.1), ((HS.out _ (below_drew1 (Below.refl _ _))).2.2.2)⟩ (fun hHeld => ?_)
  refine pure_ (i := 0) (N := some 10) (v := ?_) (a' := ?_) #[T_,F_,F_,F_,F_,F_,F_,F_,F_,F_] rfl rfl (by kernel_rfl) (fun _ _ _ h => h) (Or.inl ⟨by rfl, ?_⟩) ?_ ?_
  rotate_left
  · intro w'
    go_simp
    with_reducible rfl
  rotate_left
  · simp only [Act.put, List.setIfInBounds_toArray, List.set_cons_zero, List.set_cons_succ, i64_w, i32_w]
    rfl
  refine pure_ (i := 1) (N := some 11) (v := ?_) (a' := ?_) #[T_,T_,F_,F_,F_,F_,F_,F_,F_,F_] rfl rfl (by kernel_rfl) (fun _ _ _ h => h) (Or.inl ⟨by rfl, ?_⟩) ?_ ?_
  rotate_left
  · intro w'
    go_simp
    with_reducible rfl
  rotate_left
  · simp only [Act.put, List.setIfInBounds_toArray, List.set_cons_zero, List.set_cons_succ, i64_w, i32_w]
    rfl
  refine pure_ (i := 2) (N := some 12) (v := ?_) (a' := ?_) #[T_,T_,T_,F_,F_,F_,F_,F_,F_,F_] rfl rfl (by kernel_rfl) (fun _ _ _ h => h) (Or.inl ⟨by rfl, ?_⟩) ?_ ?_
  rotate_left
  · intro w'
    go_simp
    with_reducible rfl
  rotate_left
  · simp only [Act.put, List.setIfInBounds_toArray, List.set_cons_zero, List.set_cons_succ, i64_w, i32_w]
    rfl
  refine pure_ (i := 4) (N := some 14) (v := ?_) (a' := ?_) #[T_,T_,T_,F_,T_,F_,F_,F_,F_,F_] rfl rfl (by kernel_rfl) (fun _ _ _ h => h) (Or.inl ⟨by rfl, ?_⟩) ?_ ?_
  rotate_left
  · intro w'
    go_simp
    with_reducible rfl
  rotate_left
  · simp only [Act.put, List.setIfInBounds_toArray, List.set_cons_zero, List.set_cons_succ, i64_w, i32_w]
    rfl
  refine pure_ (i := 5) (N := some 15) (v := ?_) (a' := ?_) #[T_,T_,T_,F_,T_,T_,F_,F_,F_,F_] rfl rfl (by kernel_rfl) (fun _ _ _ h => h) (Or.inl ⟨by rfl, ?_⟩) ?_ ?_
  rotate_left
  · intro w'
    go_simp
    with_reducible rfl
  rotate_left
  · simp only [Act.put, List.setIfInBounds_toArray, List.set_cons_zero, List.set_cons_succ, i64_w, i32_w]
    rfl
  refine pure_ (i := 6) (N := some 16) (v := ?_) (a' := ?_) #[T_,T_,T_,F_,T_,T_,T_,F_,F_,F_] rfl rfl (by kernel_rfl) (fun _ _ _ h => h) (Or.inl ⟨by rfl, ?_⟩) ?_ ?_
  rotate_left
  · intro w'
    go_simp
    with_reducible rfl
  rotate_left
  · simp only [Act.put, List.setIfInBounds_toArray, List.set_cons_zero, List.set_cons_succ, i64_w, i32_w]
    rfl
  refine pure_ (i := 7) (N := some 17) (v := ?_) (a' := ?_) #[T_,T_,T_,F_,T_,T_,T_,T_,F_,F_] rfl rfl (by kernel_rfl) (fun _ _ _ h => h) (Or.inl ⟨by rfl, ?_⟩) ?_ ?_
  rotate_left
  · intro w'
    go_simp
    with_reducible rfl
  rotate_left
  · simp only [Act.put, List.setIfInBounds_toArray, List.set_cons_zero, List.set_cons_succ, i64_w, i32_w]
    rfl
  refine take_ (i := 8) (N := some 18) (v := ?_) (a' := ?_) #[T_,T_,T_,F_,T_,T_,T_,T_,T_,F_] rfl rfl (by kernel_rfl) (fun _ _ _ h => h) (Or.inl ⟨by rfl, ?_⟩) hHeld ?_ ?_
  rotate_left
  · rintro w' ⟨s0, s1, s2, s3⟩
    go_simp
    with_reducible rfl
  rotate_left
  · simp only [Act.put, List.setIfInBounds_toArray, List.set_cons_zero, List.set_cons_succ, i64_w, i32_w]
    rfl
  refine one_ (i := 3) (N := some 13) #[T_,T_,T_,T_,T_,T_,T_,T_,T_,F_] rfl rfl (by kernel_rfl) (by decide) (fun K hK => ?_)
  refine goes_ Tryd.func59 (by kernel_rfl) rfl #[.slice (some a) n c] (by rfl) rfl rfl (by simp only [List.map_toArray, List.map_cons, List.map_nil]; rfl) ?_
  with_reducible refine (crc_seal.at_ (some a) c n (l.take n) _ htl HG1.out HC1.out hnc hn63).mono ?_
  rintro e w3 ⟨rfl, hb3⟩
  refine ⟨_, rfl, ?_⟩
  refine hK.out _ _ ⟨((HS.out _ (below_step (below_drew1 (Below.refl _ w)) hb3)).1), ((HS.out _ (below_step (below_drew1 (Below.refl _ w)) hb3)).2.1), ((HS.out _ (below_step (below_drew1 (Below.refl _ w)) hb3)).2.2.1), ((HS.out _ (below_step (below_drew1 (Below.refl _ w)) hb3)).2.2.2)⟩ (fun hHeld => ?_)
  clear hK K
  refine norm_ (a' := ?_) ?_ ?_
  rotate_left
  · show Act.put _ (some 13) _ = _
    simp only [Act.put, List.setIfInBounds_toArray, List.set_cons_zero, List.set_cons_succ, i64_w, i32_w]
    rfl
  refine pure_ (i := 9) (N := some 19) (v := ?_) (a' := ?_) #[T_,T_,T_,T_,T_,T_,T_,T_,T_,T_] rfl rfl (by kernel_rfl) (fun _ _ _ h => h) (Or.inl ⟨by rfl, ?_⟩) ?_ ?_
  rotate_left
  · intro w'
    go_simp
    with_reducible rfl
  rotate_left
  · simp only [Act.put, List.setIfInBounds_toArray, List.set_cons_zero, List.set_cons_succ, i64_w, i32_w]
    rfl
  refine done_ (by kernel_rfl) ?_
  have HB3 := Aside0.mk (below_step (below_drew1 (Below.refl _ w)) hb3)
  clear hb3 hHeld
  go_wp2_with ((with_reducible refine gate_builtin (b := .append) (xs := #[.const (.slice none 0 0), .tmp 22]) rfl ?_); (try (refine gate_guard (by rfl) ?_; dsimp only)); at_builtin; refine Kd.R_append_rows (Kd.int .u8) (w0 := w) w.heap.size rfl (.const (.slice none 0 0)) (.tmp 22) 41 5 (.int .u8 0) 1 rfl Tryd.underlying41 info5_ rfl (by decide) (by omega) (.slice none 0 0) ([] : List Int) (l.take n) _ _ _ (fun _ => True) (fun _ => False) rfl rfl ?aO ?aR (fun _ _ h => h) (fun _ h => h.elim) ?aF ?aB ?aS ?aL ?_; (case aR => exact Kd.C_below HC.out HB3.out); (case aB => exact HB3.out); (case aF => exact (fun _ _ => trivial)); (case aO => exact Kd.R_nil _ _ _ _ _); (case aS => exact (below_size HB3.out)); (case aL => simp; omega); intro v2 w4 ho hb hg hat; have HO4 := Aside0.mk ho; have HB4 := Aside0.mk hb; clear ho hb hg hat)
  go_ret2
  exact ⟨_, rfl, HO4.out, HB4.out⟩

theorem crc_Open.small (A : Option Addr) (c : Nat) (l : List Int) (w : World) (hlen : l.length < 4) :
    Calls Tryd.prog 38 #[.slice A l.length c] w fun e w' => e = .returned (.tuple #[.slice none 0 0, .int .i64 4]) ∧ w' = w := by
  have h0 : (l.length : Int) - 4 < 0 := by omega
  have h1 : -4 ≤ (l.length : Int) - 4 := by omega
  go_enter Tryd.func38, Tryd.ntmps38
  go_wp2
  go_ret2
  exact ⟨rfl, rfl⟩
def crc_Open.f (l0 : List Int) : Option (List Int × Int) :=
  if l0.length < 4 then some ([], 4) else if l0.length ≤ 140737488355328 then
    (if l0.drop (l0.length - 4) = sealL (crcSum (l0.take (l0.length - 4))) then some (l0.take (l0.length - 4), 0) else some ([], 6)) else none
theorem four_tail (l : List Int) (n : Nat) (hn : l.length = n + 4) : l.drop n = [rd l ((n + 0 : Nat) : Int), rd l ((n + 1 : Nat) : Int), rd l ((n + 2 : Nat) : Int), rd l ((n + 3 : Nat) : Int)] := by
  apply List.ext_getElem
  · simp; omega
  · intro i h1 h2
    have hi : i < 4 := by simpa using h2
    have e : ∀ j : Nat, j < l.length → rd l (j : Int) = l.getD j 0 := fun j hj => by simp [rd]
    rw [e _ (by omega), e _ (by omega), e _ (by omega), e _ (by omega)]
    have : i = 0 ∨ i = 1 ∨ i = 2 ∨ i = 3 := by omega
    rcases this with rfl | rfl | rfl | rfl <;> (simp [List.getD_eq_getElem?_getD]; rw [List.getElem?_eq_getElem (by omega)]; rfl)
theorem crc_Open.calls (A0 : Option Addr) (c0 : Nat) (l0 : List Int) (r1 : List Int) (r2 : Int) (w : World) (hG : GT w) (hr0 : Kd.C (Kd.int .u8) w A0 l0.length l0) (hc0 : l0.length ≤ c0) (h : crc_Open.f l0 = some (r1, r2)) :
    Calls Tryd.prog 38 #[.slice A0 l0.length c0] w fun e w' => ∃ v0_ : Value, e = .returned (.tuple #[v0_, .int .i64 r2]) ∧ Kd.R (Kd.int .u8) 5 w' w.heap.size (fun _ => True) v0_ r1 ∧ Below w.heap.size w w' := by
  unfold crc_Open.f at h
  by_cases h4 : l0.length < 4
  · rw [if_pos h4] at h
    simp only [Option.some.injEq, Prod.mk.injEq] at h
    obtain ⟨rfl, rfl⟩ := h
    refine (crc_Open.small A0 c0 l0 w h4).mono ?_
    rintro e w' ⟨rfl, rfl⟩
    exact ⟨_, rfl, Kd.R_nil _ _ _ _ _, Below.refl _ _⟩
  · rw [if_neg h4] at h
    by_cases h47 : l0.length ≤ 140737488355328
    · rw [if_pos h47] at h
      obtain ⟨n, hn⟩ : ∃ n, l0.length = n + 4 := ⟨l0.length - 4, by omega⟩
      have hn4 : l0.length - 4 = n := by omega
      obtain ⟨ad, e, _⟩ := Kd.at_int hr0 0 (by omega) (by omega)
      cases e
      rw [hn4, four_tail l0 n hn] at h
      by_cases he : [rd l0 ((n + 0 : Nat) : Int), rd l0 ((n + 1 : Nat) : Int), rd l0 ((n + 2 : Nat) : Int), rd l0 ((n + 3 : Nat) : Int)] = sealL (crcSum (l0.take n))
      · rw [if_pos he] at h
        simp only [Option.some.injEq, Prod.mk.injEq] at h
        obtain ⟨rfl, rfl⟩ := h
        exact crc_Open.good ad c0 l0 n w hG hr0 hc0 h47 hn _ _ _ _ rfl rfl rfl rfl (by simp only [he, decide_true])
      · rw [if_neg he] at h
        simp only [Option.some.injEq, Prod.mk.injEq] at h
        obtain ⟨rfl, rfl⟩ := h
        refine (crc_Open.bad ad c0 l0 n w hG hr0 hc0 (by omega) hn _ _ _ _ rfl rfl rfl rfl (decide_eq_false fun hh => he hh.symm)).mono ?_
        rintro e w' ⟨rfl, hb⟩
        exact ⟨_, rfl, Kd.R_nil _ _ _ _ _, hb⟩
    · rw [if_neg h47] at h
      cases h

/-! ### ledger_reader_num: function 39, a contract of my own -/
section
variable {P : Program} {ops : Array Oper} {Q : Exit → Act → World → Prop}
/-- A call of what stands in a slot, in a region that draws. -/
theorem goesV_ {oi : Oper} {N : Option Tmp} {a : Act} {w : World} {K : Act → World → Prop} {f : FuncId} {fn : Func} {j : Tmp} {os_ : Array Operand} {ts : Array TypeId} (hf : P.funcs[f]? = some fn) (hname : (fn.name == "runtime.NumGoroutine") = false) (hb : fn.body.isSome = true) (args : Array Value)
    (hw : Region.wanted oi (yielded ops a.tmps) = true) (hN : oi.dst = N) (hop : oi.op = .call { callee := .value (.tmp j), args := os_, argTypes := ts }) (hj : a.eval (.tmp j) = .func (.func f) #[] #[]) (hargs : os_.map a.eval = args)
    (h : Calls P f args w fun e w' => ∃ v, e = .returned v ∧ K (a.put N v) w') : if Region.wanted oi (yielded ops a.tmps) = true then Oper.wp P oi a w K Q else K (a.put N undef) w := by
  refine call_ f args hw hN ?_ h
  have he := enters_ hf hname hb args w
  unfold execOp
  simp [hop, resolve, Deferred.ofValue, invoke, hj, hargs, he]
end
theorem rd_cells {w : World} {p : Nat} {x y z : Value} {ty : Nat} (h : w.heap[p]? = some (.cells #[x, y, z] ty (0, 0))) : w.cell? ⟨p, 0, none⟩ = some x ∧ w.cell? ⟨p, 1, none⟩ = some y ∧ w.cell? ⟨p, 2, none⟩ = some z := by
  refine ⟨?_, ?_, ?_⟩ <;> rw [cell_of_row w p _ _ ty (0, 0) h] <;> rfl
/-- One step of a reader: behind an error it reads nothing. -/
def stepG (G : Int → Int × Int × Int) (s : Int × Int) : Int × (Int × Int) := if s.2 = 0 then ((G s.1).1, (G s.1).2) else (0, s)
def GetHyp (f : Nat) (G : Int → Int × Int × Int) (A : Option Addr) (m c : Nat) (O : List Int) : Prop :=
  ∀ (a : Int) (w1 : World), Kd.C (Kd.int .u8) w1 A m O → Calls Tryd.prog f #[.slice A m c, .int .i64 a] w1 fun e w' => e = .returned (.tuple #[.int .i64 (G a).1, .int .i64 (G a).2.1, .int .i64 (G a).2.2]) ∧ Below w1.heap.size w1 w'
set_option maxHeartbeats 8000000 in
set_option maxRecDepth 20000 in
theorem rd_num.get (G : Int → Int × Int × Int) (A : Option Addr) (m c : Nat) (O : List Int) (p : Nat) (at_ e0 : Int) (w : World) (hH : GetHyp 40 G A m c O) (hC : Kd.C (Kd.int .u8) w A m O) (hP : w.heap[p]? = some (.cells #[.slice A m c, .int .i64 at_, .int .i64 e0] 78 (0, 0))) :
    Calls Tryd.prog 39 #[.pointer (some ⟨p, 0, none⟩), .func (.func 40) #[] #[]] w fun e w' => e = .returned (.int .i64 (stepG G (at_, e0)).1) ∧ w'.heap[p]? = some (.cells #[.slice A m c, .int .i64 (stepG G (at_, e0)).2.1, .int .i64 (stepG G (at_, e0)).2.2] 78 (0, 0)) ∧ Bm p p w w' := by
  have HP := Aside0.mk hP
  have HC := Aside0.mk hC
  have HH := Aside0.mk (hH at_ w.drew (Kd.C_drew hC))
  obtain ⟨q0, q1, q2⟩ := rd_cells hP
  clear hP hC hH
  by_cases h0 : e0 = 0
  rotate_left
  · have e1 : (e0 != 0) = true := bne_iff_ne.mpr h0
    have HS : Aside0 (stepG G (at_, e0) = (0, (at_, e0))) := ⟨by unfold stepG; rw [if_neg h0]⟩
    clear h0
    go_enter Tryd.func39, Tryd.ntmps39
    go_wp2
    go_ret
    rw [HS.out]
    exact ⟨rfl, HP.out, Bm.refl _ _ _⟩
  have e1 : (e0 != 0) = false := bne_eq_false_iff_eq.mpr h0
  have HS : Aside0 (stepG G (at_, e0) = ((G at_).1, (G at_).2)) := ⟨by unfold stepG; rw [if_pos h0]⟩
  clear h0
  go_enter Tryd.func39, Tryd.ntmps39
  go_wp2_with fail
  refine start_ (n := 23) (S := fun w' => w'.cell? ⟨p, 0, none⟩ = some (.slice A m c) ∧ w'.cell? ⟨p, 1, none⟩ = some (.int .i64 at_)) (ds := [19, 22]) #[F_,F_,F_,F_,F_,F_,F_,F_,F_,F_,F_,F_,F_,F_,F_,F_,F_,F_,F_,F_,F_,F_,F_] (by kernel_rfl) rfl rfl ⟨(rd_cells (w := w.drew) HP.out).1, (rd_cells (w := w.drew) HP.out).2.1⟩ (fun hHeld => ?_)
  refine pure_ (i := 0) (N := some 12) (v := ?_) (a' := ?_) #[T_,F_,F_,F_,F_,F_,F_,F_,F_,F_,F_,F_,F_,F_,F_,F_,F_,F_,F_,F_,F_,F_,F_] rfl rfl (by kernel_rfl) (fun _ _ _ h => h) (Or.inl ⟨by rfl, ?_⟩) ?_ ?_
  rotate_left
  · intro w'
    go_simp
    with_reducible rfl
  rotate_left
  · simp only [Act.put, List.setIfInBounds_toArray, List.set_cons_zero, List.set_cons_succ, i64_w, i32_w]
    rfl
  refine pure_ (i := 1) (N := some 13) (v := ?_) (a' := ?_) #[T_,T_,F_,F_,F_,F_,F_,F_,F_,F_,F_,F_,F_,F_,F_,F_,F_,F_,F_,F_,F_,F_,F_] rfl rfl (by kernel_rfl) (fun _ _ _ h => h) (Or.inl ⟨by rfl, ?_⟩) ?_ ?_
  rotate_left
  · intro w'
    go_simp
    with_reducible rfl
  rotate_left
  · simp only [Act.put, List.setIfInBounds_toArray, List.set_cons_zero, List.set_cons_succ, i64_w, i32_w]
    rfl
  refine pure_ (i := 2) (N := some 14) (v := ?_) (a' := ?_) #[T_,T_,T_,F_,F_,F_,F_,F_,F_,F_,F_,F_,F_,F_,F_,F_,F_,F_,F_,F_,F_,F_,F_] rfl rfl (by kernel_rfl) (fun _ _ _ h => h) (Or.inl ⟨by rfl, ?_⟩) ?_ ?_
  rotate_left
  · intro w'
    go_simp
    with_reducible rfl
  rotate_left
  · simp only [Act.put, List.setIfInBounds_toArray, List.set_cons_zero, List.set_cons_succ, i64_w, i32_w]
    rfl
  refine pure_ (i := 3) (N := some 15) (v := ?_) (a' := ?_) #[T_,T_,T_,T_,F_,F_,F_,F_,F_,F_,F_,F_,F_,F_,F_,F_,F_,F_,F_,F_,F_,F_,F_] rfl rfl (by kernel_rfl) (fun _ _ _ h => h) (Or.inl ⟨by rfl, ?_⟩) ?_ ?_
  rotate_left
  · intro w'
    go_simp
    with_reducible rfl
  rotate_left
  · simp only [Act.put, List.setIfInBounds_toArray, List.set_cons_zero, List.set_cons_succ, i64_w, i32_w]
    rfl
  refine pure_ (i := 4) (N := some 16) (v := ?_) (a' := ?_) #[T_,T_,T_,T_,T_,F_,F_,F_,F_,F_,F_,F_,F_,F_,F_,F_,F_,F_,F_,F_,F_,F_,F_] rfl rfl (by kernel_rfl) (fun _ _ _ h => h) (Or.inl ⟨by rfl, ?_⟩) ?_ ?_
  rotate_left
  · intro w'
    go_simp
    with_reducible rfl
  rotate_left
  · simp only [Act.put, List.setIfInBounds_toArray, List.set_cons_zero, List.set_cons_succ, i64_w, i32_w]
    rfl
  refine pure_ (i := 5) (N := some 17) (v := ?_) (a' := ?_) #[T_,T_,T_,T_,T_,T_,F_,F_,F_,F_,F_,F_,F_,F_,F_,F_,F_,F_,F_,F_,F_,F_,F_] rfl rfl (by kernel_rfl) (fun _ _ _ h => h) (Or.inl ⟨by rfl, ?_⟩) ?_ ?_
  rotate_left
  · intro w'
    go_simp
    with_reducible rfl
  rotate_left
  · simp only [Act.put, List.setIfInBounds_toArray, List.set_cons_zero, List.set_cons_succ, i64_w, i32_w]
    rfl
  refine pure_ (i := 7) (N := some 19) (v := ?_) (a' := ?_) #[T_,T_,T_,T_,T_,T_,F_,T_,F_,F_,F_,F_,F_,F_,F_,F_,F_,F_,F_,F_,F_,F_,F_] rfl rfl (by kernel_rfl) (fun _ _ _ h => h) (Or.inl ⟨by rfl, ?_⟩) ?_ ?_
  rotate_left
  · intro w'
    go_simp
    with_reducible rfl
  rotate_left
  · simp only [Act.put, List.setIfInBounds_toArray, List.set_cons_zero, List.set_cons_succ, i64_w, i32_w]
    rfl
  refine pure_ (i := 8) (N := some 20) (v := ?_) (a' := ?_) #[T_,T_,T_,T_,T_,T_,F_,T_,T_,F_,F_,F_,F_,F_,F_,F_,F_,F_,F_,F_,F_,F_,F_] rfl rfl (by kernel_rfl) (fun _ _ _ h => h) (Or.inl ⟨by rfl, ?_⟩) ?_ ?_
  rotate_left
  · intro w'
    go_simp
    with_reducible rfl
  rotate_left
  · simp only [Act.put, List.setIfInBounds_toArray, List.set_cons_zero, List.set_cons_succ, i64_w, i32_w]
    rfl
  refine pure_ (i := 9) (N := some 21) (v := ?_) (a' := ?_) #[T_,T_,T_,T_,T_,T_,F_,T_,T_,T_,F_,F_,F_,F_,F_,F_,F_,F_,F_,F_,F_,F_,F_] rfl rfl (by kernel_rfl) (fun _ _ _ h => h) (Or.inl ⟨by rfl, ?_⟩) ?_ ?_
  rotate_left
  · intro w'
    go_simp
    with_reducible rfl
  rotate_left
  · simp only [Act.put, List.setIfInBounds_toArray, List.set_cons_zero, List.set_cons_succ, i64_w, i32_w]
    rfl
  refine take_ (i := 6) (N := some 18) (v := ?_) (a' := ?_) #[T_,T_,T_,T_,T_,T_,T_,T_,T_,T_,F_,F_,F_,F_,F_,F_,F_,F_,F_,F_,F_,F_,F_] rfl rfl (by kernel_rfl) (fun _ _ _ h => h) (Or.inl ⟨by rfl, ?_⟩) hHeld ?_ ?_
  rotate_left
  · rintro w' ⟨s0, s1⟩
    go_simp
    with_reducible rfl
  rotate_left
  · simp only [Act.put, List.setIfInBounds_toArray, List.set_cons_zero, List.set_cons_succ, i64_w, i32_w]
    rfl
  refine take_ (i := 10) (N := some 22) (v := ?_) (a' := ?_) #[T_,T_,T_,T_,T_,T_,T_,T_,T_,T_,T_,F_,F_,F_,F_,F_,F_,F_,F_,F_,F_,F_,F_] rfl rfl (by kernel_rfl) (fun _ _ _ h => h) (Or.inl ⟨by rfl, ?_⟩) hHeld ?_ ?_
  rotate_left
  · rintro w' ⟨s0, s1⟩
    go_simp
    with_reducible rfl
  rotate_left
  · simp only [Act.put, List.setIfInBounds_toArray, List.set_cons_zero, List.set_cons_succ, i64_w, i32_w]
    rfl
  refine one_ (i := 11) (N := some 23) #[T_,T_,T_,T_,T_,T_,T_,T_,T_,T_,T_,T_,F_,F_,F_,F_,F_,F_,F_,F_,F_,F_,F_] rfl rfl (by kernel_rfl) (by decide) (fun K hK => ?_)
  refine goesV_ (j := 14) Tryd.func40 (by kernel_rfl) rfl #[.slice A m c, .int .i64 at_] (by rfl) rfl rfl (by rfl) (by simp only [List.map_toArray, List.map_cons, List.map_nil]; rfl) ?_
  with_reducible refine (HH.out).mono ?_
  rintro e w5 ⟨rfl, hb5⟩
  refine ⟨_, rfl, ?_⟩
  have HP5 := Aside0.mk (blk_below (w := w.drew) HP.out hb5)
  have HB5 := Aside0.mk (((Bm.refl p p w).below (below_drew (Below.refl _ _))).below (w1 := w.drew) hb5)
  have qf5 := blk_frozen HP5.out 1
  have q52 := (rd_cells HP5.out).2.2
  clear hb5
  refine hK.out _ _ ⟨(rd_cells HP5.out).1, (rd_cells HP5.out).2.1⟩ (fun hHeld => ?_)
  clear hK K
  refine norm_ (a' := ?_) ?_ ?_
  rotate_left
  · show Act.put _ (some 23) _ = _
    simp only [Act.put, List.setIfInBounds_toArray, List.set_cons_zero, List.set_cons_succ, i64_w, i32_w]
    rfl
  refine pure_ (i := 12) (N := some 11) (v := ?_) (a' := ?_) #[T_,T_,T_,T_,T_,T_,T_,T_,T_,T_,T_,T_,T_,F_,F_,F_,F_,F_,F_,F_,F_,F_,F_] rfl rfl (by kernel_rfl) (fun _ _ _ h => h) (Or.inl ⟨by rfl, ?_⟩) ?_ ?_
  rotate_left
  · intro w'
    go_simp
    with_reducible rfl
  rotate_left
  · simp only [Act.put, List.setIfInBounds_toArray, List.set_cons_zero, List.set_cons_succ, i64_w, i32_w]
    rfl
  refine pure_ (i := 13) (N := some 24) (v := ?_) (a' := ?_) #[T_,T_,T_,T_,T_,T_,T_,T_,T_,T_,T_,T_,T_,T_,F_,F_,F_,F_,F_,F_,F_,F_,F_] rfl rfl (by kernel_rfl) (fun _ _ _ h => h) (Or.inl ⟨by rfl, ?_⟩) ?_ ?_
  rotate_left
  · intro w'
    go_simp
    with_reducible rfl
  rotate_left
  · simp only [Act.put, List.setIfInBounds_toArray, List.set_cons_zero, List.set_cons_succ, i64_w, i32_w]
    rfl
  refine pure_ (i := 14) (N := some 25) (v := ?_) (a' := ?_) #[T_,T_,T_,T_,T_,T_,T_,T_,T_,T_,T_,T_,T_,T_,T_,F_,F_,F_,F_,F_,F_,F_,F_] rfl rfl (by kernel_rfl) (fun _ _ _ h => h) (Or.inl ⟨by rfl, ?_⟩) ?_ ?_
  rotate_left
  · intro w'
    go_simp
    with_reducible rfl
  rotate_left
  · simp only [Act.put, List.setIfInBounds_toArray, List.set_cons_zero, List.set_cons_succ, i64_w, i32_w]
    rfl
  refine pure_ (i := 15) (N := some 26) (v := ?_) (a' := ?_) #[T_,T_,T_,T_,T_,T_,T_,T_,T_,T_,T_,T_,T_,T_,T_,T_,F_,F_,F_,F_,F_,F_,F_] rfl rfl (by kernel_rfl) (fun _ _ _ h => h) (Or.inl ⟨by rfl, ?_⟩) ?_ ?_
  rotate_left
  · intro w'
    go_simp
    with_reducible rfl
  rotate_left
  · simp only [Act.put, List.setIfInBounds_toArray, List.set_cons_zero, List.set_cons_succ, i64_w, i32_w]
    rfl
  refine pure_ (i := 16) (N := some 5) (v := ?_) (a' := ?_) #[T_,T_,T_,T_,T_,T_,T_,T_,T_,T_,T_,T_,T_,T_,T_,T_,T_,F_,F_,F_,F_,F_,F_] rfl rfl (by kernel_rfl) (fun _ _ _ h => h) (Or.inl ⟨by rfl, ?_⟩) ?_ ?_
  rotate_left
  · intro w'
    go_simp
    with_reducible rfl
  rotate_left
  · simp only [Act.put, List.setIfInBounds_toArray, List.set_cons_zero, List.set_cons_succ, i64_w, i32_w]
    rfl
  refine pure_ (i := 17) (N := some 27) (v := ?_) (a' := ?_) #[T_,T_,T_,T_,T_,T_,T_,T_,T_,T_,T_,T_,T_,T_,T_,T_,T_,T_,F_,F_,F_,F_,F_] rfl rfl (by kernel_rfl) (fun _ _ _ h => h) (Or.inl ⟨by rfl, ?_⟩) ?_ ?_
  rotate_left
  · intro w'
    go_simp
    with_reducible rfl
  rotate_left
  · simp only [Act.put, List.setIfInBounds_toArray, List.set_cons_zero, List.set_cons_succ, i64_w, i32_w]
    rfl
  refine pure_ (i := 18) (N := some 28) (v := ?_) (a' := ?_) #[T_,T_,T_,T_,T_,T_,T_,T_,T_,T_,T_,T_,T_,T_,T_,T_,T_,T_,T_,F_,F_,F_,F_] rfl rfl (by kernel_rfl) (fun _ _ _ h => h) (Or.inl ⟨by rfl, ?_⟩) ?_ ?_
  rotate_left
  · intro w'
    go_simp
    with_reducible rfl
  rotate_left
  · simp only [Act.put, List.setIfInBounds_toArray, List.set_cons_zero, List.set_cons_succ, i64_w, i32_w]
    rfl
  refine last_ (i := 19) (N := none) #[T_,T_,T_,T_,T_,T_,T_,T_,T_,T_,T_,T_,T_,T_,T_,T_,T_,T_,T_,T_,F_,F_,F_] rfl rfl (by kernel_rfl) (by decide) (fun K hK => ?_)
  refine skip_ (w1 := ?_) (by rfl) rfl ?_ ?_
  rotate_left
  · go_simp
    rfl
  have HP6 := Aside0.mk (blk_set HP5.out 1 (.int .i64 (G at_).2.1))
  have qf6 := blk_frozen HP6.out 2
  refine hK.out _ _ ?_
  clear hK K
  refine pure_ (i := 20) (N := some 29) (v := ?_) (a' := ?_) #[T_,T_,T_,T_,T_,T_,T_,T_,T_,T_,T_,T_,T_,T_,T_,T_,T_,T_,T_,T_,T_,F_,F_] rfl rfl (by kernel_rfl) (fun _ _ _ h => h) (Or.inl ⟨by rfl, ?_⟩) ?_ ?_
  rotate_left
  · intro w'
    go_simp
    with_reducible rfl
  rotate_left
  · simp only [Act.put, List.setIfInBounds_toArray, List.set_cons_zero, List.set_cons_succ, i64_w, i32_w]
    rfl
  refine pure_ (i := 21) (N := some 30) (v := ?_) (a' := ?_) #[T_,T_,T_,T_,T_,T_,T_,T_,T_,T_,T_,T_,T_,T_,T_,T_,T_,T_,T_,T_,T_,T_,F_] rfl rfl (by kernel_rfl) (fun _ _ _ h => h) (Or.inl ⟨by rfl, ?_⟩) ?_ ?_
  rotate_left
  · intro w'
    go_simp
    with_reducible rfl
  rotate_left
  · simp only [Act.put, List.setIfInBounds_toArray, List.set_cons_zero, List.set_cons_succ, i64_w, i32_w]
    rfl
  refine last_ (i := 22) (N := none) #[T_,T_,T_,T_,T_,T_,T_,T_,T_,T_,T_,T_,T_,T_,T_,T_,T_,T_,T_,T_,T_,T_,T_] rfl rfl (by kernel_rfl) (by decide) (fun K hK => ?_)
  refine skip_ (w1 := ?_) (by rfl) rfl ?_ ?_
  rotate_left
  · go_simp
    rfl
  have HP7 := Aside0.mk (blk_set HP6.out 2 (.int .i64 (G at_).2.2))
  refine hK.out _ _ ?_
  clear hK K
  refine done_ (by kernel_rfl) ?_
  go_wp2
  go_ret
  rw [HS.out]
  exact ⟨rfl, HP7.out, (HB5.out.setCell 1 _).setCell 2 _⟩
set_option maxHeartbeats 8000000 in
set_option maxRecDepth 20000 in
theorem rd_num.int (G : Int → Int × Int × Int) (A : Option Addr) (m c : Nat) (O : List Int) (p : Nat) (at_ e0 : Int) (w : World) (hH : GetHyp 65 G A m c O) (hC : Kd.C (Kd.int .u8) w A m O) (hP : w.heap[p]? = some (.cells #[.slice A m c, .int .i64 at_, .int .i64 e0] 78 (0, 0))) :
    Calls Tryd.prog 39 #[.pointer (some ⟨p, 0, none⟩), .func (.func 65) #[] #[]] w fun e w' => e = .returned (.int .i64 (stepG G (at_, e0)).1) ∧ w'.heap[p]? = some (.cells #[.slice A m c, .int .i64 (stepG G (at_, e0)).2.1, .int .i64 (stepG G (at_, e0)).2.2] 78 (0, 0)) ∧ Bm p p w w' := by
  have HP := Aside0.mk hP
  have HC := Aside0.mk hC
  have HH := Aside0.mk (hH at_ w.drew (Kd.C_drew hC))
  obtain ⟨q0, q1, q2⟩ := rd_cells hP
  clear hP hC hH
  by_cases h0 : e0 = 0
  rotate_left
  · have e1 : (e0 != 0) = true := bne_iff_ne.mpr h0
    have HS : Aside0 (stepG G (at_, e0) = (0, (at_, e0))) := ⟨by unfold stepG; rw [if_neg h0]⟩
    clear h0
    go_enter Tryd.func39, Tryd.ntmps39
    go_wp2
    go_ret
    rw [HS.out]
    exact ⟨rfl, HP.out, Bm.refl _ _ _⟩
  have e1 : (e0 != 0) = false := bne_eq_false_iff_eq.mpr h0
  have HS : Aside0 (stepG G (at_, e0) = ((G at_).1, (G at_).2)) := ⟨by unfold stepG; rw [if_pos h0]⟩
  clear h0
  go_enter Tryd.func39, Tryd.ntmps39
  go_wp2_with fail
  refine start_ (n := 23) (S := fun w' => w'.cell? ⟨p, 0, none⟩ = some (.slice A m c) ∧ w'.cell? ⟨p, 1, none⟩ = some (.int .i64 at_)) (ds := [19, 22]) #[F_,F_,F_,F_,F_,F_,F_,F_,F_,F_,F_,F_,F_,F_,F_,F_,F_,F_,F_,F_,F_,F_,F_] (by kernel_rfl) rfl rfl ⟨(rd_cells (w := w.drew) HP.out).1, (rd_cells (w := w.drew) HP.out).2.1⟩ (fun hHeld => ?_)
  refine pure_ (i := 0) (N := some 12) (v := ?_) (a' := ?_) #[T_,F_,F_,F_,F_,F_,F_,F_,F_,F_,F_,F_,F_,F_,F_,F_,F_,F_,F_,F_,F_,F_,F_] rfl rfl (by kernel_rfl) (fun _ _ _ h => h) (Or.inl ⟨by rfl, ?_⟩) ?_ ?_
  rotate_left
  · intro w'
    go_simp
    with_reducible rfl
  rotate_left
  · simp only [Act.put, List.setIfInBounds_toArray, List.set_cons_zero, List.set_cons_succ, i64_w, i32_w]
    rfl
  refine pure_ (i := 1) (N := some 13) (v := ?_) (a' := ?_) #[T_,T_,F_,F_,F_,F_,F_,F_,F_,F_,F_,F_,F_,F_,F_,F_,F_,F_,F_,F_,F_,F_,F_] rfl rfl (by kernel_rfl) (fun _ _ _ h => h) (Or.inl ⟨by rfl, ?_⟩) ?_ ?_
  rotate_left
  · intro w'
    go_simp
    with_reducible rfl
  rotate_left
  · simp only [Act.put, List.setIfInBounds_toArray, List.set_cons_zero, List.set_cons_succ, i64_w, i32_w]
    rfl
  refine pure_ (i := 2) (N := some 14) (v := ?_) (a' := ?_) #[T_,T_,T_,F_,F_,F_,F_,F_,F_,F_,F_,F_,F_,F_,F_,F_,F_,F_,F_,F_,F_,F_,F_] rfl rfl (by kernel_rfl) (fun _ _ _ h => h) (Or.inl ⟨by rfl, ?_⟩) ?_ ?_
  rotate_left
  · intro w'
    go_simp
    with_reducible rfl
  rotate_left
  · simp only [Act.put, List.setIfInBounds_toArray, List.set_cons_zero, List.set_cons_succ, i64_w, i32_w]
    rfl
  refine pure_ (i := 3) (N := some 15) (v := ?_) (a' := ?_) #[T_,T_,T_,T_,F_,F_,F_,F_,F_,F_,F_,F_,F_,F_,F_,F_,F_,F_,F_,F_,F_,F_,F_] rfl rfl (by kernel_rfl) (fun _ _ _ h => h) (Or.inl ⟨by rfl, ?_⟩) ?_ ?_
  rotate_left
  · intro w'
    go_simp
    with_reducible rfl
  rotate_left
  · simp only [Act.put, List.setIfInBounds_toArray, List.set_cons_zero, List.set_cons_succ, i64_w, i32_w]
    rfl
  refine pure_ (i := 4) (N := some 16) (v := ?_) (a' := ?_) #[T_,T_,T_,T_,T_,F_,F_,F_,F_,F_,F_,F_,F_,F_,F_,F_,F_,F_,F_,F_,F_,F_,F_] rfl rfl (by kernel_rfl) (fun _ _ _ h => h) (Or.inl ⟨by rfl, ?_⟩) ?_ ?_
  rotate_left
  · intro w'
    go_simp
    with_reducible rfl
  rotate_left
  · simp only [Act.put, List.setIfInBounds_toArray, List.set_cons_zero, List.set_cons_succ, i64_w, i32_w]
    rfl
  refine pure_ (i := 5) (N := some 17) (v := ?_) (a' := ?_) #[T_,T_,T_,T_,T_,T_,F_,F_,F_,F_,F_,F_,F_,F_,F_,F_,F_,F_,F_,F_,F_,F_,F_] rfl rfl (by kernel_rfl) (fun _ _ _ h => h) (Or.inl ⟨by rfl, ?_⟩) ?_ ?_
  rotate_left
  · intro w'
    go_simp
    with_reducible rfl
  rotate_left
  · simp only [Act.put, List.setIfInBounds_toArray, List.set_cons_zero, List.set_cons_succ, i64_w, i32_w]
    rfl
  refine pure_ (i := 7) (N := some 19) (v := ?_) (a' := ?_) #[T_,T_,T_,T_,T_,T_,F_,T_,F_,F_,F_,F_,F_,F_,F_,F_,F_,F_,F_,F_,F_,F_,F_] rfl rfl (by kernel_rfl) (fun _ _ _ h => h) (Or.inl ⟨by rfl, ?_⟩) ?_ ?_
  rotate_left
  · intro w'
    go_simp
    with_reducible rfl
  rotate_left
  · simp only [Act.put, List.setIfInBounds_toArray, List.set_cons_zero, List.set_cons_succ, i64_w, i32_w]
    rfl
  refine pure_ (i := 8) (N := some 20) (v := ?_) (a' := ?_) #[T_,T_,T_,T_,T_,T_,F_,T_,T_,F_,F_,F_,F_,F_,F_,F_,F_,F_,F_,F_,F_,F_,F_] rfl rfl (by kernel_rfl) (fun _ _ _ h => h) (Or.inl ⟨by rfl, ?_⟩) ?_ ?_
  rotate_left
  · intro w'
    go_simp
    with_reducible rfl
  rotate_left
  · simp only [Act.put, List.setIfInBounds_toArray, List.set_cons_zero, List.set_cons_succ, i64_w, i32_w]
    rfl
  refine pure_ (i := 9) (N := some 21) (v := ?_) (a' := ?_) #[T_,T_,T_,T_,T_,T_,F_,T_,T_,T_,F_,F_,F_,F_,F_,F_,F_,F_,F_,F_,F_,F_,F_] rfl rfl (by kernel_rfl) (fun _ _ _ h => h) (Or.inl ⟨by rfl, ?_⟩) ?_ ?_
  rotate_left
  · intro w'
    go_simp
    with_reducible rfl
  rotate_left
  · simp only [Act.put, List.setIfInBounds_toArray, List.set_cons_zero, List.set_cons_succ, i64_w, i32_w]
    rfl
  refine take_ (i := 6) (N := some 18) (v := ?_) (a' := ?_) #[T_,T_,T_,T_,T_,T_,T_,T_,T_,T_,F_,F_,F_,F_,F_,F_,F_,F_,F_,F_,F_,F_,F_] rfl rfl (by kernel_rfl) (fun _ _ _ h => h) (Or.inl ⟨by rfl, ?_⟩) hHeld ?_ ?_
  rotate_left
  · rintro w' ⟨s0, s1⟩
    go_simp
    with_reducible rfl
  rotate_left
  · simp only [Act.put, List.setIfInBounds_toArray, List.set_cons_zero, List.set_cons_succ, i64_w, i32_w]
    rfl
  refine take_ (i := 10) (N := some 22) (v := ?_) (a' := ?_) #[T_,T_,T_,T_,T_,T_,T_,T_,T_,T_,T_,F_,F_,F_,F_,F_,F_,F_,F_,F_,F_,F_,F_] rfl rfl (by kernel_rfl) (fun _ _ _ h => h) (Or.inl ⟨by rfl, ?_⟩) hHeld ?_ ?_
  rotate_left
  · rintro w' ⟨s0, s1⟩
    go_simp
    with_reducible rfl
  rotate_left
  · simp only [Act.put, List.setIfInBounds_toArray, List.set_cons_zero, List.set_cons_succ, i64_w, i32_w]
    rfl
  refine one_ (i := 11) (N := some 23) #[T_,T_,T_,T_,T_,T_,T_,T_,T_,T_,T_,T_,F_,F_,F_,F_,F_,F_,F_,F_,F_,F_,F_] rfl rfl (by kernel_rfl) (by decide) (fun K hK => ?_)
  refine goesV_ (j := 14) Tryd.func65 (by kernel_rfl) rfl #[.slice A m c, .int .i64 at_] (by rfl) rfl rfl (by rfl) (by simp only [List.map_toArray, List.map_cons, List.map_nil]; rfl) ?_
  with_reducible refine (HH.out).mono ?_
  rintro e w5 ⟨rfl, hb5⟩
  refine ⟨_, rfl, ?_⟩
  have HP5 := Aside0.mk (blk_below (w := w.drew) HP.out hb5)
  have HB5 := Aside0.mk (((Bm.refl p p w).below (below_drew (Below.refl _ _))).below (w1 := w.drew) hb5)
  have qf5 := blk_frozen HP5.out 1
  have q52 := (rd_cells HP5.out).2.2
  clear hb5
  refine hK.out _ _ ⟨(rd_cells HP5.out).1, (rd_cells HP5.out).2.1⟩ (fun hHeld => ?_)
  clear hK K
  refine norm_ (a' := ?_) ?_ ?_
  rotate_left
  · show Act.put _ (some 23) _ = _
    simp only [Act.put, List.setIfInBounds_toArray, List.set_cons_zero, List.set_cons_succ, i64_w, i32_w]
    rfl
  refine pure_ (i := 12) (N := some 11) (v := ?_) (a' := ?_) #[T_,T_,T_,T_,T_,T_,T_,T_,T_,T_,T_,T_,T_,F_,F_,F_,F_,F_,F_,F_,F_,F_,F_] rfl rfl (by kernel_rfl) (fun _ _ _ h => h) (Or.inl ⟨by rfl, ?_⟩) ?_ ?_
  rotate_left
  · intro w'
    go_simp
    with_reducible rfl
  rotate_left
  · simp only [Act.put, List.setIfInBounds_toArray, List.set_cons_zero, List.set_cons_succ, i64_w, i32_w]
    rfl
  refine pure_ (i := 13) (N := some 24) (v := ?_) (a' := ?_) #[T_,T_,T_,T_,T_,T_,T_,T_,T_,T_,T_,T_,T_,T_,F_,F_,F_,F_,F_,F_,F_,F_,F_] rfl rfl (by kernel_rfl) (fun _ _ _ h => h) (Or.inl ⟨by rfl, ?_⟩) ?_ ?_
  rotate_left
  · intro w'
    go_simp
    with_reducible rfl
  rotate_left
  · simp only [Act.put, List.setIfInBounds_toArray, List.set_cons_zero, List.set_cons_succ, i64_w, i32_w]
    rfl
  refine pure_ (i := 14) (N := some 25) (v := ?_) (a' := ?_) #[T_,T_,T_,T_,T_,T_,T_,T_,T_,T_,T_,T_,T_,T_,T_,F_,F_,F_,F_,F_,F_,F_,F_] rfl rfl (by kernel_rfl) (fun _ _ _ h => h) (Or.inl ⟨by rfl, ?_⟩) ?_ ?_
  rotate_left
  · intro w'
    go_simp
    with_reducible rfl
  rotate_left
  · simp only [Act.put, List.setIfInBounds_toArray, List.set_cons_zero, List.set_cons_succ, i64_w, i32_w]
    rfl
  refine pure_ (i := 15) (N := some 26) (v := ?_) (a' := ?_) #[T_,T_,T_,T_,T_,T_,T_,T_,T_,T_,T_,T_,T_,T_,T_,T_,F_,F_,F_,F_,F_,F_,F_] rfl rfl (by kernel_rfl) (fun _ _ _ h => h) (Or.inl ⟨by rfl, ?_⟩) ?_ ?_
  rotate_left
  · intro w'
    go_simp
    with_reducible rfl
  rotate_left
  · simp only [Act.put, List.setIfInBounds_toArray, List.set_cons_zero, List.set_cons_succ, i64_w, i32_w]
    rfl
  refine pure_ (i := 16) (N := some 5) (v := ?_) (a' := ?_) #[T_,T_,T_,T_,T_,T_,T_,T_,T_,T_,T_,T_,T_,T_,T_,T_,T_,F_,F_,F_,F_,F_,F_] rfl rfl (by kernel_rfl) (fun _ _ _ h => h) (Or.inl ⟨by rfl, ?_⟩) ?_ ?_
  rotate_left
  · intro w'
    go_simp
    with_reducible rfl
  rotate_left
  · simp only [Act.put, List.setIfInBounds_toArray, List.set_cons_zero, List.set_cons_succ, i64_w, i32_w]
    rfl
  refine pure_ (i := 17) (N := some 27) (v := ?_) (a' := ?_) #[T_,T_,T_,T_,T_,T_,T_,T_,T_,T_,T_,T_,T_,T_,T_,T_,T_,T_,F_,F_,F_,F_,F_] rfl rfl (by kernel_rfl) (fun _ _ _ h => h) (Or.inl ⟨by rfl, ?_⟩) ?_ ?_
  rotate_left
  · intro w'
    go_simp
    with_reducible rfl
  rotate_left
  · simp only [Act.put, List.setIfInBounds_toArray, List.set_cons_zero, List.set_cons_succ, i64_w, i32_w]
    rfl
  refine pure_ (i := 18) (N := some 28) (v := ?_) (a' := ?_) #[T_,T_,T_,T_,T_,T_,T_,T_,T_,T_,T_,T_,T_,T_,T_,T_,T_,T_,T_,F_,F_,F_,F_] rfl rfl (by kernel_rfl) (fun _ _ _ h => h) (Or.inl ⟨by rfl, ?_⟩) ?_ ?_
  rotate_left
  · intro w'
    go_simp
    with_reducible rfl
  rotate_left
  · simp only [Act.put, List.setIfInBounds_toArray, List.set_cons_zero, List.set_cons_succ, i64_w, i32_w]
    rfl
  refine last_ (i := 19) (N := none) #[T_,T_,T_,T_,T_,T_,T_,T_,T_,T_,T_,T_,T_,T_,T_,T_,T_,T_,T_,T_,F_,F_,F_] rfl rfl (by kernel_rfl) (by decide) (fun K hK => ?_)
  refine skip_ (w1 := ?_) (by rfl) rfl ?_ ?_
  rotate_left
  · go_simp
    rfl
  have HP6 := Aside0.mk (blk_set HP5.out 1 (.int .i64 (G at_).2.1))
  have qf6 := blk_frozen HP6.out 2
  refine hK.out _ _ ?_
  clear hK K
  refine pure_ (i := 20) (N := some 29) (v := ?_) (a' := ?_) #[T_,T_,T_,T_,T_,T_,T_,T_,T_,T_,T_,T_,T_,T_,T_,T_,T_,T_,T_,T_,T_,F_,F_] rfl rfl (by kernel_rfl) (fun _ _ _ h => h) (Or.inl ⟨by rfl, ?_⟩) ?_ ?_
  rotate_left
  · intro w'
    go_simp
    with_reducible rfl
  rotate_left
  · simp only [Act.put, List.setIfInBounds_toArray, List.set_cons_zero, List.set_cons_succ, i64_w, i32_w]
    rfl
  refine pure_ (i := 21) (N := some 30) (v := ?_) (a' := ?_) #[T_,T_,T_,T_,T_,T_,T_,T_,T_,T_,T_,T_,T_,T_,T_,T_,T_,T_,T_,T_,T_,T_,F_] rfl rfl (by kernel_rfl) (fun _ _ _ h => h) (Or.inl ⟨by rfl, ?_⟩) ?_ ?_
  rotate_left
  · intro w'
    go_simp
    with_reducible rfl
  rotate_left
  · simp only [Act.put, List.setIfInBounds_toArray, List.set_cons_zero, List.set_cons_succ, i64_w, i32_w]
    rfl
  refine last_ (i := 22) (N := none) #[T_,T_,T_,T_,T_,T_,T_,T_,T_,T_,T_,T_,T_,T_,T_,T_,T_,T_,T_,T_,T_,T_,T_] rfl rfl (by kernel_rfl) (by decide) (fun K hK => ?_)
  refine skip_ (w1 := ?_) (by rfl) rfl ?_ ?_
  rotate_left
  · go_simp
    rfl
  have HP7 := Aside0.mk (blk_set HP6.out 2 (.int .i64 (G at_).2.2))
  refine hK.out _ _ ?_
  clear hK K
  refine done_ (by kernel_rfl) ?_
  go_wp2
  go_ret
  rw [HS.out]
  exact ⟨rfl, HP7.out, (HB5.out.setCell 1 _).setCell 2 _⟩
/-! ### num_Get: function 40 -/
mutual
def num_Get.j0 : Nat → List Int → Int → Bool → Option (Int × Int × Int)
  | 0, _, _, _ => none
  | k + 1, x0, x1, x17 => if x17 = true then (some (0, 0, 3)) else (num_Get.l0 k x0 x1 0 0)
def num_Get.l0 : Nat → List Int → Int → Int → Int → Option (Int × Int × Int)
  | 0, _, _, _, _ => none
  | k + 1, x0, x1, x7, x18 => if x18 < 9 then (if (wrap64 (x1 + x18)) ≥ (x0.length : Int) then (some (0, 0, 4)) else (if 0 ≤ (wrap64 (x1 + x18)) then (if (wrap64 (x1 + x18)) < (x0.length : Int) then (if 0 ≤ (wrap64 (7 * x18)) then (if (rd x0 (wrap64 (x1 + x18))) > 127 then (num_Get.l0 k x0 x1 (Go.bits .or .i64 x7 (shl .i64 (wrap64 (Go.bits .and .u8 (rd x0 (wrap64 (x1 + x18))) 127)) (wrap64 (7 * x18)))) (wrap64 (x18 + 1))) else (if (rd x0 (wrap64 (x1 + x18))) = 0 then (num_Get.j2 k x1 (Go.bits .or .i64 x7 (shl .i64 (wrap64 (Go.bits .and .u8 (rd x0 (wrap64 (x1 + x18))) 127)) (wrap64 (7 * x18)))) x18 (decide (x18 > 0))) else (num_Get.j2 k x1 (Go.bits .or .i64 x7 (shl .i64 (wrap64 (Go.bits .and .u8 (rd x0 (wrap64 (x1 + x18))) 127)) (wrap64 (7 * x18)))) x18 false))) else (none)) else (none)) else (none))) else (some (0, 0, 5))
def num_Get.j2 : Nat → Int → Int → Int → Bool → Option (Int × Int × Int)
  | 0, _, _, _, _ => none
  | k + 1, x1, x7, x8, x43 => if x43 = true then (some (0, 0, 5)) else (if x7 > 4611686018427387903 then (some (0, 0, 7)) else (some (x7, wrap64 ((wrap64 (x1 + x8)) + 1), 0)))
end
def num_Get.f (k : Nat) (l0 : List Int) (a1 : Int) : Option (Int × Int × Int) := if a1 < 0 then (num_Get.j0 k l0 a1 true) else (num_Get.j0 k l0 a1 (decide (a1 > (l0.length : Int))))
set_option maxHeartbeats 8000000 in
set_option maxRecDepth 100000 in
theorem num_Get.calls (k : Nat) (A0 : Option Addr) (c0 : Nat) (l0 : List Int) (a1 : Int) (r1 : Int) (r2 : Int) (r3 : Int) (w : World) (hr0 : Kd.C (Kd.int .u8) w A0 l0.length l0) (hc0 : l0.length ≤ c0) (h : num_Get.f k l0 a1 = some (r1, r2, r3)) :
    Calls Tryd.prog 40 #[.slice A0 l0.length c0, .int .i64 a1] w fun e w' => e = .returned (.tuple #[.int .i64 r1, .int .i64 r2, .int .i64 r3]) ∧ Drawn0 w w' := by
  have HR0 := Aside0.mk hr0
  have HC0 := Aside0.mk hc0
  clear hr0 hc0
  have H : (if a1 < 0 then (num_Get.j0 k l0 a1 true) else (num_Get.j0 k l0 a1 (decide (a1 > (l0.length : Int))))) = some (r1, r2, r3) := h
  clear h
  have HC3 := Aside0.mk H
  clear H
  go_enter Tryd.func40, Tryd.ntmps40
  go_upto_region 1 with (fail)
  go_cut [17] (fun v17 wc => ∃ (kq : Nat) (x17_2 : Bool), v17 = .bool x17_2 ∧ Aside0 (num_Get.j0 kq l0 a1 x17_2 = some (r1, r2, r3)) ∧ Aside0 (kq ≤ k) ∧ Drawn0 w wc)
  case first =>
    have H := HC3.out
    clear HC3
    by_cases c4 : a1 < 0
    · rw [if_pos c4] at H
      have c4b0 : decide (a1 < 0) = true := decide_eq_true c4
      clear c4
      (first | rw [c4b0] | (simp only [i64_w, i32_w]; rw [c4b0]) | skip)
      have H' := Aside0.mk H
      clear H
      go_wp2
      go_meet
      case rel => exact ⟨_, (true), (by first | rfl | (simp; done) | (simp [*]; done)), H', ⟨by first | omega | exact Nat.le_refl _⟩, by repeat (first | exact Drawn0.refl _ | apply Drawn0.step)⟩
    · rw [if_neg c4] at H
      have c4b0 : decide (a1 < 0) = false := decide_eq_false c4
      clear c4
      (first | rw [c4b0] | (simp only [i64_w, i32_w]; rw [c4b0]) | skip)
      have H' := Aside0.mk H
      clear H
      go_wp2
      go_meet
      case rel => exact ⟨_, (decide (a1 > (l0.length : Int))), (by first | rfl | (simp; done) | (simp [*]; done)), H', ⟨by first | omega | exact Nat.le_refl _⟩, by repeat (first | exact Drawn0.refl _ | apply Drawn0.step)⟩
  case rest =>
    clear HC3
    try clear p2
    try clear c4
    try clear c4b0
    obtain ⟨kq, x17_2, rfl, HA, HJ2, ⟨mc2, rfl⟩⟩ := hcut
    cases kq with
    | zero => exact absurd HA.out (by simp [num_Get.j0])
    | succ kj2 =>
      have H := HA.out
      clear HA
      simp only [num_Get.j0] at H
      by_cases c5 : x17_2 = true
      · subst c5
        have H1 : (some (0, 0, 3)) = some (r1, r2, r3) := by rw [if_pos rfl] at H; exact H
        clear H
        have H := H1
        clear H1
        simp only [Option.some.injEq, Prod.mk.injEq] at H
        obtain ⟨rfl, rfl, rfl⟩ := H
        go_wp2
        go_ret3
        exact ⟨by first | rfl | (simp; done) | (simp [*]; done), by repeat (first | exact Drawn0.refl _ | apply Drawn0.step)⟩
      · replace c5 := Bool.eq_false_iff.mpr c5
        subst c5
        have H1 : (num_Get.l0 kj2 l0 a1 0 0) = some (r1, r2, r3) := by rw [if_neg (show ¬ (false = true) by decide)] at H; exact H
        clear H
        have H := H1
        clear H1
        have H' := Aside0.mk H
        clear H
        go_wp2
        go_loopg [7, 18] kj2 (fun kq v7 v18 w' => ∃ (x7_2 : Int) (x18_2 : Int), v7 = .int .i64 x7_2 ∧ v18 = .int .i64 x18_2 ∧ Aside0 (num_Get.l0 kq l0 a1 x7_2 x18_2 = some (r1, r2, r3)) ∧ Aside0 (kq ≤ kj2) ∧ Drawn0 w w')
        case atStart => exact ⟨(0), (0), (by first | rfl | (simp; done) | (simp [*]; done)), (by first | rfl | (simp; done) | (simp [*]; done)), H', ⟨Nat.le_refl _⟩, by repeat (first | exact Drawn0.refl _ | apply Drawn0.step)⟩
        case round =>
          clear H'
          try clear c2
          try clear p2
          try clear c4
          try clear c4b0
          try clear c5
          try clear p2
          obtain ⟨x7_2, x18_2, rfl, rfl, HA, HK2, ⟨m2, rfl⟩⟩ := hrel
          cases gk with
          | zero => exact absurd HA.out (by simp [num_Get.l0])
          | succ k2 =>
            have H := HA.out
            clear HA
            simp only [num_Get.l0] at H
            by_cases c6 : x18_2 < 9
            · rw [if_pos c6] at H
              have c6b0 : decide (x18_2 < 9) = true := decide_eq_true c6
              clear c6
              by_cases c7 : (wrap64 (a1 + x18_2)) ≥ (l0.length : Int)
              · rw [if_pos c7] at H
                have c7b0 : decide ((l0.length : Int) ≤ (wrap64 (a1 + x18_2))) = true := decide_eq_true c7
                clear c7
                simp only [Option.some.injEq, Prod.mk.injEq] at H
                obtain ⟨rfl, rfl, rfl⟩ := H
                go_wp2
                go_ret3
                exact ⟨by first | rfl | (simp; done) | (simp [*]; done), by repeat (first | exact Drawn0.refl _ | apply Drawn0.step)⟩
              · rw [if_neg c7] at H
                have c7b0 : decide ((l0.length : Int) ≤ (wrap64 (a1 + x18_2))) = false := decide_eq_false c7
                clear c7
                obtain ⟨ji8, hji8⟩ : ∃ j_ : Int, (wrap64 (a1 + x18_2)) = j_ := ⟨_, rfl⟩
                replace H : (if 0 ≤ (ji8) then (if (ji8) < (l0.length : Int) then (if 0 ≤ (wrap64 (7 * x18_2)) then (if (rd l0 (ji8)) > 127 then (num_Get.l0 k2 l0 a1 (Go.bits .or .i64 x7_2 (shl .i64 (wrap64 (Go.bits .and .u8 (rd l0 (ji8)) 127)) (wrap64 (7 * x18_2)))) (wrap64 (x18_2 + 1))) else (if (rd l0 (ji8)) = 0 then (num_Get.j2 k2 a1 (Go.bits .or .i64 x7_2 (shl .i64 (wrap64 (Go.bits .and .u8 (rd l0 (ji8)) 127)) (wrap64 (7 * x18_2)))) x18_2 (decide (x18_2 > 0))) else (num_Get.j2 k2 a1 (Go.bits .or .i64 x7_2 (shl .i64 (wrap64 (Go.bits .and .u8 (rd l0 (ji8)) 127)) (wrap64 (7 * x18_2)))) x18_2 false))) else (none)) else (none)) else (none)) = some (r1, r2, r3) := by first | (rw [hji8] at H; exact H) | (simp only [hji8] at H ⊢; exact H)
                (try rw [hji8] at c7b0)
                have hji8w : (IntKind.i64.wrap (a1 + x18_2)) = ji8 := (i64_w _).trans hji8
                by_cases c9 : 0 ≤ (ji8)
                · rw [if_pos c9] at H
                  have c9b0 : decide (0 ≤ (ji8)) = true := decide_eq_true c9
                  clear c9
                  by_cases c10 : (ji8) < (l0.length : Int)
                  · rw [if_pos c10] at H
                    have c10b0 : decide ((ji8) < (l0.length : Int)) = true := decide_eq_true c10
                    clear c10
                    obtain ⟨ji11, hji11⟩ : ∃ j_ : Int, (wrap64 (7 * x18_2)) = j_ := ⟨_, rfl⟩
                    replace H : (if 0 ≤ (ji11) then (if (rd l0 (ji8)) > 127 then (num_Get.l0 k2 l0 a1 (Go.bits .or .i64 x7_2 (shl .i64 (wrap64 (Go.bits .and .u8 (rd l0 (ji8)) 127)) (ji11))) (wrap64 (x18_2 + 1))) else (if (rd l0 (ji8)) = 0 then (num_Get.j2 k2 a1 (Go.bits .or .i64 x7_2 (shl .i64 (wrap64 (Go.bits .and .u8 (rd l0 (ji8)) 127)) (ji11))) x18_2 (decide (x18_2 > 0))) else (num_Get.j2 k2 a1 (Go.bits .or .i64 x7_2 (shl .i64 (wrap64 (Go.bits .and .u8 (rd l0 (ji8)) 127)) (ji11))) x18_2 false))) else (none)) = some (r1, r2, r3) := by first | (rw [hji11] at H; exact H) | (simp only [hji11] at H ⊢; exact H)
                    have hji11w : (IntKind.i64.wrap (7 * x18_2)) = ji11 := (i64_w _).trans hji11
                    by_cases c12 : 0 ≤ (ji11)
                    · rw [if_pos c12] at H
                      have c12b0 := eq_true c12
                      have c12b1 : decide (0 ≤ (ji11)) = true := decide_eq_true c12
                      clear c12
                      obtain ⟨ji13, hji13⟩ : ∃ j_ : Int, (shl .i64 (wrap64 (Go.bits .and .u8 (rd l0 (ji8)) 127)) (ji11)) = j_ := ⟨_, rfl⟩
                      replace H : (if (rd l0 (ji8)) > 127 then (num_Get.l0 k2 l0 a1 (Go.bits .or .i64 x7_2 (ji13)) (wrap64 (x18_2 + 1))) else (if (rd l0 (ji8)) = 0 then (num_Get.j2 k2 a1 (Go.bits .or .i64 x7_2 (ji13)) x18_2 (decide (x18_2 > 0))) else (num_Get.j2 k2 a1 (Go.bits .or .i64 x7_2 (ji13)) x18_2 false))) = some (r1, r2, r3) := by first | (rw [hji13] at H; exact H) | (simp only [hji13] at H ⊢; exact H)
                      have hji13_ : (IntKind.i64.wrap ((wrap64 (Go.bits .and .u8 (rd l0 (ji8)) 127)) * 2 ^ min (ji11).toNat 64)) = ji13 := hji13
                      have hji13z : (ji11) ≤ 64 → (IntKind.i64.wrap ((wrap64 (Go.bits .and .u8 (rd l0 (ji8)) 127)) * 2 ^ (ji11).toNat)) = ji13 := shl_small hji13
                      have hji13y : (wrap64 ((wrap64 (Go.bits .and .u8 (rd l0 (ji8)) 127)) * 2 ^ min (ji11).toNat 64)) = ji13 := (i64_w _).symm.trans hji13_
                      have hji13x : (ji11) ≤ 64 → (wrap64 ((wrap64 (Go.bits .and .u8 (rd l0 (ji8)) 127)) * 2 ^ (ji11).toNat)) = ji13 := fun h_ => (i64_w _).symm.trans (hji13z h_)
                      by_cases c14 : (rd l0 (ji8)) > 127
                      · rw [if_pos c14] at H
                        have c14b0 : decide (127 < (rd l0 (ji8))) = true := decide_eq_true c14
                        clear c14
                        have H' := Aside0.mk H
                        clear H
                        have p234 : 0 ≤ ((ji8) : Int) := of_decide_eq_true (by first | (with_reducible assumption) | assumption)
                        have q234 : (ji8) < (l0.length : Int) := of_decide_eq_true (by first | (with_reducible assumption) | assumption)
                        obtain ⟨ad234, e234, hx234_0⟩ := Kd.at_int HR0.out (ji8) p234 q234
                        cases e234
                        replace p234 := eq_true p234
                        replace q234 := eq_true q234
                        go_wp2
                        go_roundg k2
                        case measure => have := HJ2.out; have := HK2.out; omega
                        case rel => exact ⟨(Go.bits .or .i64 x7_2 (ji13)), (wrap64 (x18_2 + 1)), (by first | rfl | (simp; done) | (simp only [← hji13] <;> (first | rfl | simp)) | (simp [*]; done)), (by first | rfl | (simp; done) | (simp [*]; done)), H', ⟨by have := HJ2.out; have := HK2.out; omega⟩, by repeat (first | exact Drawn0.refl _ | apply Drawn0.step)⟩
                      · rw [if_neg c14] at H
                        have c14b0 : decide (127 < (rd l0 (ji8))) = false := decide_eq_false c14
                        clear c14
                        have HC15 := Aside0.mk H
                        clear H
                        have p234 : 0 ≤ ((ji8) : Int) := of_decide_eq_true (by first | (with_reducible assumption) | assumption)
                        have q234 : (ji8) < (l0.length : Int) := of_decide_eq_true (by first | (with_reducible assumption) | assumption)
                        obtain ⟨ad234, e234, hx234_0⟩ := Kd.at_int HR0.out (ji8) p234 q234
                        cases e234
                        replace p234 := eq_true p234
                        replace q234 := eq_true q234
                        go_upto_region 12 with (fail)
                        go_cut [43] (fun v43 wc => ∃ (kq : Nat) (x43_14 : Bool), v43 = .bool x43_14 ∧ Aside0 (num_Get.j2 kq a1 (Go.bits .or .i64 x7_2 (ji13)) x18_2 x43_14 = some (r1, r2, r3)) ∧ Aside0 (kq ≤ k2) ∧ Drawn0 w wc)
                        case first =>
                          have H := HC15.out
                          clear HC15
                          by_cases c16 : (rd l0 (ji8)) = 0
                          · rw [if_pos c16] at H
                            have c16b0 : ((rd l0 (ji8)) == 0) = true := beq_iff_eq.mpr c16
                            have c16b1 : ((rd l0 (ji8)) != 0) = false := bne_eq_false_iff_eq.mpr c16
                            clear c16
                            (first | rw [c16b0] | (simp only [i64_w, i32_w]; rw [c16b0]) | skip)
                            have H' := Aside0.mk H
                            clear H
                            go_wp2
                            go_meet
                            case rel => exact ⟨_, (decide (x18_2 > 0)), (by first | rfl | (simp; done) | (simp [*]; done)), H', ⟨by have := HJ2.out; have := HK2.out; first | omega | exact Nat.le_refl _⟩, by repeat (first | exact Drawn0.refl _ | apply Drawn0.step)⟩
                          · rw [if_neg c16] at H
                            have c16b0 : ((rd l0 (ji8)) == 0) = false := beq_eq_false_iff_ne.mpr c16
                            have c16b1 : ((rd l0 (ji8)) != 0) = true := bne_iff_ne.mpr c16
                            (first | rw [c16b0] | (simp only [i64_w, i32_w]; rw [c16b0]) | skip)
                            have H' := Aside0.mk H
                            clear H
                            go_wp2
                            go_meet
                            case rel => exact ⟨_, (false), (by first | rfl | (simp; done) | (simp [*]; done)), H', ⟨by have := HJ2.out; have := HK2.out; first | omega | exact Nat.le_refl _⟩, by repeat (first | exact Drawn0.refl _ | apply Drawn0.step)⟩
                        case rest =>
                          clear HC15
                          try clear c1
                          try clear c2
                          try clear p2
                          try clear q2
                          try clear hx2
                          try clear c4
                          try clear c4b0
                          try clear c5
                          try clear c6
                          try clear c6b0
                          try clear p6
                          try clear c7
                          try clear c7b0
                          try clear c9
                          try clear c9b0
                          try clear c10
                          try clear c10b0
                          try clear c12
                          try clear c12b0
                          try clear c12b1
                          try clear c14
                          try clear c14b0
                          try clear c16
                          try clear c16b0
                          try clear c16b1
                          try clear hx234_0
                          try clear p2
                          try clear p234
                          try clear q234
                          obtain ⟨kq, x43_14, rfl, HA, HJ14, ⟨mc14, rfl⟩⟩ := hcut
                          cases kq with
                          | zero => exact absurd HA.out (by simp [num_Get.j2])
                          | succ kj14 =>
                            have H := HA.out
                            clear HA
                            simp only [num_Get.j2] at H
                            by_cases c17 : x43_14 = true
                            · subst c17
                              have H1 : (some (0, 0, 5)) = some (r1, r2, r3) := by rw [if_pos rfl] at H; exact H
                              clear H
                              have H := H1
                              clear H1
                              simp only [Option.some.injEq, Prod.mk.injEq] at H
                              obtain ⟨rfl, rfl, rfl⟩ := H
                              go_wp2
                              go_ret3
                              exact ⟨by first | rfl | (simp; done) | (simp only [← hji8, ← hji11, ← hji13] <;> (first | rfl | simp)) | (simp [*]; done), by repeat (first | exact Drawn0.refl _ | apply Drawn0.step)⟩
                            · replace c17 := Bool.eq_false_iff.mpr c17
                              subst c17
                              have H1 : (if (Go.bits .or .i64 x7_2 (ji13)) > 4611686018427387903 then (some (0, 0, 7)) else (some ((Go.bits .or .i64 x7_2 (ji13)), wrap64 ((wrap64 (a1 + x18_2)) + 1), 0))) = some (r1, r2, r3) := by rw [if_neg (show ¬ (false = true) by decide)] at H; exact H
                              clear H
                              have H := H1
                              clear H1
                              by_cases c18 : (Go.bits .or .i64 x7_2 (ji13)) > 4611686018427387903
                              · rw [if_pos c18] at H
                                have c18b0 : decide (4611686018427387903 < (Go.bits .or .i64 x7_2 (ji13))) = true := decide_eq_true c18
                                clear c18
                                simp only [Option.some.injEq, Prod.mk.injEq] at H
                                obtain ⟨rfl, rfl, rfl⟩ := H
                                go_wp2
                                go_ret3
                                exact ⟨by first | rfl | (simp; done) | (simp only [← hji8, ← hji11, ← hji13] <;> (first | rfl | simp)) | (simp [*]; done), by repeat (first | exact Drawn0.refl _ | apply Drawn0.step)⟩
                              · rw [if_neg c18] at H
                                have c18b0 : decide (4611686018427387903 < (Go.bits .or .i64 x7_2 (ji13))) = false := decide_eq_false c18
                                clear c18
                                simp only [Option.some.injEq, Prod.mk.injEq] at H
                                obtain ⟨rfl, rfl, rfl⟩ := H
                                go_wp2
                                go_ret3
                                exact ⟨by first | rfl | (simp; done) | (simp only [← hji8, ← hji11, ← hji13] <;> (first | rfl | simp)) | (simp [*]; done), by repeat (first | exact Drawn0.refl _ | apply Drawn0.step)⟩
                    · rw [if_neg c12] at H
                      exact absurd H (by simp)
                  · rw [if_neg c10] at H
                    exact absurd H (by simp)
                · rw [if_neg c9] at H
                  exact absurd H (by simp)
            · rw [if_neg c6] at H
              have c6b0 : decide (x18_2 < 9) = false := decide_eq_false c6
              clear c6
              simp only [Option.some.injEq, Prod.mk.injEq] at H
              obtain ⟨rfl, rfl, rfl⟩ := H
              go_wp2
              go_ret3
              exact ⟨by first | rfl | (simp; done) | (simp [*]; done), by repeat (first | exact Drawn0.refl _ | apply Drawn0.step)⟩

/-! ### num_GetText: function 64 -/
def num_GetText.f (k : Nat) (l0 : List Int) (a1 : Int) (a2 : Int) : Option (ByteArray × Int × Int) := (num_Get.f k l0 a1).bind fun bt235 => (if bt235.2.2 = 0 then (if bt235.1 > (mx a2 0) then (some ((⟨#[]⟩ : ByteArray), 0, 7)) else (if bt235.1 > (wrap64 ((l0.length : Int) - bt235.2.1)) then (some ((⟨#[]⟩ : ByteArray), 0, 4)) else (if 0 ≤ bt235.2.1 then (if bt235.2.1 ≤ (wrap64 (bt235.2.1 + bt235.1)) then (if (wrap64 (bt235.2.1 + bt235.1)) ≤ (l0.length : Int) then (some (strOfNums ((l0.take ((wrap64 (bt235.2.1 + bt235.1)) : Int).toNat).drop (bt235.2.1 : Int).toNat), wrap64 (bt235.2.1 + bt235.1), 0)) else (none)) else (none)) else (none)))) else (some ((⟨#[]⟩ : ByteArray), 0, bt235.2.2)))
set_option maxHeartbeats 8000000 in
set_option maxRecDepth 100000 in
theorem num_GetText.calls (k : Nat) (A0 : Option Addr) (c0 : Nat) (l0 : List Int) (a1 : Int) (a2 : Int) (r1 : ByteArray) (r2 : Int) (r3 : Int) (w : World) (hr0 : Kd.C (Kd.int .u8) w A0 l0.length l0) (hc0 : l0.length ≤ c0) (h : num_GetText.f k l0 a1 a2 = some (r1, r2, r3)) :
    Calls Tryd.prog 64 #[.slice A0 l0.length c0, .int .i64 a1, .int .i64 a2] w fun e w' => e = .returned (.tuple #[.string r1, .int .i64 r2, .int .i64 r3]) ∧ Below w.heap.size w w' := by
  have HR0 := Aside0.mk hr0
  have HC0 := Aside0.mk hc0
  clear hr0 hc0
  have HB := Aside0.mk (Below.refl w.heap.size w)
  have H : ((num_Get.f k l0 a1).bind fun bt235 => (if bt235.2.2 = 0 then (if bt235.1 > (mx a2 0) then (some ((⟨#[]⟩ : ByteArray), 0, 7)) else (if bt235.1 > (wrap64 ((l0.length : Int) - bt235.2.1)) then (some ((⟨#[]⟩ : ByteArray), 0, 4)) else (if 0 ≤ bt235.2.1 then (if bt235.2.1 ≤ (wrap64 (bt235.2.1 + bt235.1)) then (if (wrap64 (bt235.2.1 + bt235.1)) ≤ (l0.length : Int) then (some (strOfNums ((l0.take ((wrap64 (bt235.2.1 + bt235.1)) : Int).toNat).drop (bt235.2.1 : Int).toNat), wrap64 (bt235.2.1 + bt235.1), 0)) else (none)) else (none)) else (none)))) else (some ((⟨#[]⟩ : ByteArray), 0, bt235.2.2)))) = some (r1, r2, r3) := h
  clear h
  replace H := Option.bind_eq_some_iff.mp H
  obtain ⟨⟨t235, t236, t237⟩, A40, H⟩ := H
  replace H : (if t237 = 0 then (if t235 > (mx a2 0) then (some ((⟨#[]⟩ : ByteArray), 0, 7)) else (if t235 > (wrap64 ((l0.length : Int) - t236)) then (some ((⟨#[]⟩ : ByteArray), 0, 4)) else (if 0 ≤ t236 then (if t236 ≤ (wrap64 (t236 + t235)) then (if (wrap64 (t236 + t235)) ≤ (l0.length : Int) then (some (strOfNums ((l0.take ((wrap64 (t236 + t235)) : Int).toNat).drop (t236 : Int).toNat), wrap64 (t236 + t235), 0)) else (none)) else (none)) else (none)))) else (some ((⟨#[]⟩ : ByteArray), 0, t237))) = some (r1, r2, r3) := H
  have A4 := Aside0.mk A40
  clear A40
  by_cases c5 : t237 = 0
  · rw [if_pos c5] at H
    have c5b0 : (t237 == 0) = true := beq_iff_eq.mpr c5
    have c5b1 : (t237 != 0) = false := bne_eq_false_iff_eq.mpr c5
    clear c5
    obtain ⟨ji6, hji6⟩ : ∃ j_ : Int, (mx a2 0) = j_ := ⟨_, rfl⟩
    replace H : (if t235 > (ji6) then (some ((⟨#[]⟩ : ByteArray), 0, 7)) else (if t235 > (wrap64 ((l0.length : Int) - t236)) then (some ((⟨#[]⟩ : ByteArray), 0, 4)) else (if 0 ≤ t236 then (if t236 ≤ (wrap64 (t236 + t235)) then (if (wrap64 (t236 + t235)) ≤ (l0.length : Int) then (some (strOfNums ((l0.take ((wrap64 (t236 + t235)) : Int).toNat).drop (t236 : Int).toNat), wrap64 (t236 + t235), 0)) else (none)) else (none)) else (none)))) = some (r1, r2, r3) := by first | (rw [hji6] at H; exact H) | (simp only [hji6] at H ⊢; exact H)
    (try rw [hji6] at A4)
    (try (have hji6l : 0 ≤ ji6 := by (rw [← hji6]; unfold mx; (repeat' split) <;> omega)))
    (try (have hji6m : 0 ≤ ji6 := by omega))
    have hji6_ : (if a2 < 0 then 0 else a2) = ji6 := hji6
    by_cases c7 : t235 > (ji6)
    · rw [if_pos c7] at H
      have c7b0 : decide ((ji6) < t235) = true := decide_eq_true c7
      clear c7
      simp only [Option.some.injEq, Prod.mk.injEq] at H
      obtain ⟨rfl, rfl, rfl⟩ := H
      go_enter Tryd.func64, Tryd.ntmps64
      go_wp2_with (first | ((with_reducible refine gate_callee (f := 40) rfl ?_); refine goesL_ (some 15) rfl rfl Tryd.func40 (by kernel_rfl) rfl #[.slice A0 l0.length c0, .int .i64 a1] rfl (by (try simp only [List.map_toArray, List.map_cons, List.map_nil]); first | done | rfl | (simp only [List.length_drop, List.length_take]; rfl) | (simp; done) | (simp; (repeat' apply And.intro) <;> rfl)) ?_; (with_reducible refine (num_Get.calls k _ _ l0 a1 t235 t236 t237 _ ?side1 ?side2 A4.out).mono ?_); (case side1 => repeat (first | exact HR0.out | (with_reducible refine Kd.C_alloc ?_ _) | (with_reducible refine Kd.C_drewN ?_ _) | (with_reducible refine Kd.C_drew ?_))); (case side2 => exact HC0.out); rintro e w' ⟨rfl, ⟨nd, rfl⟩⟩; refine ⟨_, rfl, ?_⟩))
      go_ret3
      exact ⟨by first | rfl | (simp [errW_none, errW_some] <;> rfl) | (simp only [← hji6]; first | rfl | (simp [errW_none, errW_some] <;> rfl)) | (simp [*, errW_none, errW_some] <;> rfl), by repeat (first | (with_reducible first | exact HB.out | apply below_alloc | apply pw_below_drewN | apply below_drew1) | exact HB.out)⟩
    · rw [if_neg c7] at H
      have c7b0 : decide ((ji6) < t235) = false := decide_eq_false c7
      clear c7
      by_cases c8 : t235 > (wrap64 ((l0.length : Int) - t236))
      · rw [if_pos c8] at H
        have c8b0 : decide ((wrap64 ((l0.length : Int) - t236)) < t235) = true := decide_eq_true c8
        clear c8
        simp only [Option.some.injEq, Prod.mk.injEq] at H
        obtain ⟨rfl, rfl, rfl⟩ := H
        go_enter Tryd.func64, Tryd.ntmps64
        go_wp2_with (first | ((with_reducible refine gate_callee (f := 40) rfl ?_); refine goesL_ (some 15) rfl rfl Tryd.func40 (by kernel_rfl) rfl #[.slice A0 l0.length c0, .int .i64 a1] rfl (by (try simp only [List.map_toArray, List.map_cons, List.map_nil]); first | done | rfl | (simp only [List.length_drop, List.length_take]; rfl) | (simp; done) | (simp; (repeat' apply And.intro) <;> rfl)) ?_; (with_reducible refine (num_Get.calls k _ _ l0 a1 t235 t236 t237 _ ?side1 ?side2 A4.out).mono ?_); (case side1 => repeat (first | exact HR0.out | (with_reducible refine Kd.C_alloc ?_ _) | (with_reducible refine Kd.C_drewN ?_ _) | (with_reducible refine Kd.C_drew ?_))); (case side2 => exact HC0.out); rintro e w' ⟨rfl, ⟨nd, rfl⟩⟩; refine ⟨_, rfl, ?_⟩))
        go_ret3
        exact ⟨by first | rfl | (simp [errW_none, errW_some] <;> rfl) | (simp only [← hji6]; first | rfl | (simp [errW_none, errW_some] <;> rfl)) | (simp [*, errW_none, errW_some] <;> rfl), by repeat (first | (with_reducible first | exact HB.out | apply below_alloc | apply pw_below_drewN | apply below_drew1) | exact HB.out)⟩
      · rw [if_neg c8] at H
        have c8b0 : decide ((wrap64 ((l0.length : Int) - t236)) < t235) = false := decide_eq_false c8
        clear c8
        by_cases c9 : 0 ≤ t236
        · rw [if_pos c9] at H
          have c9b0 := eq_true c9
          have c9b1 : decide (0 ≤ t236) = true := decide_eq_true c9
          clear c9
          by_cases c10 : t236 ≤ (wrap64 (t236 + t235))
          · rw [if_pos c10] at H
            have c10b0 := eq_true c10
            have c10b1 : decide (t236 ≤ (wrap64 (t236 + t235))) = true := decide_eq_true c10
            by_cases c11 : (wrap64 (t236 + t235)) ≤ (l0.length : Int)
            · rw [if_pos c11] at H
              have c11b0 := eq_true c11
              have c11b1 : decide ((wrap64 (t236 + t235)) ≤ (l0.length : Int)) = true := decide_eq_true c11
              simp only [Option.some.injEq, Prod.mk.injEq] at H
              obtain ⟨rfl, rfl, rfl⟩ := H
              go_enter Tryd.func64, Tryd.ntmps64
              go_wp2_with (first | ((with_reducible refine gate_callee (f := 40) rfl ?_); refine goesL_ (some 15) rfl rfl Tryd.func40 (by kernel_rfl) rfl #[.slice A0 l0.length c0, .int .i64 a1] rfl (by (try simp only [List.map_toArray, List.map_cons, List.map_nil]); first | done | rfl | (simp only [List.length_drop, List.length_take]; rfl) | (simp; done) | (simp; (repeat' apply And.intro) <;> rfl)) ?_; (with_reducible refine (num_Get.calls k _ _ l0 a1 t235 t236 t237 _ ?side1 ?side2 A4.out).mono ?_); (case side1 => repeat (first | exact HR0.out | (with_reducible refine Kd.C_alloc ?_ _) | (with_reducible refine Kd.C_drewN ?_ _) | (with_reducible refine Kd.C_drew ?_))); (case side2 => exact HC0.out); rintro e w' ⟨rfl, ⟨nd, rfl⟩⟩; refine ⟨_, rfl, ?_⟩; obtain ⟨i012, hi012, _, hsz12, _⟩ := info_parts info5; obtain ⟨A12, hcut12, hA12, hC12⟩ := print_mid_of (P := Tryd.prog) (Value.int .u8) 0 41 5 .i64 .i64 Tryd.underlying41 hi012 hsz12 A0 c0 l0 t236 (wrap64 (t236 + t235)) (of_decide_eq_true (by first | (with_reducible assumption) | assumption)) (by first | omega | exact of_decide_eq_true (by first | (with_reducible assumption) | assumption)) (of_decide_eq_true (by first | (with_reducible assumption) | assumption)) HC0.out; have HR238 := Aside0.mk (Kd.C_of_reads (h1 := fun _ => rfl) (hA12 _ (Kd.reads_of_C HR0.out))); have HC238 := Aside0.mk hC12; clear hA12 hC12 hi012 hsz12; have hcv13 := Kd.C_string (P := Tryd.prog) (A := A12) (c := (c0 - t236.toNat)) Tryd.underlying41 Tryd.underlying5 Tryd.underlying9 HR238.out; have hcw13 := fun (m_ : Nat) => Kd.C_string (P := Tryd.prog) (A := A12) (c := (c0 - t236.toNat)) Tryd.underlying41 Tryd.underlying5 Tryd.underlying9 (Kd.C_drewN HR238.out m_); have hcl13 : ((l0.take ((wrap64 (t236 + t235)) : Int).toNat).drop (t236 : Int).toNat).length = ((wrap64 (t236 + t235)).toNat - t236.toNat) := (by rw [List.length_drop, List.length_take]; have h_ : ((wrap64 (t236 + t235)) : Int) ≤ (l0.length : Int) := of_decide_eq_true (by first | (with_reducible assumption) | assumption); omega); (try rw [hcl13] at hcv13 hcw13); clear hcl13))
              go_ret3
              exact ⟨by first | rfl | (simp [errW_none, errW_some] <;> rfl) | (simp only [← hji6]; first | rfl | (simp [errW_none, errW_some] <;> rfl)) | (simp [*, errW_none, errW_some] <;> rfl), by repeat (first | (with_reducible first | exact HB.out | apply below_alloc | apply pw_below_drewN | apply below_drew1) | exact HB.out)⟩
            · rw [if_neg c11] at H
              exact absurd H (by simp)
          · rw [if_neg c10] at H
            exact absurd H (by simp)
        · rw [if_neg c9] at H
          exact absurd H (by simp)
  · rw [if_neg c5] at H
    have c5b0 : (t237 == 0) = false := beq_eq_false_iff_ne.mpr c5
    have c5b1 : (t237 != 0) = true := bne_iff_ne.mpr c5
    simp only [Option.some.injEq, Prod.mk.injEq] at H
    obtain ⟨rfl, rfl, rfl⟩ := H
    go_enter Tryd.func64, Tryd.ntmps64
    go_wp2_with (first | ((with_reducible refine gate_callee (f := 40) rfl ?_); refine goesL_ (some 15) rfl rfl Tryd.func40 (by kernel_rfl) rfl #[.slice A0 l0.length c0, .int .i64 a1] rfl (by (try simp only [List.map_toArray, List.map_cons, List.map_nil]); first | done | rfl | (simp only [List.length_drop, List.length_take]; rfl) | (simp; done) | (simp; (repeat' apply And.intro) <;> rfl)) ?_; (with_reducible refine (num_Get.calls k _ _ l0 a1 t235 t236 t237 _ ?side1 ?side2 A4.out).mono ?_); (case side1 => repeat (first | exact HR0.out | (with_reducible refine Kd.C_alloc ?_ _) | (with_reducible refine Kd.C_drewN ?_ _) | (with_reducible refine Kd.C_drew ?_))); (case side2 => exact HC0.out); rintro e w' ⟨rfl, ⟨nd, rfl⟩⟩; refine ⟨_, rfl, ?_⟩))
    go_ret3
    exact ⟨by first | rfl | (simp [errW_none, errW_some] <;> rfl) | (simp [*, errW_none, errW_some] <;> rfl), by repeat (first | (with_reducible first | exact HB.out | apply below_alloc | apply pw_below_drewN | apply below_drew1) | exact HB.out)⟩

/-! ### num_GetInt: function 65 -/
def num_GetInt.f (k : Nat) (l0 : List Int) (a1 : Int) : Option (Int × Int × Int) := (num_Get.f k l0 a1).bind fun bt239 => (if bt239.2.2 = 0 then (if (Go.bits .and .i64 bt239.1 1) = 1 then (some (wrap64 ((wrap64 (-(wrap64 (Int.tdiv bt239.1 2)))) - 1), bt239.2.1, 0)) else (some (wrap64 (Int.tdiv bt239.1 2), bt239.2.1, 0))) else (some (0, 0, bt239.2.2)))
set_option maxHeartbeats 8000000 in
set_option maxRecDepth 100000 in
theorem num_GetInt.calls (k : Nat) (A0 : Option Addr) (c0 : Nat) (l0 : List Int) (a1 : Int) (r1 : Int) (r2 : Int) (r3 : Int) (w : World) (hr0 : Kd.C (Kd.int .u8) w A0 l0.length l0) (hc0 : l0.length ≤ c0) (h : num_GetInt.f k l0 a1 = some (r1, r2, r3)) :
    Calls Tryd.prog 65 #[.slice A0 l0.length c0, .int .i64 a1] w fun e w' => e = .returned (.tuple #[.int .i64 r1, .int .i64 r2, .int .i64 r3]) ∧ Drawn0 w w' := by
  have HR0 := Aside0.mk hr0
  have HC0 := Aside0.mk hc0
  clear hr0 hc0
  have H : ((num_Get.f k l0 a1).bind fun bt239 => (if bt239.2.2 = 0 then (if (Go.bits .and .i64 bt239.1 1) = 1 then (some (wrap64 ((wrap64 (-(wrap64 (Int.tdiv bt239.1 2)))) - 1), bt239.2.1, 0)) else (some (wrap64 (Int.tdiv bt239.1 2), bt239.2.1, 0))) else (some (0, 0, bt239.2.2)))) = some (r1, r2, r3) := h
  clear h
  replace H := Option.bind_eq_some_iff.mp H
  obtain ⟨⟨t239, t240, t241⟩, A30, H⟩ := H
  replace H : (if t241 = 0 then (if (Go.bits .and .i64 t239 1) = 1 then (some (wrap64 ((wrap64 (-(wrap64 (Int.tdiv t239 2)))) - 1), t240, 0)) else (some (wrap64 (Int.tdiv t239 2), t240, 0))) else (some (0, 0, t241))) = some (r1, r2, r3) := H
  have A3 := Aside0.mk A30
  clear A30
  by_cases c4 : t241 = 0
  · rw [if_pos c4] at H
    have c4b0 : (t241 == 0) = true := beq_iff_eq.mpr c4
    have c4b1 : (t241 != 0) = false := bne_eq_false_iff_eq.mpr c4
    clear c4
    by_cases c5 : (Go.bits .and .i64 t239 1) = 1
    · rw [if_pos c5] at H
      have c5b0 : ((Go.bits .and .i64 t239 1) == 1) = true := beq_iff_eq.mpr c5
      have c5b1 : ((Go.bits .and .i64 t239 1) != 1) = false := bne_eq_false_iff_eq.mpr c5
      clear c5
      simp only [Option.some.injEq, Prod.mk.injEq] at H
      obtain ⟨rfl, rfl, rfl⟩ := H
      go_enter Tryd.func65, Tryd.ntmps65
      go_wp2_with (first | ((with_reducible refine gate_callee (f := 40) rfl ?_); refine goesL_ (some 13) rfl rfl Tryd.func40 (by kernel_rfl) rfl #[.slice A0 l0.length c0, .int .i64 a1] rfl (by (try simp only [List.map_toArray, List.map_cons, List.map_nil]); first | done | rfl | (simp only [List.length_drop, List.length_take]; rfl) | (simp; done) | (simp; (repeat' apply And.intro) <;> rfl)) ?_; (with_reducible refine (num_Get.calls k _ _ l0 a1 t239 t240 t241 _ ?side1 ?side2 A3.out).mono ?_); (case side1 => repeat (first | exact HR0.out | (with_reducible refine Kd.C_alloc ?_ _) | (with_reducible refine Kd.C_drewN ?_ _) | (with_reducible refine Kd.C_drew ?_))); (case side2 => exact HC0.out); rintro e w' ⟨rfl, ⟨nd, rfl⟩⟩; refine ⟨_, rfl, ?_⟩))
      go_ret3
      exact ⟨by first | rfl | (simp; done) | (simp [*]; done), by repeat (first | exact Drawn0.refl _ | apply Drawn0.step)⟩
    · rw [if_neg c5] at H
      have c5b0 : ((Go.bits .and .i64 t239 1) == 1) = false := beq_eq_false_iff_ne.mpr c5
      have c5b1 : ((Go.bits .and .i64 t239 1) != 1) = true := bne_iff_ne.mpr c5
      simp only [Option.some.injEq, Prod.mk.injEq] at H
      obtain ⟨rfl, rfl, rfl⟩ := H
      go_enter Tryd.func65, Tryd.ntmps65
      go_wp2_with (first | ((with_reducible refine gate_callee (f := 40) rfl ?_); refine goesL_ (some 13) rfl rfl Tryd.func40 (by kernel_rfl) rfl #[.slice A0 l0.length c0, .int .i64 a1] rfl (by (try simp only [List.map_toArray, List.map_cons, List.map_nil]); first | done | rfl | (simp only [List.length_drop, List.length_take]; rfl) | (simp; done) | (simp; (repeat' apply And.intro) <;> rfl)) ?_; (with_reducible refine (num_Get.calls k _ _ l0 a1 t239 t240 t241 _ ?side1 ?side2 A3.out).mono ?_); (case side1 => repeat (first | exact HR0.out | (with_reducible refine Kd.C_alloc ?_ _) | (with_reducible refine Kd.C_drewN ?_ _) | (with_reducible refine Kd.C_drew ?_))); (case side2 => exact HC0.out); rintro e w' ⟨rfl, ⟨nd, rfl⟩⟩; refine ⟨_, rfl, ?_⟩))
      go_ret3
      exact ⟨by first | rfl | (simp; done) | (simp [*]; done), by repeat (first | exact Drawn0.refl _ | apply Drawn0.step)⟩
  · rw [if_neg c4] at H
    have c4b0 : (t241 == 0) = false := beq_eq_false_iff_ne.mpr c4
    have c4b1 : (t241 != 0) = true := bne_iff_ne.mpr c4
    simp only [Option.some.injEq, Prod.mk.injEq] at H
    obtain ⟨rfl, rfl, rfl⟩ := H
    go_enter Tryd.func65, Tryd.ntmps65
    go_wp2_with (first | ((with_reducible refine gate_callee (f := 40) rfl ?_); refine goesL_ (some 13) rfl rfl Tryd.func40 (by kernel_rfl) rfl #[.slice A0 l0.length c0, .int .i64 a1] rfl (by (try simp only [List.map_toArray, List.map_cons, List.map_nil]); first | done | rfl | (simp only [List.length_drop, List.length_take]; rfl) | (simp; done) | (simp; (repeat' apply And.intro) <;> rfl)) ?_; (with_reducible refine (num_Get.calls k _ _ l0 a1 t239 t240 t241 _ ?side1 ?side2 A3.out).mono ?_); (case side1 => repeat (first | exact HR0.out | (with_reducible refine Kd.C_alloc ?_ _) | (with_reducible refine Kd.C_drewN ?_ _) | (with_reducible refine Kd.C_drew ?_))); (case side2 => exact HC0.out); rintro e w' ⟨rfl, ⟨nd, rfl⟩⟩; refine ⟨_, rfl, ?_⟩))
    go_ret3
    exact ⟨by first | rfl | (simp; done) | (simp [*]; done), by repeat (first | exact Drawn0.refl _ | apply Drawn0.step)⟩
/-! ### ledger_reader_line: function 41, a contract of my own -/
theorem Bm.trans' {p mb : Nat} {w w1 w2 : World} (h : Bm p mb w w1) (h2 : w2.os = w1.os ∧ w2.tape = w1.tape ∧ w2.output = w1.output ∧ w1.heap.size ≤ w2.heap.size ∧ ∀ j, j < w.heap.size → w2.heap[j]? = w1.heap[j]?) : Bm p mb w w2 :=
  ⟨h2.1.trans h.os, h2.2.1.trans h.tape, h2.2.2.1.trans h.output, Nat.le_trans h.size h2.2.2.2.1, fun j hj a b => (h2.2.2.2.2 j hj).trans (h.block j hj a b)⟩
theorem Bm.setNew {p mb : Nat} {w w1 : World} (h : Bm p mb w w1) {g : Nat} (hg : w.heap.size ≤ g) (i : Nat) (u : Value) : Bm p mb w (w1.setCell ⟨g, i, none⟩ u) :=
  h.trans' ⟨rfl, rfl, rfl, by simp [World.setCell], fun j hj => Below.heap_setCell w1 ⟨g, i, none⟩ u j (by show j ≠ g; omega)⟩
open Go.Proofs.YtniboafnkiijcaaDoor.Num in
def rdA (O : List Int) (a0 : Int) : ByteArray × Int × Int := getTextS O a0 200
open Go.Proofs.YtniboafnkiijcaaDoor.Num in
def rd1 (O : List Int) (a0 : Int) : Int × (Int × Int) := stepG (getS O) (rdA O a0).2
open Go.Proofs.YtniboafnkiijcaaDoor.Num in
def rd2 (O : List Int) (a0 : Int) : Int × (Int × Int) := stepG (getS O) (rd1 O a0).2
open Go.Proofs.YtniboafnkiijcaaDoor.Num in
def rd3 (O : List Int) (a0 : Int) : Int × (Int × Int) := stepG (getIntS O) (rd2 O a0).2
open Go.Proofs.YtniboafnkiijcaaDoor.Num in
def rd4 (O : List Int) (a0 : Int) : Int × (Int × Int) := stepG (getS O) (rd3 O a0).2
def rdX (O : List Int) (a0 : Int) (sm : ByteArray) : Ln := ⟨(rdA O a0).1, (rd1 O a0).1, (rd2 O a0).1, (rd3 O a0).1, (rd4 O a0).1, sm⟩
def rdE (O : List Int) (a0 : Int) : Int := if (rd4 O a0).2.2 = 0 then (if (O.length : Int) - (rd4 O a0).2.1 < 32 then 4 else 0) else (rd4 O a0).2.2
def rdSm (O : List Int) (a0 : Int) : ByteArray := strOfNums ((O.take ((rd4 O a0).2.1 + 32).toNat).drop (rd4 O a0).2.1.toNat)
/-- A line out of bytes at a place: the line, the place behind it, and what is wrong. -/
def rdLine (O : List Int) (a0 : Int) : Ln × (Int × Int) :=
  if rdE O a0 = 0 then (rdX O a0 (rdSm O a0), ((rd4 O a0).2.1 + 32, mayF (rdX O a0 (rdSm O a0)))) else (rdX O a0 ⟨#[]⟩, ((rd4 O a0).2.1, rdE O a0))
open Go.Proofs.YtniboafnkiijcaaDoor.Num in
theorem getS_bd {O : List Int} (hb : Byt O) (a : Int) (h : (getS O a).2.2 = 0) : 0 ≤ (getS O a).2.1 ∧ (getS O a).2.1 ≤ O.length := by
  rcases getS_range O a hb with ⟨h1, _⟩ | ⟨_, x, hx, _, h0, h1, h2, _⟩
  · exact absurd h h1
  · omega
theorem stepG_bd {G : Int → Int × Int × Int} {n : Nat} (hG : ∀ a, (G a).2.2 = 0 → 0 ≤ (G a).2.1 ∧ (G a).2.1 ≤ (n : Int)) (s : Int × Int) (h : (stepG G s).2.2 = 0) : 0 ≤ (stepG G s).2.1 ∧ (stepG G s).2.1 ≤ (n : Int) := by
  unfold stepG at h ⊢
  split
  · rename_i h1
    rw [if_pos h1] at h
    exact hG _ h
  · rename_i h1
    rw [if_neg h1] at h
    exact absurd h h1
open Go.Proofs.YtniboafnkiijcaaDoor.Num in
theorem rd4_bd {O : List Int} (hb : Byt O) (a0 : Int) (h : (rd4 O a0).2.2 = 0) : 0 ≤ (rd4 O a0).2.1 ∧ (rd4 O a0).2.1 ≤ (O.length : Int) := stepG_bd (fun a => getS_bd hb a) _ h
open Go.Proofs.YtniboafnkiijcaaDoor.Num in
theorem rdA_size {O : List Int} (hb : Byt O) (a0 : Int) : (rdA O a0).1.size ≤ 200 := by
  unfold rdA getTextS
  split
  · split
    · exact Nat.zero_le _
    · split
      · exact Nat.zero_le _
      · rename_i h1 h2
        rw [show mx (200 : Int) 0 = 200 from rfl] at h1
        have hb2 : Byt ((O.take ((getS O a0).2.1 + (getS O a0).1).toNat).drop (getS O a0).2.1.toNat) := (hb.take _).drop _
        have e := congrArg List.length (strOfNums_bytes hb2)
        rw [bytesOf_length] at e
        rw [e, List.length_drop, List.length_take]
        omega
  · exact Nat.zero_le _
open Go.Proofs.YtniboafnkiijcaaDoor.Num in
def TextHyp (f : Nat) (A : Option Addr) (m c : Nat) (O : List Int) : Prop :=
  ∀ (a : Int) (w1 : World), Kd.C (Kd.int .u8) w1 A m O → Calls Tryd.prog f #[.slice A m c, .int .i64 a, .int .i64 200] w1 fun e w' => e = .returned (.tuple #[.string (getTextS O a 200).1, .int .i64 (getTextS O a 200).2.1, .int .i64 (getTextS O a 200).2.2]) ∧ Below w1.heap.size w1 w'
theorem lnz_cells {w : World} {g : Nat} {a b c d e f : Value} {ty : Nat} (h : w.heap[g]? = some (.cells #[a, b, c, d, e, f] ty (0, 0))) : w.cell? ⟨g, 0, none⟩ = some a ∧ w.cell? ⟨g, 1, none⟩ = some b ∧ w.cell? ⟨g, 2, none⟩ = some c ∧ w.cell? ⟨g, 3, none⟩ = some d ∧ w.cell? ⟨g, 4, none⟩ = some e ∧ w.cell? ⟨g, 5, none⟩ = some f := by
  refine ⟨?_, ?_, ?_, ?_, ?_, ?_⟩ <;> rw [cell_of_row w g _ _ ty (0, 0) h] <;> rfl
set_option maxHeartbeats 16000000 in
set_option maxRecDepth 100000 in
open Go.Proofs.YtniboafnkiijcaaDoor.Num in
theorem rd_line.at_ (A : Option Addr) (m c : Nat) (O : List Int) (p : Nat) (a0 : Int) (w : World) (hb : Byt O) (hm : O.length = m) (hmc : m ≤ c) (hmx : m ≤ 1000000) (hH1 : GetHyp 40 (getS O) A m c O) (hH2 : GetHyp 65 (getIntS O) A m c O) (hH3 : TextHyp 64 A m c O)
    (hCH : ∀ w', Bm p p w w' → Kd.C (Kd.int .u8) w' A m O) (hP : w.heap[p]? = some (.cells #[.slice A m c, .int .i64 a0, .int .i64 0] 78 (0, 0))) :
    Calls Tryd.prog 41 #[.pointer (some ⟨p, 0, none⟩)] w fun e w' => e = .returned (lnV (rdLine O a0).1) ∧ w'.heap[p]? = some (.cells #[.slice A m c, .int .i64 (rdLine O a0).2.1, .int .i64 (rdLine O a0).2.2] 78 (0, 0)) ∧ Bm p p w w' := by
  obtain ⟨g2, hg2⟩ : ∃ g, w.heap.size = g := ⟨_, rfl⟩
  obtain ⟨g3, hg3⟩ : ∃ g, g2 + 1 = g := ⟨_, rfl⟩
  obtain ⟨w1, hw1⟩ : ∃ z, w.alloc (.cells #[.string ⟨#[]⟩, .int .i64 0, .int .i64 0, .int .i64 0, .int .i64 0, .string ⟨#[]⟩] 68) = z := ⟨_, rfl⟩
  have hs1 : w1.heap.size = g3 := by rw [← hw1, ← hg3, ← hg2]; simp
  obtain ⟨w2, hw2⟩ : ∃ z, w1.alloc (.cells #[.string ⟨#[]⟩, .int .i64 0, .int .i64 0, .int .i64 0, .int .i64 0, .string ⟨#[]⟩] 68) = z := ⟨_, rfl⟩
  have HB1 : Below w.heap.size w w1 := by rw [← hw1]; exact below_alloc (Below.refl _ _) _
  have HB2b : Below w1.heap.size w1 w2 := by rw [← hw2]; exact below_alloc (Below.refl _ _) _
  have HY1 : w1.heap[g2]? = some (.cells #[.string ⟨#[]⟩, .int .i64 0, .int .i64 0, .int .i64 0, .int .i64 0, .string ⟨#[]⟩] 68 (0, 0)) := by rw [← hw1, ← hg2]; exact blk_new w _
  have HX2 : Aside0 (w2.heap[g3]? = some (.cells #[.string ⟨#[]⟩, .int .i64 0, .int .i64 0, .int .i64 0, .int .i64 0, .string ⟨#[]⟩] 68 (0, 0))) := ⟨by rw [← hw2, ← hs1]; exact blk_new w1 _⟩
  have HY2 := Aside0.mk (blk_below HY1 HB2b)
  have HP2 := Aside0.mk (blk_below (blk_below hP HB1) HB2b)
  have HB2 := Aside0.mk (((Bm.refl p p w).below HB1).below HB2b)
  have HNE : Aside0 (g3 ≠ p ∧ g2 ≠ p ∧ g2 ≠ g3 ∧ w.heap.size ≤ g3 ∧ w.heap.size ≤ g2) := ⟨by have := blk_lt hP; exact ⟨by omega, by omega, by omega, by omega, by omega⟩⟩
  have HCH := Aside0.mk hCH
  have H1 := Aside0.mk hH1
  have H2 := Aside0.mk hH2
  have HT := Aside0.mk (hH3 a0 w2.drew (hCH _ (HB2.out.below (below_drew (Below.refl _ _)))))
  have HBY := Aside0.mk hb
  have HM := Aside0.mk (And.intro hm (And.intro hmc hmx))
  have q2 := (rd_cells HP2.out).2.2
  clear HB1 HB2b HY1 hb hm hmc hmx hH1 hH2 hH3 hCH hP
  go_enter Tryd.func41, Tryd.ntmps41
  go_wp2_with fail
  refine start_ (n := 23) (S := fun w' => w'.cell? ⟨p, 0, none⟩ = some (.slice A m c) ∧ w'.cell? ⟨p, 1, none⟩ = some (.int .i64 a0)) (ds := [16, 19, 22]) #[F_,F_,F_,F_,F_,F_,F_,F_,F_,F_,F_,F_,F_,F_,F_,F_,F_,F_,F_,F_,F_,F_,F_] (by kernel_rfl) rfl rfl ⟨(rd_cells (w := w2.drew) HP2.out).1, (rd_cells (w := w2.drew) HP2.out).2.1⟩ (fun hHeld => ?_)
  refine pure_ (i := 0) (N := some 10) (v := ?_) (a' := ?_) #[T_,F_,F_,F_,F_,F_,F_,F_,F_,F_,F_,F_,F_,F_,F_,F_,F_,F_,F_,F_,F_,F_,F_] rfl rfl (by kernel_rfl) (fun _ _ _ h => h) (Or.inl ⟨by rfl, ?_⟩) ?_ ?_
  rotate_left
  · intro w'
    go_simp
    with_reducible rfl
  rotate_left
  · simp only [Act.put, List.setIfInBounds_toArray, List.set_cons_zero, List.set_cons_succ, i64_w, i32_w]
    rfl
  refine pure_ (i := 1) (N := some 11) (v := ?_) (a' := ?_) #[T_,T_,F_,F_,F_,F_,F_,F_,F_,F_,F_,F_,F_,F_,F_,F_,F_,F_,F_,F_,F_,F_,F_] rfl rfl (by kernel_rfl) (fun _ _ _ h => h) (Or.inl ⟨by rfl, ?_⟩) ?_ ?_
  rotate_left
  · intro w'
    go_simp
    with_reducible rfl
  rotate_left
  · simp only [Act.put, List.setIfInBounds_toArray, List.set_cons_zero, List.set_cons_succ, i64_w, i32_w]
    rfl
  refine pure_ (i := 2) (N := some 12) (v := ?_) (a' := ?_) #[T_,T_,T_,F_,F_,F_,F_,F_,F_,F_,F_,F_,F_,F_,F_,F_,F_,F_,F_,F_,F_,F_,F_] rfl rfl (by kernel_rfl) (fun _ _ _ h => h) (Or.inl ⟨by rfl, ?_⟩) ?_ ?_
  rotate_left
  · intro w'
    go_simp
    with_reducible rfl
  rotate_left
  · simp only [Act.put, List.setIfInBounds_toArray, List.set_cons_zero, List.set_cons_succ, i64_w, i32_w]
    rfl
  refine pure_ (i := 3) (N := some 13) (v := ?_) (a' := ?_) #[T_,T_,T_,T_,F_,F_,F_,F_,F_,F_,F_,F_,F_,F_,F_,F_,F_,F_,F_,F_,F_,F_,F_] rfl rfl (by kernel_rfl) (fun _ _ _ h => h) (Or.inl ⟨by rfl, ?_⟩) ?_ ?_
  rotate_left
  · intro w'
    go_simp
    with_reducible rfl
  rotate_left
  · simp only [Act.put, List.setIfInBounds_toArray, List.set_cons_zero, List.set_cons_succ, i64_w, i32_w]
    rfl
  refine pure_ (i := 4) (N := some 14) (v := ?_) (a' := ?_) #[T_,T_,T_,T_,T_,F_,F_,F_,F_,F_,F_,F_,F_,F_,F_,F_,F_,F_,F_,F_,F_,F_,F_] rfl rfl (by kernel_rfl) (fun _ _ _ h => h) (Or.inl ⟨by rfl, ?_⟩) ?_ ?_
  rotate_left
  · intro w'
    go_simp
    with_reducible rfl
  rotate_left
  · simp only [Act.put, List.setIfInBounds_toArray, List.set_cons_zero, List.set_cons_succ, i64_w, i32_w]
    rfl
  refine pure_ (i := 6) (N := some 16) (v := ?_) (a' := ?_) #[T_,T_,T_,T_,T_,F_,T_,F_,F_,F_,F_,F_,F_,F_,F_,F_,F_,F_,F_,F_,F_,F_,F_] rfl rfl (by kernel_rfl) (fun _ _ _ h => h) (Or.inl ⟨by rfl, ?_⟩) ?_ ?_
  rotate_left
  · intro w'
    go_simp
    with_reducible rfl
  rotate_left
  · simp only [Act.put, List.setIfInBounds_toArray, List.set_cons_zero, List.set_cons_succ, i64_w, i32_w]
    rfl
  refine pure_ (i := 7) (N := some 17) (v := ?_) (a' := ?_) #[T_,T_,T_,T_,T_,F_,T_,T_,F_,F_,F_,F_,F_,F_,F_,F_,F_,F_,F_,F_,F_,F_,F_] rfl rfl (by kernel_rfl) (fun _ _ _ h => h) (Or.inl ⟨by rfl, ?_⟩) ?_ ?_
  rotate_left
  · intro w'
    go_simp
    with_reducible rfl
  rotate_left
  · simp only [Act.put, List.setIfInBounds_toArray, List.set_cons_zero, List.set_cons_succ, i64_w, i32_w]
    rfl
  refine pure_ (i := 8) (N := some 18) (v := ?_) (a' := ?_) #[T_,T_,T_,T_,T_,F_,T_,T_,T_,F_,F_,F_,F_,F_,F_,F_,F_,F_,F_,F_,F_,F_,F_] rfl rfl (by kernel_rfl) (fun _ _ _ h => h) (Or.inl ⟨by rfl, ?_⟩) ?_ ?_
  rotate_left
  · intro w'
    go_simp
    with_reducible rfl
  rotate_left
  · simp only [Act.put, List.setIfInBounds_toArray, List.set_cons_zero, List.set_cons_succ, i64_w, i32_w]
    rfl
  refine take_ (i := 5) (N := some 15) (v := ?_) (a' := ?_) #[T_,T_,T_,T_,T_,T_,T_,T_,T_,F_,F_,F_,F_,F_,F_,F_,F_,F_,F_,F_,F_,F_,F_] rfl rfl (by kernel_rfl) (fun _ _ _ h => h) (Or.inl ⟨by rfl, ?_⟩) hHeld ?_ ?_
  rotate_left
  · rintro w' ⟨s0, s1⟩
    go_simp
    with_reducible rfl
  rotate_left
  · simp only [Act.put, List.setIfInBounds_toArray, List.set_cons_zero, List.set_cons_succ, i64_w, i32_w]
    rfl
  refine take_ (i := 9) (N := some 19) (v := ?_) (a' := ?_) #[T_,T_,T_,T_,T_,T_,T_,T_,T_,T_,F_,F_,F_,F_,F_,F_,F_,F_,F_,F_,F_,F_,F_] rfl rfl (by kernel_rfl) (fun _ _ _ h => h) (Or.inl ⟨by rfl, ?_⟩) hHeld ?_ ?_
  rotate_left
  · rintro w' ⟨s0, s1⟩
    go_simp
    with_reducible rfl
  rotate_left
  · simp only [Act.put, List.setIfInBounds_toArray, List.set_cons_zero, List.set_cons_succ, i64_w, i32_w]
    rfl
  refine one_ (i := 10) (N := some 20) #[T_,T_,T_,T_,T_,T_,T_,T_,T_,T_,T_,F_,F_,F_,F_,F_,F_,F_,F_,F_,F_,F_,F_] rfl rfl (by kernel_rfl) (by decide) (fun K hK => ?_)
  refine goes_ Tryd.func64 (by kernel_rfl) rfl #[.slice A m c, .int .i64 a0, .int .i64 200] (by rfl) rfl rfl (by simp only [List.map_toArray, List.map_cons, List.map_nil]; rfl) ?_
  with_reducible refine (HT.out).mono ?_
  rintro e w5 ⟨rfl, hb5⟩
  refine ⟨_, rfl, ?_⟩
  have HP5 := Aside0.mk (blk_below (w := w2.drew) HP2.out hb5)
  have HX5 := Aside0.mk (blk_below (w := w2.drew) HX2.out hb5)
  have HY5 := Aside0.mk (blk_below (w := w2.drew) HY2.out hb5)
  have HB5 := Aside0.mk ((HB2.out.below (below_drew (Below.refl _ _))).below (w1 := w2.drew) hb5)
  have qx := blk_frozen HX5.out 0
  have qx0 := (lnz_cells HX5.out).1
  have qp1 := blk_frozen HP5.out 1
  have qp2 := blk_frozen HP5.out 2
  have qc1 := (rd_cells HP5.out).2.1
  have qc2 := (rd_cells HP5.out).2.2
  clear hb5
  refine hK.out _ _ ⟨(rd_cells HP5.out).1, (rd_cells HP5.out).2.1⟩ (fun hHeld => ?_)
  clear hK K
  refine norm_ (a' := ?_) ?_ ?_
  rotate_left
  · show Act.put _ (some 20) _ = _
    simp only [Act.put, List.setIfInBounds_toArray, List.set_cons_zero, List.set_cons_succ, i64_w, i32_w]
    rfl
  refine pure_ (i := 11) (N := some 9) (v := ?_) (a' := ?_) #[T_,T_,T_,T_,T_,T_,T_,T_,T_,T_,T_,T_,F_,F_,F_,F_,F_,F_,F_,F_,F_,F_,F_] rfl rfl (by kernel_rfl) (fun _ _ _ h => h) (Or.inl ⟨by rfl, ?_⟩) ?_ ?_
  rotate_left
  · intro w'
    go_simp
    with_reducible rfl
  rotate_left
  · simp only [Act.put, List.setIfInBounds_toArray, List.set_cons_zero, List.set_cons_succ, i64_w, i32_w]
    rfl
  refine pure_ (i := 12) (N := some 21) (v := ?_) (a' := ?_) #[T_,T_,T_,T_,T_,T_,T_,T_,T_,T_,T_,T_,T_,F_,F_,F_,F_,F_,F_,F_,F_,F_,F_] rfl rfl (by kernel_rfl) (fun _ _ _ h => h) (Or.inl ⟨by rfl, ?_⟩) ?_ ?_
  rotate_left
  · intro w'
    go_simp
    with_reducible rfl
  rotate_left
  · simp only [Act.put, List.setIfInBounds_toArray, List.set_cons_zero, List.set_cons_succ, i64_w, i32_w]
    rfl
  refine pure_ (i := 13) (N := some 22) (v := ?_) (a' := ?_) #[T_,T_,T_,T_,T_,T_,T_,T_,T_,T_,T_,T_,T_,T_,F_,F_,F_,F_,F_,F_,F_,F_,F_] rfl rfl (by kernel_rfl) (fun _ _ _ h => h) (Or.inl ⟨by rfl, ?_⟩) ?_ ?_
  rotate_left
  · intro w'
    go_simp
    with_reducible rfl
  rotate_left
  · simp only [Act.put, List.setIfInBounds_toArray, List.set_cons_zero, List.set_cons_succ, i64_w, i32_w]
    rfl
  refine pure_ (i := 14) (N := some 23) (v := ?_) (a' := ?_) #[T_,T_,T_,T_,T_,T_,T_,T_,T_,T_,T_,T_,T_,T_,T_,F_,F_,F_,F_,F_,F_,F_,F_] rfl rfl (by kernel_rfl) (fun _ _ _ h => h) (Or.inl ⟨by rfl, ?_⟩) ?_ ?_
  rotate_left
  · intro w'
    go_simp
    with_reducible rfl
  rotate_left
  · simp only [Act.put, List.setIfInBounds_toArray, List.set_cons_zero, List.set_cons_succ, i64_w, i32_w]
    rfl
  refine pure_ (i := 15) (N := some 24) (v := ?_) (a' := ?_) #[T_,T_,T_,T_,T_,T_,T_,T_,T_,T_,T_,T_,T_,T_,T_,T_,F_,F_,F_,F_,F_,F_,F_] rfl rfl (by kernel_rfl) (fun _ _ _ h => h) (Or.inl ⟨by rfl, ?_⟩) ?_ ?_
  rotate_left
  · intro w'
    go_simp
    with_reducible rfl
  rotate_left
  · simp only [Act.put, List.setIfInBounds_toArray, List.set_cons_zero, List.set_cons_succ, i64_w, i32_w]
    rfl
  refine last_ (i := 16) (N := none) #[T_,T_,T_,T_,T_,T_,T_,T_,T_,T_,T_,T_,T_,T_,T_,T_,T_,F_,F_,F_,F_,F_,F_] rfl rfl (by kernel_rfl) (by decide) (fun K hK => ?_)
  refine skip_ (w1 := ?_) (by rfl) rfl ?_ ?_
  rotate_left
  · go_simp
    rfl
  refine hK.out _ _ ?_
  clear hK K
  refine pure_ (i := 17) (N := some 25) (v := ?_) (a' := ?_) #[T_,T_,T_,T_,T_,T_,T_,T_,T_,T_,T_,T_,T_,T_,T_,T_,T_,T_,F_,F_,F_,F_,F_] rfl rfl (by kernel_rfl) (fun _ _ _ h => h) (Or.inl ⟨by rfl, ?_⟩) ?_ ?_
  rotate_left
  · intro w'
    go_simp
    with_reducible rfl
  rotate_left
  · simp only [Act.put, List.setIfInBounds_toArray, List.set_cons_zero, List.set_cons_succ, i64_w, i32_w]
    rfl
  refine pure_ (i := 18) (N := some 26) (v := ?_) (a' := ?_) #[T_,T_,T_,T_,T_,T_,T_,T_,T_,T_,T_,T_,T_,T_,T_,T_,T_,T_,T_,F_,F_,F_,F_] rfl rfl (by kernel_rfl) (fun _ _ _ h => h) (Or.inl ⟨by rfl, ?_⟩) ?_ ?_
  rotate_left
  · intro w'
    go_simp
    with_reducible rfl
  rotate_left
  · simp only [Act.put, List.setIfInBounds_toArray, List.set_cons_zero, List.set_cons_succ, i64_w, i32_w]
    rfl
  refine last_ (i := 19) (N := none) #[T_,T_,T_,T_,T_,T_,T_,T_,T_,T_,T_,T_,T_,T_,T_,T_,T_,T_,T_,T_,F_,F_,F_] rfl rfl (by kernel_rfl) (by decide) (fun K hK => ?_)
  refine skip_ (w1 := ?_) (by rfl) rfl ?_ ?_
  rotate_left
  · go_simp
    rfl
  refine hK.out _ _ ?_
  clear hK K
  refine pure_ (i := 20) (N := some 27) (v := ?_) (a' := ?_) #[T_,T_,T_,T_,T_,T_,T_,T_,T_,T_,T_,T_,T_,T_,T_,T_,T_,T_,T_,T_,T_,F_,F_] rfl rfl (by kernel_rfl) (fun _ _ _ h => h) (Or.inl ⟨by rfl, ?_⟩) ?_ ?_
  rotate_left
  · intro w'
    go_simp
    with_reducible rfl
  rotate_left
  · simp only [Act.put, List.setIfInBounds_toArray, List.set_cons_zero, List.set_cons_succ, i64_w, i32_w]
    rfl
  refine pure_ (i := 21) (N := some 28) (v := ?_) (a' := ?_) #[T_,T_,T_,T_,T_,T_,T_,T_,T_,T_,T_,T_,T_,T_,T_,T_,T_,T_,T_,T_,T_,T_,F_] rfl rfl (by kernel_rfl) (fun _ _ _ h => h) (Or.inl ⟨by rfl, ?_⟩) ?_ ?_
  rotate_left
  · intro w'
    go_simp
    with_reducible rfl
  rotate_left
  · simp only [Act.put, List.setIfInBounds_toArray, List.set_cons_zero, List.set_cons_succ, i64_w, i32_w]
    rfl
  refine last_ (i := 22) (N := none) #[T_,T_,T_,T_,T_,T_,T_,T_,T_,T_,T_,T_,T_,T_,T_,T_,T_,T_,T_,T_,T_,T_,T_] rfl rfl (by kernel_rfl) (by decide) (fun K hK => ?_)
  refine skip_ (w1 := ?_) (by rfl) rfl ?_ ?_
  rotate_left
  · go_simp
    rfl
  refine hK.out _ _ ?_
  clear hK K
  refine done_ (by kernel_rfl) ?_
  obtain ⟨v0, hv0⟩ : ∃ z, ((w5.setCell ⟨g3, 0, none⟩ (.string (getTextS O a0 200).1)).setCell ⟨p, 1, none⟩ (.int .i64 (getTextS O a0 200).2.1)).setCell ⟨p, 2, none⟩ (.int .i64 (getTextS O a0 200).2.2) = z := ⟨_, rfl⟩
  have HXv0 : Aside0 (v0.heap[g3]? = some (.cells #[.string (rdA O a0).1, .int .i64 0, .int .i64 0, .int .i64 0, .int .i64 0, .string ⟨#[]⟩] 68 (0, 0))) := ⟨by rw [← hv0]; exact blk_far (p := ⟨p, 2, none⟩) (blk_far (p := ⟨p, 1, none⟩) (blk_set HX5.out 0 _) HNE.out.1 _) HNE.out.1 _⟩
  have HYv0 : Aside0 (v0.heap[g2]? = some (.cells #[.string ⟨#[]⟩, .int .i64 0, .int .i64 0, .int .i64 0, .int .i64 0, .string ⟨#[]⟩] 68 (0, 0))) := ⟨by rw [← hv0]; exact blk_far (p := ⟨p, 2, none⟩) (blk_far (p := ⟨p, 1, none⟩) (blk_far (p := ⟨g3, 0, none⟩) HY5.out HNE.out.2.2.1 _) HNE.out.2.1 _) HNE.out.2.1 _⟩
  have HPv0 : Aside0 (v0.heap[p]? = some (.cells #[.slice A m c, .int .i64 (rdA O a0).2.1, .int .i64 (rdA O a0).2.2] 78 (0, 0))) := ⟨by rw [← hv0]; exact blk_set (blk_set (blk_far (p := ⟨g3, 0, none⟩) HP5.out (Ne.symm HNE.out.1) _) 1 _) 2 _⟩
  have HBv0 : Aside0 (Bm p p w v0) := ⟨by rw [← hv0]; exact ((HB5.out.setNew HNE.out.2.2.2.1 0 _).setCell 1 _).setCell 2 _⟩
  rw [hv0]
  clear hv0 hw2 hw1 q2
  have hAe : getTextS O a0 200 = rdA O a0 := rfl
  rw [hAe]
  clear hAe HT
  go_wp2_with fail
  refine (rd_num.get (getS O) A m c O p (rdA O a0).2.1 (rdA O a0).2.2 v0 H1.out (HCH.out v0 HBv0.out) HPv0.out).mono ?_
  rintro e u1 ⟨rfl, hP, hB⟩
  have HPu1 := Aside0.mk (show u1.heap[p]? = some (.cells #[.slice A m c, .int .i64 (rd1 O a0).2.1, .int .i64 (rd1 O a0).2.2] 78 (0, 0)) from hP)
  have HXu1 := Aside0.mk (hB.blk HXv0.out HNE.out.1 HNE.out.1)
  have HYu1 := Aside0.mk (hB.blk HYv0.out HNE.out.2.1 HNE.out.2.1)
  have HBu1 := Aside0.mk (HBv0.out.trans hB)
  have qf := blk_frozen HXu1.out 1
  have qc := blk_cell HXu1.out 1
  obtain ⟨v1, hv1⟩ : ∃ z, u1.setCell ⟨g3, 1, none⟩ (.int .i64 (rd1 O a0).1) = z := ⟨_, rfl⟩
  have HXv1 : Aside0 (v1.heap[g3]? = some (.cells #[.string (rdA O a0).1, .int .i64 (rd1 O a0).1, .int .i64 0, .int .i64 0, .int .i64 0, .string ⟨#[]⟩] 68 (0, 0))) := ⟨by rw [← hv1]; exact blk_set HXu1.out 1 _⟩
  have HYv1 : Aside0 (v1.heap[g2]? = some (.cells #[.string ⟨#[]⟩, .int .i64 0, .int .i64 0, .int .i64 0, .int .i64 0, .string ⟨#[]⟩] 68 (0, 0))) := ⟨by rw [← hv1]; exact blk_far HYu1.out (p := ⟨g3, 1, none⟩) HNE.out.2.2.1 _⟩
  have HPv1 : Aside0 (v1.heap[p]? = some (.cells #[.slice A m c, .int .i64 (rd1 O a0).2.1, .int .i64 (rd1 O a0).2.2] 78 (0, 0))) := ⟨by rw [← hv1]; exact blk_far HPu1.out (p := ⟨g3, 1, none⟩) (Ne.symm HNE.out.1) _⟩
  have HBv1 : Aside0 (Bm p p w v1) := ⟨by rw [← hv1]; exact HBu1.out.setNew HNE.out.2.2.2.1 1 _⟩
  have hsp : stepG (getS O) ((rdA O a0).2.1, (rdA O a0).2.2) = rd1 O a0 := rfl
  rw [hsp]
  have HV1 := Aside0.mk hv1
  clear hP hB hv1 hsp
  go_wp2_with fail
  rw [HV1.out]
  clear qf qc
  refine (rd_num.get (getS O) A m c O p (rd1 O a0).2.1 (rd1 O a0).2.2 v1 H1.out (HCH.out v1 HBv1.out) HPv1.out).mono ?_
  rintro e u2 ⟨rfl, hP, hB⟩
  have HPu2 := Aside0.mk (show u2.heap[p]? = some (.cells #[.slice A m c, .int .i64 (rd2 O a0).2.1, .int .i64 (rd2 O a0).2.2] 78 (0, 0)) from hP)
  have HXu2 := Aside0.mk (hB.blk HXv1.out HNE.out.1 HNE.out.1)
  have HYu2 := Aside0.mk (hB.blk HYv1.out HNE.out.2.1 HNE.out.2.1)
  have HBu2 := Aside0.mk (HBv1.out.trans hB)
  have qf := blk_frozen HXu2.out 2
  have qc := blk_cell HXu2.out 2
  obtain ⟨v2, hv2⟩ : ∃ z, u2.setCell ⟨g3, 2, none⟩ (.int .i64 (rd2 O a0).1) = z := ⟨_, rfl⟩
  have HXv2 : Aside0 (v2.heap[g3]? = some (.cells #[.string (rdA O a0).1, .int .i64 (rd1 O a0).1, .int .i64 (rd2 O a0).1, .int .i64 0, .int .i64 0, .string ⟨#[]⟩] 68 (0, 0))) := ⟨by rw [← hv2]; exact blk_set HXu2.out 2 _⟩
  have HYv2 : Aside0 (v2.heap[g2]? = some (.cells #[.string ⟨#[]⟩, .int .i64 0, .int .i64 0, .int .i64 0, .int .i64 0, .string ⟨#[]⟩] 68 (0, 0))) := ⟨by rw [← hv2]; exact blk_far HYu2.out (p := ⟨g3, 2, none⟩) HNE.out.2.2.1 _⟩
  have HPv2 : Aside0 (v2.heap[p]? = some (.cells #[.slice A m c, .int .i64 (rd2 O a0).2.1, .int .i64 (rd2 O a0).2.2] 78 (0, 0))) := ⟨by rw [← hv2]; exact blk_far HPu2.out (p := ⟨g3, 2, none⟩) (Ne.symm HNE.out.1) _⟩
  have HBv2 : Aside0 (Bm p p w v2) := ⟨by rw [← hv2]; exact HBu2.out.setNew HNE.out.2.2.2.1 2 _⟩
  have hsp : stepG (getS O) ((rd1 O a0).2.1, (rd1 O a0).2.2) = rd2 O a0 := rfl
  rw [hsp]
  have HV2 := Aside0.mk hv2
  clear hP hB hv2 hsp
  go_wp2_with fail
  rw [HV2.out]
  clear qf qc
  refine (rd_num.int (getIntS O) A m c O p (rd2 O a0).2.1 (rd2 O a0).2.2 v2 H2.out (HCH.out v2 HBv2.out) HPv2.out).mono ?_
  rintro e u3 ⟨rfl, hP, hB⟩
  have HPu3 := Aside0.mk (show u3.heap[p]? = some (.cells #[.slice A m c, .int .i64 (rd3 O a0).2.1, .int .i64 (rd3 O a0).2.2] 78 (0, 0)) from hP)
  have HXu3 := Aside0.mk (hB.blk HXv2.out HNE.out.1 HNE.out.1)
  have HYu3 := Aside0.mk (hB.blk HYv2.out HNE.out.2.1 HNE.out.2.1)
  have HBu3 := Aside0.mk (HBv2.out.trans hB)
  have qf := blk_frozen HXu3.out 3
  have qc := blk_cell HXu3.out 3
  obtain ⟨v3, hv3⟩ : ∃ z, u3.setCell ⟨g3, 3, none⟩ (.int .i64 (rd3 O a0).1) = z := ⟨_, rfl⟩
  have HXv3 : Aside0 (v3.heap[g3]? = some (.cells #[.string (rdA O a0).1, .int .i64 (rd1 O a0).1, .int .i64 (rd2 O a0).1, .int .i64 (rd3 O a0).1, .int .i64 0, .string ⟨#[]⟩] 68 (0, 0))) := ⟨by rw [← hv3]; exact blk_set HXu3.out 3 _⟩
  have HYv3 : Aside0 (v3.heap[g2]? = some (.cells #[.string ⟨#[]⟩, .int .i64 0, .int .i64 0, .int .i64 0, .int .i64 0, .string ⟨#[]⟩] 68 (0, 0))) := ⟨by rw [← hv3]; exact blk_far HYu3.out (p := ⟨g3, 3, none⟩) HNE.out.2.2.1 _⟩
  have HPv3 : Aside0 (v3.heap[p]? = some (.cells #[.slice A m c, .int .i64 (rd3 O a0).2.1, .int .i64 (rd3 O a0).2.2] 78 (0, 0))) := ⟨by rw [← hv3]; exact blk_far HPu3.out (p := ⟨g3, 3, none⟩) (Ne.symm HNE.out.1) _⟩
  have HBv3 : Aside0 (Bm p p w v3) := ⟨by rw [← hv3]; exact HBu3.out.setNew HNE.out.2.2.2.1 3 _⟩
  have hsp : stepG (getIntS O) ((rd2 O a0).2.1, (rd2 O a0).2.2) = rd3 O a0 := rfl
  rw [hsp]
  have HV3 := Aside0.mk hv3
  clear hP hB hv3 hsp
  go_wp2_with fail
  rw [HV3.out]
  clear qf qc
  refine (rd_num.get (getS O) A m c O p (rd3 O a0).2.1 (rd3 O a0).2.2 v3 H1.out (HCH.out v3 HBv3.out) HPv3.out).mono ?_
  rintro e u4 ⟨rfl, hP, hB⟩
  have HPu4 := Aside0.mk (show u4.heap[p]? = some (.cells #[.slice A m c, .int .i64 (rd4 O a0).2.1, .int .i64 (rd4 O a0).2.2] 78 (0, 0)) from hP)
  have HXu4 := Aside0.mk (hB.blk HXv3.out HNE.out.1 HNE.out.1)
  have HYu4 := Aside0.mk (hB.blk HYv3.out HNE.out.2.1 HNE.out.2.1)
  have HBu4 := Aside0.mk (HBv3.out.trans hB)
  have qf := blk_frozen HXu4.out 4
  have qc := blk_cell HXu4.out 4
  obtain ⟨v4, hv4⟩ : ∃ z, u4.setCell ⟨g3, 4, none⟩ (.int .i64 (rd4 O a0).1) = z := ⟨_, rfl⟩
  have HXv4 : Aside0 (v4.heap[g3]? = some (.cells #[.string (rdA O a0).1, .int .i64 (rd1 O a0).1, .int .i64 (rd2 O a0).1, .int .i64 (rd3 O a0).1, .int .i64 (rd4 O a0).1, .string ⟨#[]⟩] 68 (0, 0))) := ⟨by rw [← hv4]; exact blk_set HXu4.out 4 _⟩
  have HYv4 : Aside0 (v4.heap[g2]? = some (.cells #[.string ⟨#[]⟩, .int .i64 0, .int .i64 0, .int .i64 0, .int .i64 0, .string ⟨#[]⟩] 68 (0, 0))) := ⟨by rw [← hv4]; exact blk_far HYu4.out (p := ⟨g3, 4, none⟩) HNE.out.2.2.1 _⟩
  have HPv4 : Aside0 (v4.heap[p]? = some (.cells #[.slice A m c, .int .i64 (rd4 O a0).2.1, .int .i64 (rd4 O a0).2.2] 78 (0, 0))) := ⟨by rw [← hv4]; exact blk_far HPu4.out (p := ⟨g3, 4, none⟩) (Ne.symm HNE.out.1) _⟩
  have HBv4 : Aside0 (Bm p p w v4) := ⟨by rw [← hv4]; exact HBu4.out.setNew HNE.out.2.2.2.1 4 _⟩
  have hsp : stepG (getS O) ((rd3 O a0).2.1, (rd3 O a0).2.2) = rd4 O a0 := rfl
  rw [hsp]
  have HV4 := Aside0.mk hv4
  clear hP hB hv4 hsp
  obtain ⟨a4, ha4⟩ : ∃ z, (rd4 O a0).2.1 = z := ⟨_, rfl⟩
  obtain ⟨e4, he4⟩ : ∃ z, (rd4 O a0).2.2 = z := ⟨_, rfl⟩
  rw [ha4, he4] at HPv4
  have HA4 := Aside0.mk (And.intro ha4 he4)
  have HBD : Aside0 (e4 = 0 → 0 ≤ a4 ∧ a4 ≤ (m : Int)) := ⟨fun h => by have := rd4_bd HBY.out a0 (by rw [he4]; exact h); rw [ha4, HM.out.1] at this; exact this⟩
  clear ha4 he4
  go_wp2_with fail
  rw [HV4.out]
  clear qf qc
  obtain ⟨p0, p1, p2⟩ := rd_cells HPv4.out
  by_cases h0 : e4 = 0
  rotate_left
  · have e1 : (e4 == 0) = false := beq_eq_false_iff_ne.mpr h0
    have HR : Aside0 (rdLine O a0 = (rdX O a0 ⟨#[]⟩, (a4, e4))) := ⟨by unfold rdLine rdE; rw [HA4.out.2, if_neg h0, if_neg h0, HA4.out.1]⟩
    clear h0
    go_quiet (fail)
    have HXv5 := Aside0.mk (show (v4.drewN nq).heap[g3]? = _ from HXv4.out)
    have HYv5 := Aside0.mk (show (v4.drewN nq).heap[g2]? = _ from HYv4.out)
    have HPv5 := Aside0.mk (show (v4.drewN nq).heap[p]? = _ from HPv4.out)
    have HBv5 := Aside0.mk (HBv4.out.below (pw_below_drewN (Below.refl _ _) nq))
    generalize v4.drewN nq = v5 at HXv5 HYv5 HPv5 HBv5 ⊢
    clear p0 p1 p2
    obtain ⟨p0, p1, p2⟩ := rd_cells HPv5.out
    obtain ⟨x0, x1, x2, x3, x4, x5⟩ := lnz_cells HXv5.out
    obtain ⟨y0, y1, y2, y3, y4, y5⟩ := lnz_cells HYv5.out
    have f0 := blk_frozen HYv5.out 0
    have f1 := blk_frozen HYv5.out 1
    have f2 := blk_frozen HYv5.out 2
    have f3 := blk_frozen HYv5.out 3
    have f4 := blk_frozen HYv5.out 4
    have f5 := blk_frozen HYv5.out 5
    go_wp2
    refine bodyPost_ret (results_c1 rfl _ _ g2 68 #[.string (rdA O a0).1, .int .i64 (rd1 O a0).1, .int .i64 (rd2 O a0).1, .int .i64 (rd3 O a0).1, .int .i64 (rd4 O a0).1, .string ⟨#[]⟩] (0, 0) _ rfl (blk_put (blk_put (blk_put (blk_put (blk_put (blk_put HYv5.out 0 (.string (rdA O a0).1) rfl) 1 (.int .i64 (rd1 O a0).1) rfl) 2 (.int .i64 (rd2 O a0).1) rfl) 3 (.int .i64 (rd3 O a0).1) rfl) 4 (.int .i64 (rd4 O a0).1) rfl) 5 (.string ⟨#[]⟩) rfl) Tryd.underlying68 rfl (by kernel_rfl)) rfl ?_
    rw [HR.out]
    refine ⟨rfl, ?_, ?_⟩
    · exact blk_far (p := ⟨g2, 5, none⟩) (blk_far (p := ⟨g2, 4, none⟩) (blk_far (p := ⟨g2, 3, none⟩) (blk_far (p := ⟨g2, 2, none⟩) (blk_far (p := ⟨g2, 1, none⟩) (blk_far (p := ⟨g2, 0, none⟩) HPv5.out (Ne.symm HNE.out.2.1) _) (Ne.symm HNE.out.2.1) _) (Ne.symm HNE.out.2.1) _) (Ne.symm HNE.out.2.1) _) (Ne.symm HNE.out.2.1) _) (Ne.symm HNE.out.2.1) _
    · exact (((((HBv5.out.setNew HNE.out.2.2.2.2 0 _).setNew HNE.out.2.2.2.2 1 _).setNew HNE.out.2.2.2.2 2 _).setNew HNE.out.2.2.2.2 3 _).setNew HNE.out.2.2.2.2 4 _).setNew HNE.out.2.2.2.2 5 _
  have e1 : (e4 == 0) = true := beq_iff_eq.mpr h0
  have hbd := HBD.out h0
  have hw1 : wrap64 ((m : Int) - a4) = (m : Int) - a4 := by have := HM.out; unfold wrap64; omega
  have hw2 : IntKind.i64.wrap ((m : Int) - a4) = (m : Int) - a4 := by have := HM.out; rw [IntKind.wrap_i64]; omega
  by_cases h1 : (m : Int) - a4 < 32
  · have e2 : decide ((m : Int) - a4 < 32) = true := decide_eq_true h1
    have HR : Aside0 (rdLine O a0 = (rdX O a0 ⟨#[]⟩, (a4, 4))) := ⟨by
      have hE : rdE O a0 = 4 := by unfold rdE; rw [HA4.out.2, if_pos h0, HA4.out.1, HM.out.1, if_pos h1]
      unfold rdLine; rw [hE, if_neg (by decide), HA4.out.1]⟩
    clear h0 hbd h1
    go_quiet (fail)
    have HXv5 := Aside0.mk (show (v4.drewN nq).heap[g3]? = _ from HXv4.out)
    have HYv5 := Aside0.mk (show (v4.drewN nq).heap[g2]? = _ from HYv4.out)
    have HPv5 := Aside0.mk (show (v4.drewN nq).heap[p]? = _ from HPv4.out)
    have HBv5 := Aside0.mk (HBv4.out.below (pw_below_drewN (Below.refl _ _) nq))
    generalize v4.drewN nq = v5 at HXv5 HYv5 HPv5 HBv5 ⊢
    clear p0 p1 p2
    obtain ⟨p0, p1, p2⟩ := rd_cells HPv5.out
    obtain ⟨v6, hv6⟩ : ∃ z, v5.setCell ⟨p, 2, none⟩ (.int .i64 4) = z := ⟨_, rfl⟩
    have HXv6 : Aside0 (v6.heap[g3]? = some (.cells #[.string (rdA O a0).1, .int .i64 (rd1 O a0).1, .int .i64 (rd2 O a0).1, .int .i64 (rd3 O a0).1, .int .i64 (rd4 O a0).1, .string ⟨#[]⟩] 68 (0, 0))) := ⟨by rw [← hv6]; exact blk_far (p := ⟨p, 2, none⟩) HXv5.out HNE.out.1 _⟩
    have HYv6 : Aside0 (v6.heap[g2]? = some (.cells #[.string ⟨#[]⟩, .int .i64 0, .int .i64 0, .int .i64 0, .int .i64 0, .string ⟨#[]⟩] 68 (0, 0))) := ⟨by rw [← hv6]; exact blk_far (p := ⟨p, 2, none⟩) HYv5.out HNE.out.2.1 _⟩
    have HPv6 : Aside0 (v6.heap[p]? = some (.cells #[.slice A m c, .int .i64 a4, .int .i64 4] 78 (0, 0))) := ⟨by rw [← hv6]; exact blk_set HPv5.out 2 _⟩
    have HBv6 : Aside0 (Bm p p w v6) := ⟨by rw [← hv6]; exact HBv5.out.setCell 2 _⟩
    have qf := blk_frozen HPv5.out 2
    have qe := (rd_cells HPv6.out).2.2
    have hkk : ((4 : Int) == 0) = false := rfl
    obtain ⟨x0, x1, x2, x3, x4, x5⟩ := lnz_cells HXv6.out
    obtain ⟨y0, y1, y2, y3, y4, y5⟩ := lnz_cells HYv6.out
    have f0 := blk_frozen HYv6.out 0
    have f1 := blk_frozen HYv6.out 1
    have f2 := blk_frozen HYv6.out 2
    have f3 := blk_frozen HYv6.out 3
    have f4 := blk_frozen HYv6.out 4
    have f5 := blk_frozen HYv6.out 5
    go_wp2
    refine bodyPost_ret (results_c1 rfl _ _ g2 68 #[.string (rdA O a0).1, .int .i64 (rd1 O a0).1, .int .i64 (rd2 O a0).1, .int .i64 (rd3 O a0).1, .int .i64 (rd4 O a0).1, .string ⟨#[]⟩] (0, 0) _ rfl (blk_put (blk_put (blk_put (blk_put (blk_put (blk_put HYv6.out 0 (.string (rdA O a0).1) rfl) 1 (.int .i64 (rd1 O a0).1) rfl) 2 (.int .i64 (rd2 O a0).1) rfl) 3 (.int .i64 (rd3 O a0).1) rfl) 4 (.int .i64 (rd4 O a0).1) rfl) 5 (.string ⟨#[]⟩) rfl) Tryd.underlying68 rfl (by kernel_rfl)) rfl ?_
    rw [HR.out]
    refine ⟨rfl, ?_, ?_⟩
    · exact blk_far (p := ⟨g2, 5, none⟩) (blk_far (p := ⟨g2, 4, none⟩) (blk_far (p := ⟨g2, 3, none⟩) (blk_far (p := ⟨g2, 2, none⟩) (blk_far (p := ⟨g2, 1, none⟩) (blk_far (p := ⟨g2, 0, none⟩) HPv6.out (Ne.symm HNE.out.2.1) _) (Ne.symm HNE.out.2.1) _) (Ne.symm HNE.out.2.1) _) (Ne.symm HNE.out.2.1) _) (Ne.symm HNE.out.2.1) _) (Ne.symm HNE.out.2.1) _
    · exact (((((HBv6.out.setNew HNE.out.2.2.2.2 0 _).setNew HNE.out.2.2.2.2 1 _).setNew HNE.out.2.2.2.2 2 _).setNew HNE.out.2.2.2.2 3 _).setNew HNE.out.2.2.2.2 4 _).setNew HNE.out.2.2.2.2 5 _
  have e2 : decide ((m : Int) - a4 < 32) = false := decide_eq_false h1
  have hX0 : rdE O a0 = 0 := by unfold rdE; rw [HA4.out.2, if_pos h0, HA4.out.1, HM.out.1, if_neg h1]
  obtain ⟨sm, hsm⟩ : ∃ z, rdSm O a0 = z := ⟨_, rfl⟩
  have HR : Aside0 (rdLine O a0 = (rdX O a0 sm, (a4 + 32, mayF (rdX O a0 sm)))) := ⟨by unfold rdLine; rw [hX0, if_pos rfl, hsm, HA4.out.1]⟩
  obtain ⟨i0, hi0, hz0⟩ := Option.map_eq_some_iff.1 info_u8
  simp only [Prod.mk.injEq] at hz0
  obtain ⟨n5, hn5⟩ : ∃ z, (a4 + 32).toNat - a4.toNat = z := ⟨_, rfl⟩
  obtain ⟨A5, hA5⟩ : ∃ z, (if c = a4.toNat then A else A.map (·.add (a4.toNat * 1))) = z := ⟨_, rfl⟩
  have hcut := cut_mid (P := Tryd.prog) 41 5 .i64 .i64 Tryd.underlying41 hi0 1 hz0.2.1 A m c a4 (a4 + 32) hbd.1 (by omega) (by omega) HM.out.2.1
  rw [hn5, hA5] at hcut
  have HCV : Aside0 (∀ W : World, Bm p p w W → (convert 41 9 (.slice A5 n5 (c - a4.toNat))).run Tryd.prog W = .ok (.string sm) W) := ⟨fun W hB => by
    have h3 := HCH.out W hB
    rw [← HM.out.1] at h3
    have h4 := Kd.C_mid (c := c) (lo := a4.toNat) (hi := (a4 + 32).toNat) h3 (by omega) (by have := HM.out.1; omega) (by have := HM.out; omega)
    have hl : ((O.take (a4 + 32).toNat).drop a4.toNat).length = n5 := by rw [List.length_drop, List.length_take, ← hn5]; have := HM.out.1; omega
    rw [hl, show (Kd.int .u8).sz = 1 from rfl, hA5] at h4
    rw [← hsm, show rdSm O a0 = strOfNums ((O.take (a4 + 32).toNat).drop a4.toNat) by unfold rdSm; rw [HA4.out.1]]
    exact C_str33 h4⟩
  have hs1_ : wrap64 (a4 + 32) = a4 + 32 := by have := HM.out; unfold wrap64; omega
  have hs2_ : IntKind.i64.wrap (a4 + 32) = a4 + 32 := by have := HM.out; rw [IntKind.wrap_i64]; omega
  clear h0 hbd h1 hi0 hz0 hsm hX0 hn5 hA5
  go_quiet (fail)
  have HXv5 := Aside0.mk (show (v4.drewN nq).heap[g3]? = _ from HXv4.out)
  have HYv5 := Aside0.mk (show (v4.drewN nq).heap[g2]? = _ from HYv4.out)
  have HPv5 := Aside0.mk (show (v4.drewN nq).heap[p]? = _ from HPv4.out)
  have HBv5 := Aside0.mk (HBv4.out.below (pw_below_drewN (Below.refl _ _) nq))
  generalize v4.drewN nq = v5 at HXv5 HYv5 HPv5 HBv5 ⊢
  clear p0 p1 p2
  obtain ⟨p0, p1, p2⟩ := rd_cells HPv5.out
  go_wp2_with fail
  have CVd : (convert 41 9 (.slice A5 n5 (c - a4.toNat))).run Tryd.prog v5.drew = .ok (.string sm) v5.drew := HCV.out _ (HBv5.out.below (below_drew (Below.refl _ _)))
  have qf := blk_frozen HXv5.out 5
  have qx := (lnz_cells HXv5.out).2.2.2.2.2
  refine start_ (n := 17) (S := fun w' => w'.cell? ⟨p, 0, none⟩ = some (.slice A m c) ∧ w'.cell? ⟨p, 1, none⟩ = some (.int .i64 a4) ∧ (convert 41 9 (.slice A5 n5 (c - a4.toNat))).run Tryd.prog w' = .ok (.string sm) w') (ds := [16]) #[F_,F_,F_,F_,F_,F_,F_,F_,F_,F_,F_,F_,F_,F_,F_,F_,F_] (by kernel_rfl) rfl rfl ⟨(rd_cells (w := v5.drew) HPv5.out).1, (rd_cells (w := v5.drew) HPv5.out).2.1, CVd⟩ (fun hHeld => ?_)
  refine pure_ (i := 0) (N := some 67) (v := ?_) (a' := ?_) #[T_,F_,F_,F_,F_,F_,F_,F_,F_,F_,F_,F_,F_,F_,F_,F_,F_] rfl rfl (by kernel_rfl) (fun _ _ _ h => h) (Or.inl ⟨by rfl, ?_⟩) ?_ ?_
  rotate_left
  · intro w'
    go_simp
    with_reducible rfl
  rotate_left
  · simp only [Act.put, List.setIfInBounds_toArray, List.set_cons_zero, List.set_cons_succ, i64_w, i32_w]
    rfl
  refine pure_ (i := 1) (N := some 68) (v := ?_) (a' := ?_) #[T_,T_,F_,F_,F_,F_,F_,F_,F_,F_,F_,F_,F_,F_,F_,F_,F_] rfl rfl (by kernel_rfl) (fun _ _ _ h => h) (Or.inl ⟨by rfl, ?_⟩) ?_ ?_
  rotate_left
  · intro w'
    go_simp
    with_reducible rfl
  rotate_left
  · simp only [Act.put, List.setIfInBounds_toArray, List.set_cons_zero, List.set_cons_succ, i64_w, i32_w]
    rfl
  refine pure_ (i := 2) (N := some 69) (v := ?_) (a' := ?_) #[T_,T_,T_,F_,F_,F_,F_,F_,F_,F_,F_,F_,F_,F_,F_,F_,F_] rfl rfl (by kernel_rfl) (fun _ _ _ h => h) (Or.inl ⟨by rfl, ?_⟩) ?_ ?_
  rotate_left
  · intro w'
    go_simp
    with_reducible rfl
  rotate_left
  · simp only [Act.put, List.setIfInBounds_toArray, List.set_cons_zero, List.set_cons_succ, i64_w, i32_w]
    rfl
  refine pure_ (i := 4) (N := some 71) (v := ?_) (a' := ?_) #[T_,T_,T_,F_,T_,F_,F_,F_,F_,F_,F_,F_,F_,F_,F_,F_,F_] rfl rfl (by kernel_rfl) (fun _ _ _ h => h) (Or.inl ⟨by rfl, ?_⟩) ?_ ?_
  rotate_left
  · intro w'
    go_simp
    with_reducible rfl
  rotate_left
  · simp only [Act.put, List.setIfInBounds_toArray, List.set_cons_zero, List.set_cons_succ, i64_w, i32_w]
    rfl
  refine pure_ (i := 5) (N := some 72) (v := ?_) (a' := ?_) #[T_,T_,T_,F_,T_,T_,F_,F_,F_,F_,F_,F_,F_,F_,F_,F_,F_] rfl rfl (by kernel_rfl) (fun _ _ _ h => h) (Or.inl ⟨by rfl, ?_⟩) ?_ ?_
  rotate_left
  · intro w'
    go_simp
    with_reducible rfl
  rotate_left
  · simp only [Act.put, List.setIfInBounds_toArray, List.set_cons_zero, List.set_cons_succ, i64_w, i32_w]
    rfl
  refine pure_ (i := 6) (N := some 73) (v := ?_) (a' := ?_) #[T_,T_,T_,F_,T_,T_,T_,F_,F_,F_,F_,F_,F_,F_,F_,F_,F_] rfl rfl (by kernel_rfl) (fun _ _ _ h => h) (Or.inl ⟨by rfl, ?_⟩) ?_ ?_
  rotate_left
  · intro w'
    go_simp
    with_reducible rfl
  rotate_left
  · simp only [Act.put, List.setIfInBounds_toArray, List.set_cons_zero, List.set_cons_succ, i64_w, i32_w]
    rfl
  refine pure_ (i := 8) (N := some 75) (v := ?_) (a' := ?_) #[T_,T_,T_,F_,T_,T_,T_,F_,T_,F_,F_,F_,F_,F_,F_,F_,F_] rfl rfl (by kernel_rfl) (fun _ _ _ h => h) (Or.inl ⟨by rfl, ?_⟩) ?_ ?_
  rotate_left
  · intro w'
    go_simp
    with_reducible rfl
  rotate_left
  · simp only [Act.put, List.setIfInBounds_toArray, List.set_cons_zero, List.set_cons_succ, i64_w, i32_w]
    rfl
  refine pure_ (i := 9) (N := some 76) (v := ?_) (a' := ?_) #[T_,T_,T_,F_,T_,T_,T_,F_,T_,T_,F_,F_,F_,F_,F_,F_,F_] rfl rfl (by kernel_rfl) (fun _ _ _ h => h) (Or.inl ⟨by rfl, ?_⟩) ?_ ?_
  rotate_left
  · intro w'
    go_simp
    with_reducible rfl
  rotate_left
  · simp only [Act.put, List.setIfInBounds_toArray, List.set_cons_zero, List.set_cons_succ, i64_w, i32_w]
    rfl
  refine pure_ (i := 10) (N := some 77) (v := ?_) (a' := ?_) #[T_,T_,T_,F_,T_,T_,T_,F_,T_,T_,T_,F_,F_,F_,F_,F_,F_] rfl rfl (by kernel_rfl) (fun _ _ _ h => h) (Or.inl ⟨by rfl, ?_⟩) ?_ ?_
  rotate_left
  · intro w'
    go_simp
    with_reducible rfl
  rotate_left
  · simp only [Act.put, List.setIfInBounds_toArray, List.set_cons_zero, List.set_cons_succ, i64_w, i32_w]
    rfl
  refine take_ (i := 3) (N := some 70) (v := ?_) (a' := ?_) #[T_,T_,T_,T_,T_,T_,T_,F_,T_,T_,T_,F_,F_,F_,F_,F_,F_] rfl rfl (by kernel_rfl) (fun _ _ _ h => h) (Or.inl ⟨by rfl, ?_⟩) hHeld ?_ ?_
  rotate_left
  · rintro w' ⟨s0, s1, s2⟩
    go_simp
    with_reducible rfl
  rotate_left
  · simp only [Act.put, List.setIfInBounds_toArray, List.set_cons_zero, List.set_cons_succ, i64_w, i32_w]
    rfl
  refine take_ (i := 7) (N := some 74) (v := ?_) (a' := ?_) #[T_,T_,T_,T_,T_,T_,T_,T_,T_,T_,T_,F_,F_,F_,F_,F_,F_] rfl rfl (by kernel_rfl) (fun _ _ _ h => h) (Or.inl ⟨by rfl, ?_⟩) hHeld ?_ ?_
  rotate_left
  · rintro w' ⟨s0, s1, s2⟩
    go_simp
    with_reducible rfl
  rotate_left
  · simp only [Act.put, List.setIfInBounds_toArray, List.set_cons_zero, List.set_cons_succ, i64_w, i32_w]
    rfl
  refine take_ (i := 11) (N := some 78) (v := ?_) (a' := ?_) #[T_,T_,T_,T_,T_,T_,T_,T_,T_,T_,T_,T_,F_,F_,F_,F_,F_] rfl rfl (by kernel_rfl) (fun _ _ _ h => h) (Or.inl ⟨by rfl, ?_⟩) hHeld ?_ ?_
  rotate_left
  · rintro w' ⟨s0, s1, s2⟩
    go_simp
    with_reducible rfl
  rotate_left
  · simp only [Act.put, List.setIfInBounds_toArray, List.set_cons_zero, List.set_cons_succ, i64_w, i32_w]
    rfl
  refine pure_ (i := 12) (N := some 79) (v := ?_) (a' := ?_) #[T_,T_,T_,T_,T_,T_,T_,T_,T_,T_,T_,T_,T_,F_,F_,F_,F_] rfl rfl (by kernel_rfl) (fun _ _ _ h => h) (Or.inl ⟨by rfl, ?_⟩) ?_ ?_
  rotate_left
  · intro w'
    go_simp
    with_reducible rfl
  rotate_left
  · simp only [Act.put, List.setIfInBounds_toArray, List.set_cons_zero, List.set_cons_succ, i64_w, i32_w]
    rfl
  refine pure_ (i := 13) (N := some 80) (v := ?_) (a' := ?_) #[T_,T_,T_,T_,T_,T_,T_,T_,T_,T_,T_,T_,T_,T_,F_,F_,F_] rfl rfl (by kernel_rfl) (fun _ _ _ h => h) (Or.inl ⟨by rfl, ?_⟩) ?_ ?_
  rotate_left
  · intro w'
    go_simp
    with_reducible rfl
  rotate_left
  · simp only [Act.put, List.setIfInBounds_toArray, List.set_cons_zero, List.set_cons_succ, i64_w, i32_w]
    rfl
  refine take_ (i := 14) (N := some 81) (v := ?_) (a' := ?_) #[T_,T_,T_,T_,T_,T_,T_,T_,T_,T_,T_,T_,T_,T_,T_,F_,F_] rfl rfl (by kernel_rfl) (fun _ _ _ h => h) (Or.inl ⟨by rfl, ?_⟩) hHeld ?_ ?_
  rotate_left
  · rintro w' ⟨s0, s1, s2⟩
    go_simp
    with_reducible rfl
  rotate_left
  · simp only [Act.put, List.setIfInBounds_toArray, List.set_cons_zero, List.set_cons_succ, i64_w, i32_w]
    rfl
  refine pure_ (i := 15) (N := some 82) (v := ?_) (a' := ?_) #[T_,T_,T_,T_,T_,T_,T_,T_,T_,T_,T_,T_,T_,T_,T_,T_,F_] rfl rfl (by kernel_rfl) (fun _ _ _ h => h) (Or.inl ⟨by rfl, ?_⟩) ?_ ?_
  rotate_left
  · intro w'
    go_simp
    with_reducible rfl
  rotate_left
  · simp only [Act.put, List.setIfInBounds_toArray, List.set_cons_zero, List.set_cons_succ, i64_w, i32_w]
    rfl
  refine last_ (i := 16) (N := none) #[T_,T_,T_,T_,T_,T_,T_,T_,T_,T_,T_,T_,T_,T_,T_,T_,T_] rfl rfl (by kernel_rfl) (by decide) (fun K hK => ?_)
  refine skip_ (w1 := ?_) (by rfl) rfl ?_ ?_
  rotate_left
  · go_simp
    rfl
  refine hK.out _ _ ?_
  clear hK K
  refine done_ (by kernel_rfl) ?_
  clear hcut CVd qf qx
  obtain ⟨v6, hv6⟩ : ∃ z, (v5.setCell ⟨g3, 5, none⟩ (.string sm)).drew = z := ⟨_, rfl⟩
  have HXv6 : Aside0 (v6.heap[g3]? = some (.cells #[.string (rdA O a0).1, .int .i64 (rd1 O a0).1, .int .i64 (rd2 O a0).1, .int .i64 (rd3 O a0).1, .int .i64 (rd4 O a0).1, .string sm] 68 (0, 0))) := ⟨by rw [← hv6]; exact blk_set (w := v5.drew) HXv5.out 5 _⟩
  have HYv6 : Aside0 (v6.heap[g2]? = some (.cells #[.string ⟨#[]⟩, .int .i64 0, .int .i64 0, .int .i64 0, .int .i64 0, .string ⟨#[]⟩] 68 (0, 0))) := ⟨by rw [← hv6]; exact blk_far (w := v5.drew) (p := ⟨g3, 5, none⟩) HYv5.out HNE.out.2.2.1 _⟩
  have HPv6 : Aside0 (v6.heap[p]? = some (.cells #[.slice A m c, .int .i64 a4, .int .i64 e4] 78 (0, 0))) := ⟨by rw [← hv6]; exact blk_far (w := v5.drew) (p := ⟨g3, 5, none⟩) HPv5.out (Ne.symm HNE.out.1) _⟩
  have HBv6 : Aside0 (Bm p p w v6) := ⟨by rw [← hv6]; exact (HBv5.out.below (below_drew (Below.refl _ _))).setNew HNE.out.2.2.2.1 5 _⟩
  rw [hv6]
  clear hv6 p0 p1 p2
  obtain ⟨p0, p1, p2⟩ := rd_cells HPv6.out
  obtain ⟨v7, hv7⟩ : ∃ z, v6.setCell ⟨p, 1, none⟩ (.int .i64 (a4 + 32)) = z := ⟨_, rfl⟩
  have HXv7 : Aside0 (v7.heap[g3]? = some (.cells #[.string (rdA O a0).1, .int .i64 (rd1 O a0).1, .int .i64 (rd2 O a0).1, .int .i64 (rd3 O a0).1, .int .i64 (rd4 O a0).1, .string sm] 68 (0, 0))) := ⟨by rw [← hv7]; exact blk_far (p := ⟨p, 1, none⟩) HXv6.out HNE.out.1 _⟩
  have HYv7 : Aside0 (v7.heap[g2]? = some (.cells #[.string ⟨#[]⟩, .int .i64 0, .int .i64 0, .int .i64 0, .int .i64 0, .string ⟨#[]⟩] 68 (0, 0))) := ⟨by rw [← hv7]; exact blk_far (p := ⟨p, 1, none⟩) HYv6.out HNE.out.2.1 _⟩
  have HPv7 : Aside0 (v7.heap[p]? = some (.cells #[.slice A m c, .int .i64 (a4 + 32), .int .i64 e4] 78 (0, 0))) := ⟨by rw [← hv7]; exact blk_set HPv6.out 1 _⟩
  have HBv7 : Aside0 (Bm p p w v7) := ⟨by rw [← hv7]; exact HBv6.out.setCell 1 _⟩
  have qf := blk_frozen HPv6.out 1
  obtain ⟨x0, x1, x2, x3, x4, x5⟩ := lnz_cells HXv7.out
  have HMay := line_may.at_ (rdX O a0 sm) (show (rdA O a0).1.size ≤ 1000000 by have := rdA_size HBY.out a0; omega) v7
  unfold lnV at HMay
  have HMay := Aside0.mk HMay
  have HV7 := Aside0.mk hv7
  unfold rdX at HMay
  dsimp only at HMay
  go_wp2_with fail
  first | (rw [HV7.out]; refine HMay.out.mono ?_) | refine HMay.out.mono ?_
  rintro e u8 ⟨rfl, hb8⟩
  have HXu8 := Aside0.mk (blk_below HXv7.out hb8)
  have HYu8 := Aside0.mk (blk_below HYv7.out hb8)
  have HPu8 := Aside0.mk (blk_below HPv7.out hb8)
  have HBu8 := Aside0.mk (HBv7.out.below hb8)
  clear hb8 x0 x1 x2 x3 x4 x5 p0 p1 p2 qf hv7 HMay
  obtain ⟨p0, p1, p2⟩ := rd_cells HPu8.out
  have qf := blk_frozen HPu8.out 2
  have hX : mayF (⟨(rdA O a0).1, (rd1 O a0).1, (rd2 O a0).1, (rd3 O a0).1, (rd4 O a0).1, sm⟩ : Ln) = mayF (rdX O a0 sm) := rfl
  rw [hX]
  clear hX
  obtain ⟨me, hme⟩ : ∃ z, mayF (rdX O a0 sm) = z := ⟨_, rfl⟩
  rw [hme] at HR ⊢
  obtain ⟨v9, hv9⟩ : ∃ z, u8.setCell ⟨p, 2, none⟩ (.int .i64 me) = z := ⟨_, rfl⟩
  have HXv9 : Aside0 (v9.heap[g3]? = some (.cells #[.string (rdA O a0).1, .int .i64 (rd1 O a0).1, .int .i64 (rd2 O a0).1, .int .i64 (rd3 O a0).1, .int .i64 (rd4 O a0).1, .string sm] 68 (0, 0))) := ⟨by rw [← hv9]; exact blk_far (p := ⟨p, 2, none⟩) HXu8.out HNE.out.1 _⟩
  have HYv9 : Aside0 (v9.heap[g2]? = some (.cells #[.string ⟨#[]⟩, .int .i64 0, .int .i64 0, .int .i64 0, .int .i64 0, .string ⟨#[]⟩] 68 (0, 0))) := ⟨by rw [← hv9]; exact blk_far (p := ⟨p, 2, none⟩) HYu8.out HNE.out.2.1 _⟩
  have HPv9 : Aside0 (v9.heap[p]? = some (.cells #[.slice A m c, .int .i64 (a4 + 32), .int .i64 me] 78 (0, 0))) := ⟨by rw [← hv9]; exact blk_set HPu8.out 2 _⟩
  have HBv9 : Aside0 (Bm p p w v9) := ⟨by rw [← hv9]; exact HBu8.out.setCell 2 _⟩
  clear hme
  obtain ⟨x0, x1, x2, x3, x4, x5⟩ := lnz_cells HXv9.out
  obtain ⟨y0, y1, y2, y3, y4, y5⟩ := lnz_cells HYv9.out
  have f0 := blk_frozen HYv9.out 0
  have f1 := blk_frozen HYv9.out 1
  have f2 := blk_frozen HYv9.out 2
  have f3 := blk_frozen HYv9.out 3
  have f4 := blk_frozen HYv9.out 4
  have f5 := blk_frozen HYv9.out 5
  go_wp2
  refine bodyPost_ret (results_c1 rfl _ _ g2 68 #[.string (rdA O a0).1, .int .i64 (rd1 O a0).1, .int .i64 (rd2 O a0).1, .int .i64 (rd3 O a0).1, .int .i64 (rd4 O a0).1, .string sm] (0, 0) _ rfl (blk_put (blk_put (blk_put (blk_put (blk_put (blk_put HYv9.out 0 (.string (rdA O a0).1) rfl) 1 (.int .i64 (rd1 O a0).1) rfl) 2 (.int .i64 (rd2 O a0).1) rfl) 3 (.int .i64 (rd3 O a0).1) rfl) 4 (.int .i64 (rd4 O a0).1) rfl) 5 (.string sm) rfl) Tryd.underlying68 rfl (by kernel_rfl)) rfl ?_
  rw [HR.out]
  refine ⟨rfl, ?_, ?_⟩
  · exact blk_far (p := ⟨g2, 5, none⟩) (blk_far (p := ⟨g2, 4, none⟩) (blk_far (p := ⟨g2, 3, none⟩) (blk_far (p := ⟨g2, 2, none⟩) (blk_far (p := ⟨g2, 1, none⟩) (blk_far (p := ⟨g2, 0, none⟩) HPv9.out (Ne.symm HNE.out.2.1) _) (Ne.symm HNE.out.2.1) _) (Ne.symm HNE.out.2.1) _) (Ne.symm HNE.out.2.1) _) (Ne.symm HNE.out.2.1) _) (Ne.symm HNE.out.2.1) _
  · exact (((((HBv9.out.setNew HNE.out.2.2.2.2 0 _).setNew HNE.out.2.2.2.2 1 _).setNew HNE.out.2.2.2.2 2 _).setNew HNE.out.2.2.2.2 3 _).setNew HNE.out.2.2.2.2 4 _).setNew HNE.out.2.2.2.2 5 _
/-! ### ledger_Read: function 21, a contract of my own -/
set_option maxRecDepth 20000 in
theorem MapOk.lookAll {w : World} {mb n : Nat} {S : List Ln} (h : MapOk w mb n S) (p : ByteArray) (hp : p.size ≤ maxLen) :
    ∃ x b, (∀ w' : World, w'.heap[mb]? = w.heap[mb]? → (Instr.lookup 53 (.map (some mb)) (.string p) true).run Tryd.prog w' = .ok (.tuple #[lnV x, .bool b]) w') ∧ (b = true ↔ p ∈ paths S) ∧ ∀ y ∈ S, y.path = p → x = y := by
  obtain ⟨x, b, hrun, h2, h3⟩ := h.look p hp
  refine ⟨x, b, fun w' hw => ?_, h2, h3⟩
  obtain ⟨D, hown, _⟩ := h
  obtain ⟨es, clock, hb, F, _, _⟩ := hown
  have hks : ∀ x ∈ es.toList, MapKept.IsKey .string x.key := fun x hx => by
    obtain ⟨l, hl⟩ := F.keys x hx
    obtain ⟨s', e, _, _⟩ := WideMaps.string_of_keyOf Tryd.underlying9 hl
    rw [e]; trivial
  obtain ⟨a, ha⟩ : ∃ a, Instr.findNow .string (.string p) es.toList 0 = some a := by
    rcases MapKept.findNow_spec (d := .string) (k := .string p) trivial es.toList 0 hks with ⟨h, _⟩ | ⟨j, e, h, _⟩ <;> exact ⟨_, h⟩
  have hf : ∀ W, (Instr.findKey 9 (.string p) es.toList).run Tryd.prog W = .ok a W := fun W => MapKept.run_findKey Tryd.underlying9 ha
  have hck : ∀ W e, (Instr.checkKey e 10000 9 (.string p)).run Tryd.prog W = .ok () W := fun W e => strs_keyed.check W e (kS_key hp)
  have hz : ∀ W : World, (zeroValue 68).run Tryd.prog W = .ok (lnV ⟨⟨#[]⟩, 0, 0, 0, 0, ⟨#[]⟩⟩) W := lnZero
  have key : ∃ r, ∀ W : World, W.heap[mb]? = some (.map es clock) → (Instr.lookup 53 (.map (some mb)) (.string p) true).run Tryd.prog W = .ok r W := by
    cases a with
    | none => exact ⟨_, fun W hW => by simp [Instr.lookup, run_underlying Tryd.underlying53, MapKept.run_getObj_map hW, hck, hf, hz, Result.andThen]; rfl⟩
    | some jv => exact ⟨_, fun W hW => by simp [Instr.lookup, run_underlying Tryd.underlying53, MapKept.run_getObj_map hW, hck, hf, Result.andThen]; rfl⟩
  obtain ⟨r, hr⟩ := key
  have e1 := (hr w hb).symm.trans hrun
  injection e1 with e1
  exact e1 ▸ hr w' (hw.trans hb)
theorem hasP_iff (S : List Ln) (q : ByteArray) : S.any (fun y => eqP q y.path) = true ↔ q ∈ paths S := by
  rw [List.any_eq_true]
  constructor
  · rintro ⟨y, hy, he⟩
    exact List.mem_map.2 ⟨y, hy, (eqP_iff _ _).1 he⟩
  · intro h
    obtain ⟨y, hy, he⟩ := List.mem_map.1 h
    exact ⟨y, hy, (eqP_iff _ _).2 he⟩
open Go.Proofs.YtniboafnkiijcaaDoor.Num in
/-- The lines out of bytes, as many as are told: what is wrong, the place behind, the lines. -/
def rdLines (O : List Int) : Nat → Int → List Ln → Int × (Int × List Ln)
  | 0, a, S => (0, (a, S))
  | q + 1, a, S => if (rdLine O a).2.2 = 0 then (if S.any (fun y => eqP (rdLine O a).1.path y.path) = true then (11, ((rdLine O a).2.1, S)) else rdLines O q (rdLine O a).2.1 (S ++ [(rdLine O a).1])) else ((rdLine O a).2.2, ((rdLine O a).2.1, S))
open Go.Proofs.YtniboafnkiijcaaDoor.Num in
/-- The ledger out of bytes that were sealed: what is wrong, and the lines. -/
def rdTop (O : List Int) (room : Int) : Int × List Ln :=
  if (getS O 0).2.2 ≠ 0 then ((getS O 0).2.2, []) else if (getS O 0).1 > room then (7, []) else
    if (rdLines O (getS O 0).1.toNat (getS O 0).2.1 []).1 ≠ 0 then ((rdLines O (getS O 0).1.toNat (getS O 0).2.1 []).1, [])
    else if (rdLines O (getS O 0).1.toNat (getS O 0).2.1 []).2.1 < (O.length : Int) then (5, []) else (0, (rdLines O (getS O 0).1.toNat (getS O 0).2.1 []).2.2)
theorem rdLine_path {O : List Int} {a0 : Int} : (rdLine O a0).1.path = (rdA O a0).1 := by
  unfold rdLine
  split <;> rfl
theorem rdLine_may {O : List Int} {a0 : Int} (h : (rdLine O a0).2.2 = 0) : mayF (rdLine O a0).1 = 0 := by
  unfold rdLine at h ⊢
  split
  · rename_i h1
    rw [if_pos h1] at h
    exact h
  · rename_i h1
    rw [if_neg h1] at h
    exact absurd h h1
def finR (m : Nat) (r : Int × (Int × List Ln)) : Int × List Ln := if r.1 ≠ 0 then (r.1, []) else if r.2.1 < (m : Int) then (5, []) else (0, r.2.2)
open Go.Proofs.YtniboafnkiijcaaDoor.Num in
theorem rdTop_fin {O : List Int} {room : Int} (h : (getS O 0).2.2 = 0) (h2 : ¬ (getS O 0).1 > room) : rdTop O room = finR O.length (rdLines O (getS O 0).1.toNat (getS O 0).2.1 []) := by
  unfold rdTop finR
  rw [if_neg (by rw [h]; decide), if_neg h2]
/-- Bytes that stay as they are, whatever blocks of X change. -/
structure Src (X : Nat → Prop) (A : Option Addr) (m : Nat) (O : List Int) (w : World) : Prop where
  hC : ∀ w' : World, (∀ k, k < w.heap.size → ¬ X k → w'.heap[k]? = w.heap[k]?) → Kd.C (Kd.int .u8) w' A m O
theorem Src.now {X : Nat → Prop} {A : Option Addr} {m : Nat} {O : List Int} {w : World} (h : Src X A m O w) : Kd.C (Kd.int .u8) w A m O := h.hC w (fun _ _ _ => rfl)
theorem Src.step {X : Nat → Prop} {A : Option Addr} {m : Nat} {O : List Int} {w w1 : World} (h : Src X A m O w) (hs : w.heap.size ≤ w1.heap.size) (hb : ∀ k, k < w.heap.size → ¬ X k → w1.heap[k]? = w.heap[k]?) : Src X A m O w1 :=
  ⟨fun w' h' => h.hC w' (fun k hk hx => (h' k (Nat.lt_of_lt_of_le hk hs) hx).trans (hb k hk hx))⟩
theorem Src.below {X : Nat → Prop} {A : Option Addr} {m : Nat} {O : List Int} {w w1 : World} (h : Src X A m O w) (hb : Below w.heap.size w w1) : Src X A m O w1 := h.step hb.size (fun k hk _ => hb.block k hk)
theorem Src.bm {X : Nat → Prop} {A : Option Addr} {m : Nat} {O : List Int} {w w1 : World} {p q : Nat} (h : Src X A m O w) (hb : Bm p q w w1) (hp : X p) (hq : X q) : Src X A m O w1 :=
  h.step hb.size (fun k hk hx => hb.block k hk (fun e => hx (e ▸ hp)) (fun e => hx (e ▸ hq)))
theorem Src.set {X : Nat → Prop} {A : Option Addr} {m : Nat} {O : List Int} {w : World} {g : Nat} (h : Src X A m O w) (hg : X g) (i : Nat) (u : Value) : Src X A m O (w.setCell ⟨g, i, none⟩ u) :=
  h.step (by simp [World.setCell]) (fun k _ hx => Below.heap_setCell w ⟨g, i, none⟩ u k (fun e => hx (by rw [e]; exact hg)))
theorem Src.of {X : Nat → Prop} {b0 : Nat} {A : Option Addr} {m c : Nat} {O : List Int} {w : World} (h : Kd.R (Kd.int .u8) 5 w b0 (fun _ => True) (.slice A m c) O) (hm : O.length = m) (hX : ∀ k cells, X k → k < w.heap.size → w.heap[k]? ≠ some (.cells cells 5 (0, 0))) : Src X A m O w := by
  refine ⟨fun w' h' => ?_⟩
  have hE : (Kd.int .u8).E = [] := by rfl
  have h2 := Kd.R_step (w1 := w') (Kd.R_bound h) (fun k hk hlt => h' k hlt (fun hx => by
    obtain ⟨_, _, _, z, hz, cells, hc⟩ := hk
    rw [hE] at hz
    rw [List.mem_singleton.1 hz] at hc
    exact hX k cells hx hlt hc))
  have h3 := (Kd.R_reads' h2).2.2
  rw [hm] at h3
  exact h3
theorem Lg.bm1 {b0 p mb n q ty : Nat} {room : Int} {v : Value} {S : List Ln} {w w' : World} {cs : Array Value} (h : Lg b0 p mb n room v S w) (hb : Bm q q w w') (hq : w.heap[q]? = some (.cells cs ty (0, 0))) (ht : ty ≠ 57 ∧ ty ≠ 9) : Lg b0 p mb n room v S w' := by
  have hp : p ≠ q := fun e => by
    have h1 := h.hP
    rw [e, hq] at h1
    injection h1 with h1
    injection h1 with _ h1
    exact ht.1 h1
  have hm : mb ≠ q := fun e => by
    obtain ⟨D, hown, _⟩ := h.hM
    obtain ⟨es, c, hmb, _⟩ := hown
    rw [e, hq] at hmb
    cases hmb
  refine ⟨(hb.block p (blk_lt h.hP) hp hp).trans h.hP, h.hM.kept (row := some q) ⟨hb.os, hb.tape, hb.output, hb.size, fun i hi hne => hb.block i hi (fun e => hne (by rw [e])) (fun e => hne (by rw [e]))⟩ (fun e => hm (Option.some.inj e)), ?_, h.hN, h.hz, h.hne, h.hp0, h.hm0, h.hl⟩
  have hE : Kd.string.E = [] := by rfl
  have h2 := Kd.R_types h.hR hq (fun z hz => by rw [hE] at hz; rw [List.mem_singleton.1 hz]; exact Ne.symm ht.2)
  exact Kd.R_mono (Kd.R_step h2 (fun k hk hlt => hb.block k hlt hk.2 hk.2)) (fun k hk => hk.1)
theorem lastS_new {x : Ln} {S : List Ln} (h : x.path ∉ paths S) : lastS x S = S ++ [x] := by
  unfold lastS outS
  rw [List.filter_eq_self.2]
  intro y hy
  have : eqP x.path y.path = false := by
    cases he : eqP x.path y.path with
    | false => rfl
    | true => exact absurd (List.mem_map.2 ⟨y, hy, (eqP_iff _ _).1 he⟩) h
  rw [this]; rfl
set_option maxHeartbeats 16000000 in
set_option maxRecDepth 100000 in
open Go.Proofs.YtniboafnkiijcaaDoor.Num in
theorem led_Read.bad (A : Option Addr) (m c : Nat) (room : Int) (w : World) (h : (decide (room < 1) || decide (room > 4096)) = true) :
    Calls Tryd.prog 21 #[.slice A m c, .int .i64 room] w fun e w' => e = .returned (.tuple #[.pointer none, .int .i64 2]) ∧ Below w.heap.size w w' := by
  have HN := Aside0.mk (led_New.bad room w h)
  clear h
  go_enter Tryd.func21, Tryd.ntmps21
  go_wp2_with fail
  refine HN.out.mono ?_
  rintro e w1 ⟨rfl, rfl⟩
  go_wp2
  go_ret2
  exact ⟨rfl, Below.refl _ _⟩
set_option maxHeartbeats 16000000 in
set_option maxRecDepth 100000 in
open Go.Proofs.YtniboafnkiijcaaDoor.Num in
theorem led_Read.shut (A : Option Addr) (c : Nat) (l O : List Int) (eo : Int) (room : Int) (w : World) (hG : GT w) (hr : Kd.C (Kd.int .u8) w A l.length l) (hc : l.length ≤ c) (ho : crc_Open.f l = some (O, eo)) (he : eo ≠ 0) (h : (decide (room < 1) || decide (room > 4096)) = false) :
    Calls Tryd.prog 21 #[.slice A l.length c, .int .i64 room] w fun e w' => e = .returned (.tuple #[.pointer none, .int .i64 eo]) ∧ Below w.heap.size w w' := by
  have HN := Aside0.mk (led_New.at_ room w h)
  have HO := Aside0.mk (fun (w1 : World) (hg : GT w1) (hC : Kd.C (Kd.int .u8) w1 A l.length l) => crc_Open.calls A c l O eo w1 hg hC hc ho)
  have HG := Aside0.mk hG
  have HC := Aside0.mk hr
  have e1 : (eo != 0) = true := bne_iff_ne.mpr he
  clear h hG hr hc ho he
  go_enter Tryd.func21, Tryd.ntmps21
  go_wp2_with fail
  refine HN.out.mono ?_
  rintro e w1 ⟨p, mb, rfl, hL, hB⟩
  have HB := Aside0.mk hB
  clear hL hB HN
  go_wp2_with fail
  refine (HO.out w1 (HG.out.below HB.out) (Kd.C_below HC.out HB.out)).mono ?_
  rintro e w2 ⟨v, rfl, hR, hb⟩
  have HB2 := Aside0.mk (ld_step HB.out hb)
  clear hR hb HO
  go_wp2
  go_ret2
  exact ⟨rfl, HB2.out⟩
def ReadPost (w : World) (room : Int) (r : Int × List Ln) (e : Ending) (w' : World) : Prop :=
  Below w.heap.size w w' ∧ ((r.1 ≠ 0 ∧ e = .returned (.tuple #[.pointer none, .int .i64 r.1])) ∨
    (r.1 = 0 ∧ ∃ p mb n v, e = .returned (.tuple #[.pointer (some ⟨p, 0, none⟩), .int .i64 0]) ∧ Lg w.heap.size p mb n room v r.2 w' ∧ n ≤ 5000 ∧ (r.2.length : Int) ≤ room ∧ ∀ x ∈ r.2, mayF x = 0))
end Go.Proofs.YtniboafnkiijcaaDoor.P
