/- Chapter 31, MuxNn. -/
import Derived.Test.YthehhbfiaaadgaaDoorMux4
import Derived.Test.YthehhbfiaaadgaaDoorPx0
import Derived.Test.YthehhbfiaaadgaaDoorMuxNb
import Derived.Deep.CutBlock
namespace Go.Proofs.YthehhbfiaaadgaaDoor.P
open Go.RowKit Go.Proofs.YthehhbfiaaadgaaDoorW.PrintWords Go.Proofs.YthehhbfiaaadgaaDoorW.PrintLast Go.Proofs.YthehhbfiaaadgaaDoorW.PrintMore
attribute [local go_sem] max2_int min2_int max_two min_two max_three min_three max_four min_four
set_option linter.unusedVariables false
set_option linter.unusedSimpArgs false
open Go.Proofs.YthehhbfiaaadgaaDoor.Num Go.Proofs.YthehhbfiaaadgaaDoor.Pure
theorem Duo.outLen {A B : Mx} {f g : List Fr} {o' : List Int} {SA CB SB CA : Nat → List Int} (h : Duo A B f g [] o' SA CB SB CA) (n : Int) : (A.outB n).length ≤ 20000000 := by
  obtain ⟨f', h5⟩ := Duo.fill n (A.mu + 1) A f h
  have h6 := h5.good.pot
  have := (Mx.outB_byt h.fa n).2
  unfold Mx.pot at h6
  omega
theorem Duo.inLen {A B : Mx} {f g : List Fr} {o o' : List Int} {SA CB SB CA : Nat → List Int} (h : Duo A B f g o o' SA CB SB CA) : B.L.length ≤ 20000000 := by
  have h1 := h.len
  have h2 := congrArg List.length h.ab.bytes
  rw [List.length_append] at h2
  have := h.bounds 0 (by omega)
  omega
theorem Duo.sum {A B : Mx} {f g : List Fr} {o o' : List Int} {SA CB SB CA : Nat → List Int} (h : Duo A B f g o o' SA CB SB CA) : sum8 (fun ch => 8 * (A.way ch).toNat + 15 * (B.way ch).toNat) ≤ 184 * A.win.toNat := by
  have h3 : sum8 (fun ch => 8 * (A.way ch).toNat + 15 * (B.way ch).toNat) ≤ sum8 (fun _ => 23 * A.win.toNat) := sum8_mono (fun i hi => by
    have h1 := h.fa.way i hi
    have h2 := h.fb.way i hi
    have h3 := h.win
    omega)
  have h4 : sum8 (fun _ => 23 * A.win.toNat) = 184 * A.win.toNat := by simp only [sum8]; omega
  omega
structure NoneI (win ch : Nat) (A B : Mx) (SA CB SB CA : Nat → List Int) : Prop where
  duo : Duo A B [] [] [] [] SA CB SB CA
  hwin : A.win = win
  full : ∀ k, k < 8 → k ≠ ch → (SA k).length = win ∧ CB k = []
  free : A.way ch = 0
structure NoneJ (win ch i : Nat) (A B : Mx) (SA CB SB CA : Nat → List Int) : Prop where
  duo : Duo A B [] [] [] [] SA CB SB CA
  hwin : A.win = win
  none_ : ∀ k, CB k = []
  full : ∀ k, k < 8 → k < i → k ≠ ch → (SA k).length = win
  free : ∀ k, k < 8 → i ≤ k ∨ k = ch → A.way k = 0
theorem NoneJ.start {win : Nat} (ch : Nat) (hw : 1 ≤ win ∧ win ≤ 65536) : NoneJ win ch 0 (Mx.new win) (Mx.new win) (fun _ => []) (fun _ => []) (fun _ => []) (fun _ => []) :=
  ⟨Duo.new ⟨by omega, by omega⟩, rfl, fun _ => rfl, fun k _ h => absurd h (Nat.not_lt_zero _), fun _ _ _ => rfl⟩
theorem NoneJ.skip {win ch : Nat} {A B : Mx} {SA CB SB CA : Nat → List Int} (h : NoneJ win ch ch A B SA CB SB CA) : NoneJ win ch (ch + 1) A B SA CB SB CA :=
  ⟨h.duo, h.hwin, h.none_, fun k h8 hk hne => h.full k h8 (by omega) hne, fun k h8 hk => h.free k h8 (by omega)⟩
theorem NoneJ.sendE {win ch i : Nat} {A B : Mx} {SA CB SB CA : Nat → List Int} (h : NoneJ win ch i A B SA CB SB CA) (hi : i < 8) : A.sendE i win = 0 := by
  unfold Mx.sendE
  have := h.free i hi (.inl (Nat.le_refl _))
  have hw := h.hwin
  rw [if_neg (fun e => e h.duo.ea), if_neg (by omega), Int.toNat_natCast, if_neg (by omega)]
theorem NoneJ.put {win ch i : Nat} {A B : Mx} {SA CB SB CA : Nat → List Int} (h : NoneJ win ch i A B SA CB SB CA) (hi : i < 8) (hne : i ≠ ch) (N : List Int) (hN : Byt N) (hl : N.length = win) : ∃ SA', NoneJ win ch (i + 1) (A.send i N) B SA' CB SB CA := by
  have hf := h.free i hi (.inl (Nat.le_refl _))
  have hw := h.hwin
  have hwin := h.duo.fa.win
  have h1 := h.duo.send i hi N hN (by omega)
  refine ⟨_, h1, hw, h.none_, fun k h8 hk hkc => ?_, fun k h8 hk => ?_⟩
  · unfold upd
    by_cases e : k = i
    · subst e
      have t := h.duo.ab.text k h8
      have r := h.duo.ab.room k h8
      have o := h.duo.fb.owed k h8
      have b := h.duo.fb.back k h8
      have hl2 := congrArg List.length t
      rw [h.none_ k] at hl2
      simp only [List.length_append, List.length_nil, dat_nil] at hl2
      rw [if_pos rfl, List.length_append]
      omega
    · rw [if_neg e]; exact h.full k h8 (by omega) hkc
  · show upd A.way i (wrap64 (A.way i + (N.length : Nat))) k = 0
    unfold upd
    rw [if_neg (by omega)]
    exact h.free k h8 (by omega)
theorem NoneJ.done {win ch : Nat} {A B : Mx} {SA CB SB CA : Nat → List Int} (hch : ch < 8) (h : NoneJ win ch 8 A B SA CB SB CA) : NoneI win ch A B SA CB SB CA :=
  ⟨h.duo, h.hwin, fun k h8 hk => ⟨h.full k h8 h8 hk, h.none_ k⟩, h.free ch hch (.inr rfl)⟩
structure NoneS (mil : Int) (win ch : Nat) (b : List Int) (A B : Mx) : Prop where
  e0 : A.sendE ch b.length = 0
  len0 : ∀ c, c < 8 → (A.sent c).length + b.length ≤ 140737488355328
  fit0 : A.Fit
  fit1 : (A.send ch b).Fit
  good1 : (A.send ch b).Good 20000000
  ea1 : (A.send ch b).e = 0
  byt1 : Byt ((A.send ch b).outB mil)
  len1 : ((A.send ch b).outB mil).length ≤ 20000000
  fitB : B.Fit
  eB : B.e = 0
  lenB : B.L.length ≤ 20000000
  eB1 : (B.took ((A.send ch b).outB mil)).e = 0
  held : (B.took ((A.send ch b).outB mil)).held ch = b
  good2 : ((B.took ((A.send ch b).outB mil)).recv ch).Good 20000000
  eB2 : ((B.took ((A.send ch b).outB mil)).recv ch).e = 0
  byt2 : Byt (((B.took ((A.send ch b).outB mil)).recv ch).outB mil)
  len2 : (((B.took ((A.send ch b).outB mil)).recv ch).outB mil).length ≤ 20000000
  fit2 : ((A.send ch b).outs mil).Fit
  ea2 : ((A.send ch b).outs mil).e = 0
  lenA : ((A.send ch b).outs mil).L.length ≤ 20000000
  ea3 : (((A.send ch b).outs mil).took (((B.took ((A.send ch b).outB mil)).recv ch).outB mil)).e = 0
  fit3 : (((A.send ch b).outs mil).took (((B.took ((A.send ch b).outB mil)).recv ch).outB mil)).Fit
  room : (((A.send ch b).outs mil).took (((B.took ((A.send ch b).outB mil)).recv ch).outB mil)).win - (((A.send ch b).outs mil).took (((B.took ((A.send ch b).outB mil)).recv ch).outB mil)).way ch = win
  next : ∃ SA CB SB CA, NoneI win ch (((A.send ch b).outs mil).took (((B.took ((A.send ch b).outB mil)).recv ch).outB mil)) (((B.took ((A.send ch b).outB mil)).recv ch).outs mil) SA CB SB CA
theorem NoneI.step (mil : Int) (hmil : 368000 < mil) {win ch : Nat} {A B : Mx} {SA CB SB CA : Nat → List Int} (h : NoneI win ch A B SA CB SB CA) (hch : ch < 8) (hw : win ≤ 2000) (b : List Int) (hb : Byt b) (hl : b.length ≤ win) : NoneS mil win ch b A B := by
  have hwin := h.hwin
  have hfree := h.free
  have h1 := h.duo.send ch hch b hb (by omega)
  have hw1 : (A.send ch b).win = win := hwin
  obtain ⟨h2, hs2, hb2, ho2, hL2⟩ := h1.pass mil (by have := h1.sum; omega)
  have h3 := (h2.recv ch hch).swap
  have hwB : ((B.took ((A.send ch b).outB mil)).recv ch).win = win := by
    have := h3.win
    have h4 : ((A.send ch b).outs mil).win = (A.send ch b).win := (Mx.outs_same h1.fa mil).1
    omega
  obtain ⟨h4, hs4, hb4, ho4, hL4⟩ := h3.pass mil (by have := h3.sum; omega)
  have hheld : (B.took ((A.send ch b).outB mil)).held ch = b := by
    have t := h2.ab.text ch hch
    have t0 := h.duo.ab.text ch hch
    have r := h.duo.ab.room ch hch
    have o := h.duo.fb.owed ch hch
    have bk := h.duo.fb.back ch hch
    rw [hs2 ch hch] at t
    have e1 : (B.held ch) = [] := List.eq_nil_of_length_eq_zero (by omega)
    have e2 : (A.sent ch) = [] := List.eq_nil_of_length_eq_zero (by omega)
    rw [e1, e2] at t0
    simp only [upd, dat_nil, List.append_nil, List.nil_append, if_true] at t t0
    rw [t0] at t
    exact (List.append_cancel_left t).symm
  have hro : (((A.send ch b).outs mil).took (((B.took ((A.send ch b).outB mil)).recv ch).outB mil)).way ch = 0 := by
    have r := h4.swap.ab.room ch hch
    have o := h4.fa.owed ch hch
    have b4 := hb4 ch hch
    have hd : (((B.took ((A.send ch b).outB mil)).recv ch).outs mil).held ch = [] := by
      have e : (((B.took ((A.send ch b).outB mil)).recv ch).outs mil).held = ((B.took ((A.send ch b).outB mil)).recv ch).held := (Mx.outs_same h3.fa mil).2.2.1
      rw [e]
      show upd _ ch [] ch = _
      unfold upd; rw [if_pos rfl]
    have hsn : (((A.send ch b).outs mil).took (((B.took ((A.send ch b).outB mil)).recv ch).outB mil)).sent ch = [] := by
      have t4 := h4.swap.ab.text ch hch
      have t2 := h3.swap.ab.text ch hch
      rw [hd] at t4
      have hd2 : ((B.took ((A.send ch b).outB mil)).recv ch).held ch = [] := by
        show upd _ ch [] ch = _
        unfold upd; rw [if_pos rfl]
      rw [hd2, hs2 ch hch] at t2
      rw [t2] at t4
      simp only [dat_nil, List.nil_append, List.append_nil] at t4
      have := congrArg List.length t4
      rw [List.length_append] at this
      exact List.eq_nil_of_length_eq_zero (by omega)
    rw [hd, b4] at o
    rw [hsn, dat_nil, gif_nil] at r
    simp only [List.length_nil] at r o
    omega
  have hwA3 : (((A.send ch b).outs mil).took (((B.took ((A.send ch b).outB mil)).recv ch).outB mil)).win = win := by
    have a := h4.win
    have c := (Mx.outs_same h3.fa mil).1
    omega
  refine ⟨?_, fun c hc => ?_, h.duo.fa, h1.fa, h1.good, h1.ea, (Mx.outB_byt h1.fa mil).1, h1.outLen mil, h1.fb, h1.eb, h1.inLen, h2.eb, hheld, h3.good, h3.ea, (Mx.outB_byt h3.fa mil).1, h3.outLen mil, h2.fa, h2.ea, h3.inLen, h4.eb, h4.fb, by rw [hwA3, hro]; omega, _, _, _, _, h4.swap, hwA3, fun k h8 hk => ?_, hro⟩
  · unfold Mx.sendE
    rw [if_neg (fun e => e h.duo.ea), if_neg (by omega), Int.toNat_natCast, if_neg (by omega)]
  · have := h.duo.bounds c hc; omega
  · have := h.full k h8 hk
    unfold upd
    rw [if_neg hk, if_neg hk]
    exact this
theorem NoneI.end_ {win ch : Nat} {A B : Mx} {SA CB SB CA : Nat → List Int} (h : NoneI win ch A B SA CB SB CA) (k : Nat) (h8 : k < 8) (hk : k ≠ ch) : A.win - A.way k = 0 := by
  have t := congrArg List.length (h.duo.ab.text k h8)
  have r := h.duo.ab.room k h8
  have o := h.duo.fb.owed k h8
  have b := h.duo.fb.back k h8
  have w := h.duo.fa.way k h8
  have f := h.full k h8 hk
  have hw := h.hwin
  rw [f.2] at t
  simp only [List.length_append, List.length_nil, dat_nil, gif_nil] at t r
  omega
open Go.Proofs.YthehhbfiaaadgaaDoor.Num Go.Proofs.YthehhbfiaaadgaaDoor.Pure
theorem conv_C {w : World} {A : Option Addr} {n : Nat} {L : List Int} (c : Nat) (h : Kd.C (Kd.int .u8) w A n L) : (convert 32 9 (.slice A n c)).run Tryd.prog w = .ok (.string (strOfNums L)) w := by
  have hn := h.1
  subst hn
  exact Kd.C_string (P := Tryd.prog) (A := A) (c := c) Tryd.underlying32 Tryd.underlying5 Tryd.underlying9 h
theorem conv_Tb {w : World} {b0 : Nat} {v : Value} {L : List Int} (h : Tb w b0 v L) : ∃ A c, v = .slice A L.length c ∧ Kd.C (Kd.int .u8) w A L.length L := by
  obtain ⟨A, c, hv, _, hC⟩ := h.reads
  exact ⟨A, c, hv, hC⟩
theorem byt_zeros (n : Nat) : Byt (List.replicate n 0) := fun x hx => by rw [(List.mem_replicate.1 hx).2]; omega
set_option maxHeartbeats 16000000 in
set_option maxRecDepth 100000 in
theorem none_main (win ch : Nat) (hw1 : 1 ≤ win) (hw : win ≤ 2000) (hch : ch < 8) (D : Option Addr) (cl : Nat) (l : List (List Int)) (w : World) (hG : GT w) (hl : l.length ≤ 20) (hC : Kd.C (Kd.slice 5 (Kd.int .u8)) w D l.length l) (hB : ∀ x ∈ l, Byt x) :
    Calls Tryd.prog 4 #[.int .i64 win, .int .i64 ch, .slice D l.length cl] w fun e w' => e = .returned (.bool true) ∧ Below w.heap.size w w' := by
  have k1 : decide ((win : Int) < 1) = false := decide_eq_false (by omega)
  have k2 : decide ((win : Int) > 2000) = false := decide_eq_false (by omega)
  have k2' : decide (2000 < (win : Int)) = false := k2
  have k3 : decide ((ch : Int) < 0) = false := decide_eq_false (by omega)
  have k4 : decide ((ch : Int) > 7) = false := decide_eq_false (by omega)
  have k4' : decide (7 < (ch : Int)) = false := k4
  obtain ⟨m, hm⟩ : ∃ m, l.length = m := ⟨_, rfl⟩
  rw [hm] at hl hC ⊢
  have k5 : decide ((m : Int) > 20) = false := decide_eq_false (by omega)
  have k5' : decide (20 < (m : Int)) = false := k5
  have HX := Aside0.mk (And.intro hw1 (And.intro hw (And.intro hch (And.intro hl hm))))
  have HC := Aside0.mk hC
  have HBY := Aside0.mk hB
  have HG := Aside0.mk hG
  have H0 := Aside0.mk (gt_pos hG)
  clear hw1 hw hch hl hm hC hB hG
  go_enter Tryd.func4, Tryd.ntmps4
  go_wp2_with fail
  refine (law_pair (win : Int) (by have := HX.out.1; have := HX.out.2.1; omega) w).mono ?_
  rintro e w1 ⟨g, p, q, p', q', rfl, hg1, hgw, hT1, hb1⟩
  have HK1 := Aside0.mk (And.intro hg1 hgw)
  have HT1 := Aside0.mk hT1
  have HB1 := Aside0.mk hb1
  have kn := run_eql_pair ⟨g, 0, none⟩ 2 2
  clear hg1 hgw hT1 hb1 k1 k2 k2' k3 k4 k4' k5 k5'
  go_upto_block 0 with (fail)
  go_cut [8, 36] (fun s8 s36 wx => ∃ A B vs vs', Aside0 (∃ SA CB SB CA, NoneI win ch A B SA CB SB CA) ∧ Aside0 (Two w.heap.size (fun k => k = g) p q vs A p' q' vs' B wx) ∧ Aside0 (Nx w.heap.size (fun k => k = g) w1 wx))
  case first =>
    go_wp2_with fail
    go_loopg [8, 36] 8 (fun gg v8 v36 w' => ∃ (i : Nat) (A B : Mx) (vs vs' : Nat → Value), gg = 8 - i ∧ v36 = .int .i64 i ∧ Aside0 (i ≤ 8 ∧ ∃ SA CB SB CA, NoneJ win ch i A B SA CB SB CA) ∧ Aside0 (Two w.heap.size (fun k => k = g) p q vs A p' q' vs' B w') ∧ Aside0 (Nx w.heap.size (fun k => k = g) w1 w'))
    case atStart => exact ⟨0, _, _, _, _, rfl, rfl, ⟨by omega, _, _, _, _, NoneJ.start ch (by have := HX.out.1; have := HX.out.2.1; omega)⟩, HT1, ⟨Nx.refl _ _ _⟩⟩
    case round =>
      clear HT1
      obtain ⟨i, A, B, vs, vs', rfl, rfl, HI, HT, HN⟩ := hrel
      have hi := HI.out.1
      by_cases c1 : i < 8
      · have k1 : decide ((i : Int) < 8) = true := decide_eq_true (by omega)
        have hadd : wrap64 ((i : Int) + 1) = ((i + 1 : Nat) : Int) := by unfold wrap64; omega
        have C1 := Aside0.mk c1
        by_cases c2 : i = ch
        · have k2 : ((i : Int) != (ch : Int)) = false := by rw [c2]; simp
          have k2' : (i != ch) = false := by rw [c2]; simp
          have C2 := Aside0.mk c2
          clear hi c1 c2
          go_wp2
          refine start_ (n := 13) (S := fun w' => True) (ds := []) #[false, false, false, false, false, false, false, false, false, false, false, false, false] (by kernel_rfl) rfl rfl trivial (fun hHeld => ?_)
          refine pure_ (i := 0) (N := some 39) (v := ?_) (a' := ?_) #[true, false, false, false, false, false, false, false, false, false, false, false, false] rfl rfl (by kernel_rfl) (fun _ _ _ h => h) (Or.inl ⟨by rfl, ?_⟩) ?_ ?_
          rotate_left
          · intro w'
            go_simp
            with_reducible rfl
          rotate_left
          · simp only [Act.put, List.setIfInBounds_toArray, List.set_cons_zero, List.set_cons_succ, i64_w, i32_w]
            rfl
          refine pure_ (i := 1) (N := some 40) (v := ?_) (a' := ?_) #[true, true, false, false, false, false, false, false, false, false, false, false, false] rfl rfl (by kernel_rfl) (fun _ _ _ h => h) (Or.inl ⟨by rfl, ?_⟩) ?_ ?_
          rotate_left
          · intro w'
            go_simp
            with_reducible rfl
          rotate_left
          · simp only [Act.put, List.setIfInBounds_toArray, List.set_cons_zero, List.set_cons_succ, i64_w, i32_w]
            rfl
          refine pure_ (i := 2) (N := some 41) (v := ?_) (a' := ?_) #[true, true, true, false, false, false, false, false, false, false, false, false, false] rfl rfl (by kernel_rfl) (fun _ _ _ h => h) (Or.inl ⟨by rfl, ?_⟩) ?_ ?_
          rotate_left
          · intro w'
            go_simp
            with_reducible rfl
          rotate_left
          · simp only [Act.put, List.setIfInBounds_toArray, List.set_cons_zero, List.set_cons_succ, i64_w, i32_w]
            rfl
          refine pure_ (i := 3) (N := some 42) (v := ?_) (a' := ?_) #[true, true, true, true, false, false, false, false, false, false, false, false, false] rfl rfl (by kernel_rfl) (fun _ _ _ h => h) (Or.inl ⟨by rfl, ?_⟩) ?_ ?_
          rotate_left
          · intro w'
            go_simp
            with_reducible rfl
          rotate_left
          · simp only [Act.put, List.setIfInBounds_toArray, List.set_cons_zero, List.set_cons_succ, i64_w, i32_w]
            rfl
          refine pure_ (i := 4) (N := some 43) (v := undef) (a' := ?_) #[true, true, true, true, true, false, false, false, false, false, false, false, false] rfl rfl (by kernel_rfl) (fun _ _ _ h => h) (Or.inr ⟨by rfl, rfl⟩) ?_ ?_
          rotate_left
          · simp only [Act.put, List.setIfInBounds_toArray, List.set_cons_zero, List.set_cons_succ, i64_w, i32_w]
            rfl
          refine pure_ (i := 5) (N := some 44) (v := undef) (a' := ?_) #[true, true, true, true, true, true, false, false, false, false, false, false, false] rfl rfl (by kernel_rfl) (fun _ _ _ h => h) (Or.inr ⟨by rfl, rfl⟩) ?_ ?_
          rotate_left
          · simp only [Act.put, List.setIfInBounds_toArray, List.set_cons_zero, List.set_cons_succ, i64_w, i32_w]
            rfl
          refine pure_ (i := 6) (N := some 45) (v := undef) (a' := ?_) #[true, true, true, true, true, true, true, false, false, false, false, false, false] rfl rfl (by kernel_rfl) (fun _ _ _ h => h) (Or.inr ⟨by rfl, rfl⟩) ?_ ?_
          rotate_left
          · simp only [Act.put, List.setIfInBounds_toArray, List.set_cons_zero, List.set_cons_succ, i64_w, i32_w]
            rfl
          refine pure_ (i := 7) (N := some 46) (v := undef) (a' := ?_) #[true, true, true, true, true, true, true, true, false, false, false, false, false] rfl rfl (by kernel_rfl) (fun _ _ _ h => h) (Or.inr ⟨by rfl, rfl⟩) ?_ ?_
          rotate_left
          · simp only [Act.put, List.setIfInBounds_toArray, List.set_cons_zero, List.set_cons_succ, i64_w, i32_w]
            rfl
          refine pure_ (i := 8) (N := some 47) (v := undef) (a' := ?_) #[true, true, true, true, true, true, true, true, true, false, false, false, false] rfl rfl (by kernel_rfl) (fun _ _ _ h => h) (Or.inr ⟨by rfl, rfl⟩) ?_ ?_
          rotate_left
          · simp only [Act.put, List.setIfInBounds_toArray, List.set_cons_zero, List.set_cons_succ, i64_w, i32_w]
            rfl
          refine pure_ (i := 9) (N := some 48) (v := undef) (a' := ?_) #[true, true, true, true, true, true, true, true, true, true, false, false, false] rfl rfl (by kernel_rfl) (fun _ _ _ h => h) (Or.inr ⟨by rfl, rfl⟩) ?_ ?_
          rotate_left
          · simp only [Act.put, List.setIfInBounds_toArray, List.set_cons_zero, List.set_cons_succ, i64_w, i32_w]
            rfl
          refine pure_ (i := 10) (N := some 49) (v := undef) (a' := ?_) #[true, true, true, true, true, true, true, true, true, true, true, false, false] rfl rfl (by kernel_rfl) (fun _ _ _ h => h) (Or.inr ⟨by rfl, rfl⟩) ?_ ?_
          rotate_left
          · simp only [Act.put, List.setIfInBounds_toArray, List.set_cons_zero, List.set_cons_succ, i64_w, i32_w]
            rfl
          refine pure_ (i := 11) (N := some 50) (v := undef) (a' := ?_) #[true, true, true, true, true, true, true, true, true, true, true, true, false] rfl rfl (by kernel_rfl) (fun _ _ _ h => h) (Or.inr ⟨by rfl, rfl⟩) ?_ ?_
          rotate_left
          · simp only [Act.put, List.setIfInBounds_toArray, List.set_cons_zero, List.set_cons_succ, i64_w, i32_w]
            rfl
          refine pure_ (i := 12) (N := some 51) (v := ?_) (a' := ?_) #[true, true, true, true, true, true, true, true, true, true, true, true, true] rfl rfl (by kernel_rfl) (fun _ _ _ h => h) (Or.inl ⟨by rfl, ?_⟩) ?_ ?_
          rotate_left
          · intro w'
            go_simp
            with_reducible rfl
          rotate_left
          · simp only [Act.put, List.setIfInBounds_toArray, List.set_cons_zero, List.set_cons_succ, i64_w, i32_w]
            rfl
          refine done_ (by kernel_rfl) ?_
          have HTd := Aside0.mk (HT.out.below (below_drew (Below.refl _ wr))).1
          have HNd := Aside0.mk (HN.out.trans (HT.out.below (below_drew (Below.refl _ wr))).2)
          go_wp2
          go_roundg (8 - (i + 1))
          case measure => have := C1.out; omega
          case rel =>
            obtain ⟨SA, CB, SB, CA, hJ⟩ := HI.out.2
            have hJ2 : NoneJ win ch (i + 1) A B SA CB SB CA := by
              have := C2.out
              subst this
              exact hJ.skip
            exact ⟨i + 1, A, B, vs, vs', rfl, by first | rfl | rw [hadd], ⟨by have := C1.out; omega, SA, CB, SB, CA, hJ2⟩, HTd, HNd⟩
        · have k2 : ((i : Int) != (ch : Int)) = true := bne_iff_ne.mpr (by omega)
          have k2' : (i != ch) = true := bne_iff_ne.mpr c2
          have C2 := Aside0.mk c2
          have HK := Aside0.mk ((HN.out.kept g rfl).trans HK1.out.1)
          have HTd := Aside0.mk (HT.out.below (below_drew (Below.refl _ wr))).1
          have HNd := Aside0.mk (HN.out.trans (HT.out.below (below_drew (Below.refl _ wr))).2)
          have HKd := Aside0.mk (blk_below HK.out (below_drew (Below.refl _ wr)))
          clear hi c1 c2
          go_wp2
          refine start_ (n := 13) (S := fun w' => w'.cell? ⟨g, 0, none⟩ = some (.pointer (some ⟨p, 0, none⟩))) (ds := []) #[false, false, false, false, false, false, false, false, false, false, false, false, false] (by kernel_rfl) rfl rfl ((blk_cell HKd.out 0)) (fun hHeld => ?_)
          refine pure_ (i := 0) (N := some 39) (v := ?_) (a' := ?_) #[true, false, false, false, false, false, false, false, false, false, false, false, false] rfl rfl (by kernel_rfl) (fun _ _ _ h => h) (Or.inl ⟨by rfl, ?_⟩) ?_ ?_
          rotate_left
          · intro w'
            go_simp
            with_reducible rfl
          rotate_left
          · simp only [Act.put, List.setIfInBounds_toArray, List.set_cons_zero, List.set_cons_succ, i64_w, i32_w]
            rfl
          refine pure_ (i := 1) (N := some 40) (v := ?_) (a' := ?_) #[true, true, false, false, false, false, false, false, false, false, false, false, false] rfl rfl (by kernel_rfl) (fun _ _ _ h => h) (Or.inl ⟨by rfl, ?_⟩) ?_ ?_
          rotate_left
          · intro w'
            go_simp
            with_reducible rfl
          rotate_left
          · simp only [Act.put, List.setIfInBounds_toArray, List.set_cons_zero, List.set_cons_succ, i64_w, i32_w]
            rfl
          refine pure_ (i := 2) (N := some 41) (v := ?_) (a' := ?_) #[true, true, true, false, false, false, false, false, false, false, false, false, false] rfl rfl (by kernel_rfl) (fun _ _ _ h => h) (Or.inl ⟨by rfl, ?_⟩) ?_ ?_
          rotate_left
          · intro w'
            go_simp
            with_reducible rfl
          rotate_left
          · simp only [Act.put, List.setIfInBounds_toArray, List.set_cons_zero, List.set_cons_succ, i64_w, i32_w]
            rfl
          refine pure_ (i := 3) (N := some 42) (v := ?_) (a' := ?_) #[true, true, true, true, false, false, false, false, false, false, false, false, false] rfl rfl (by kernel_rfl) (fun _ _ _ h => h) (Or.inl ⟨by rfl, ?_⟩) ?_ ?_
          rotate_left
          · intro w'
            go_simp
            with_reducible rfl
          rotate_left
          · simp only [Act.put, List.setIfInBounds_toArray, List.set_cons_zero, List.set_cons_succ, i64_w, i32_w]
            rfl
          refine pure_ (i := 4) (N := some 43) (v := ?_) (a' := ?_) #[true, true, true, true, true, false, false, false, false, false, false, false, false] rfl rfl (by kernel_rfl) (fun _ _ _ h => h) (Or.inl ⟨by rfl, ?_⟩) ?_ ?_
          rotate_left
          · intro w'
            go_simp
            with_reducible rfl
          rotate_left
          · simp only [Act.put, List.setIfInBounds_toArray, List.set_cons_zero, List.set_cons_succ, i64_w, i32_w]
            rfl
          refine pure_ (i := 5) (N := some 44) (v := ?_) (a' := ?_) #[true, true, true, true, true, true, false, false, false, false, false, false, false] rfl rfl (by kernel_rfl) (fun _ _ _ h => h) (Or.inl ⟨by rfl, ?_⟩) ?_ ?_
          rotate_left
          · intro w'
            go_simp
            with_reducible rfl
          rotate_left
          · simp only [Act.put, List.setIfInBounds_toArray, List.set_cons_zero, List.set_cons_succ, i64_w, i32_w]
            rfl
          refine pure_ (i := 7) (N := some 46) (v := ?_) (a' := ?_) #[true, true, true, true, true, true, false, true, false, false, false, false, false] rfl rfl (by kernel_rfl) (fun _ _ _ h => h) (Or.inl ⟨by rfl, ?_⟩) ?_ ?_
          rotate_left
          · intro w'
            go_simp
            with_reducible rfl
          rotate_left
          · simp only [Act.put, List.setIfInBounds_toArray, List.set_cons_zero, List.set_cons_succ, i64_w, i32_w]
            rfl
          refine pure_ (i := 8) (N := some 47) (v := ?_) (a' := ?_) #[true, true, true, true, true, true, false, true, true, false, false, false, false] rfl rfl (by kernel_rfl) (fun _ _ _ h => h) (Or.inl ⟨by rfl, ?_⟩) ?_ ?_
          rotate_left
          · intro w'
            go_simp
            with_reducible rfl
          rotate_left
          · simp only [Act.put, List.setIfInBounds_toArray, List.set_cons_zero, List.set_cons_succ, i64_w, i32_w]
            rfl
          refine take_ (i := 6) (N := some 45) (v := ?_) (a' := ?_) #[true, true, true, true, true, true, true, true, true, false, false, false, false] rfl rfl (by kernel_rfl) (fun _ _ _ h => h) (Or.inl ⟨by rfl, ?_⟩) hHeld ?_ ?_
          rotate_left
          · intro w' s0
            go_simp
            with_reducible rfl
          rotate_left
          · simp only [Act.put, List.setIfInBounds_toArray, List.set_cons_zero, List.set_cons_succ, i64_w, i32_w]
            rfl
          refine one_ (i := 9) (N := some 48) #[true, true, true, true, true, true, true, true, true, true, false, false, false] rfl rfl (by kernel_rfl) (by decide) (fun K hK => ?_)
          refine Kd.R_make_step (Kd.int .u8) (w0 := wr.drew) (W := wr.drew) wr.drew.heap.size 5 (by rfl) rfl 32 (.tmp 47) (.tmp 47) rfl (win : Int) rfl rfl Tryd.underlying32 (.int .u8 0) 1 info5 rfl (by decide) (by omega) (0 : Int) (ok := fun _ => True) (okp := fun _ => False) rfl (fun _ h => h.elim) trivial (by omega) (by have := HX.out.2.1; omega) (Below.refl _ _) (Nat.le_refl _) ?_
          intro v2 w2 hR2 hb2 hg2 hat2
          clear hg2 hat2
          obtain ⟨A2, c2, rfl⟩ := Kd.R_slice hR2
          obtain ⟨_, _, hC2⟩ := Kd.R_reads' hR2
          rw [List.length_replicate, Int.toNat_natCast] at hC2
          have hlz : (List.replicate (win : Int).toNat (0 : Int)).length = win := by rw [List.length_replicate, Int.toNat_natCast]
          rw [hlz]
          have HT2 := HTd.out.below hb2
          have HK2 := Aside0.mk (blk_below HKd.out hb2)
          have HN2 := Aside0.mk (HNd.out.trans HT2.2)
          have hS : Calls Tryd.prog 16 #[.pointer (some ⟨p, 0, none⟩), .int .i64 i, .slice A2 win c2] w2 fun e w' => e = .returned (.int .i64 0) ∧ ∃ vs1, Two w.heap.size (fun k => k = g) p q vs1 (A.send i (List.replicate win 0)) p' q' vs' B w' ∧ Nx w.heap.size (fun k => k = g) w2 w' := by
            obtain ⟨SA, CB, SB, CA, hJ⟩ := HI.out.2
            have hs := two_Send (i : Int) A2 win c2 (List.replicate win 0) w2 HT2.1 hJ.duo.fa hC2 (fun c hc => by have := hJ.duo.bounds c hc; have := HX.out.2.1; omega)
            rw [hJ.sendE C1.out, if_pos rfl, Int.toNat_natCast] at hs
            exact hs
          have HSS := Aside0.mk hS
          have HJ2 : Aside0 (∃ SA CB SB CA, NoneJ win ch (i + 1) (A.send i (List.replicate win 0)) B SA CB SB CA) := ⟨by
            obtain ⟨SA, CB, SB, CA, hJ⟩ := HI.out.2
            obtain ⟨SA', h⟩ := hJ.put C1.out C2.out (List.replicate win 0) (byt_zeros win) (by rw [List.length_replicate])
            exact ⟨SA', CB, SB, CA, h⟩⟩
          clear hR2 hb2 hC2 hlz hS HT2
          refine hK.out _ _ ((blk_cell HK2.out 0)) (fun hHeld => ?_)
          clear hK K
          refine norm_ (a' := ?_) ?_ ?_
          rotate_left
          · show Act.put _ (some 48) _ = _
            simp only [Act.put, List.setIfInBounds_toArray, List.set_cons_zero, List.set_cons_succ, i64_w, i32_w]
            rfl
          refine one_ (i := 10) (N := some 49) #[true, true, true, true, true, true, true, true, true, true, true, false, false] rfl rfl (by kernel_rfl) (by decide) (fun K hK => ?_)
          refine goes_ Tryd.func16 (by kernel_rfl) rfl #[.pointer (some ⟨p, 0, none⟩), .int .i64 i, .slice A2 win c2] (by rfl) rfl rfl (by simp only [List.map_toArray, List.map_cons, List.map_nil]; rfl) ?_
          with_reducible refine (HSS.out).mono ?_
          rintro e w3 ⟨rfl, vs3, hT3, hN3⟩
          refine ⟨_, rfl, ?_⟩
          have HT3 := Aside0.mk hT3
          have HK3 := Aside0.mk ((hN3.kept g rfl).trans HK2.out)
          have HN3 := Aside0.mk (HN2.out.trans hN3)
          clear hT3 hN3
          refine hK.out _ _ ((blk_cell HK3.out 0)) (fun hHeld => ?_)
          clear hK K
          refine norm_ (a' := ?_) ?_ ?_
          rotate_left
          · show Act.put _ (some 49) _ = _
            simp only [Act.put, List.setIfInBounds_toArray, List.set_cons_zero, List.set_cons_succ, i64_w, i32_w]
            rfl
          refine pure_ (i := 11) (N := some 50) (v := ?_) (a' := ?_) #[true, true, true, true, true, true, true, true, true, true, true, true, false] rfl rfl (by kernel_rfl) (fun _ _ _ h => h) (Or.inl ⟨by rfl, ?_⟩) ?_ ?_
          rotate_left
          · intro w'
            go_simp
            with_reducible rfl
          rotate_left
          · simp only [Act.put, List.setIfInBounds_toArray, List.set_cons_zero, List.set_cons_succ, i64_w, i32_w]
            rfl
          refine pure_ (i := 12) (N := some 51) (v := ?_) (a' := ?_) #[true, true, true, true, true, true, true, true, true, true, true, true, true] rfl rfl (by kernel_rfl) (fun _ _ _ h => h) (Or.inl ⟨by rfl, ?_⟩) ?_ ?_
          rotate_left
          · intro w'
            go_simp
            with_reducible rfl
          rotate_left
          · simp only [Act.put, List.setIfInBounds_toArray, List.set_cons_zero, List.set_cons_succ, i64_w, i32_w]
            rfl
          refine done_ (by kernel_rfl) ?_
          go_wp2
          go_roundg (8 - (i + 1))
          case measure => have := C1.out; omega
          case rel => exact ⟨i + 1, _, B, _, vs', rfl, by first | rfl | rw [hadd], ⟨by have := C1.out; omega, HJ2.out⟩, HT3, HN3⟩
      · have k1 : decide ((i : Int) < 8) = false := decide_eq_false (by omega)
        have HE : Aside0 (∃ SA CB SB CA, NoneI win ch A B SA CB SB CA) := ⟨by
          obtain ⟨SA, CB, SB, CA, hJ⟩ := HI.out.2
          have : i = 8 := by omega
          subst this
          exact ⟨SA, CB, SB, CA, hJ.done HX.out.2.2.1⟩⟩
        clear hi c1
        go_wp2
        go_meet
        exact ⟨A, B, vs, vs', HE, HT, HN⟩
  obtain ⟨A1, B1, vs1, vs1', HI1, HT2, HN2⟩ := hcut
  go_upto_block 2 with (fail)
  go_cut [10, 55] (fun s10 s55 wx => ∃ A B vs vs', Aside0 (∃ SA CB SB CA, NoneI win ch A B SA CB SB CA) ∧ Aside0 (Two w.heap.size (fun k => k = g) p q vs A p' q' vs' B wx) ∧ Aside0 (Nx w.heap.size (fun k => k = g) w1 wx))
  case first =>
    clear HT1
    go_wp2_with fail
    go_loopg [10, 55] m (fun gg v10 v55 w' => ∃ (i : Nat) (A B : Mx) (vs vs' : Nat → Value), gg = m - i ∧ v55 = .int .i64 i ∧ Aside0 (i ≤ m ∧ ∃ SA CB SB CA, NoneI win ch A B SA CB SB CA) ∧ Aside0 (Two w.heap.size (fun k => k = g) p q vs A p' q' vs' B w') ∧ Aside0 (Nx w.heap.size (fun k => k = g) w1 w'))
    case atStart => exact ⟨0, _, _, _, _, rfl, rfl, ⟨by omega, HI1.out⟩, HT2, HN2⟩
    case round =>
      clear HI1 HT2 HN2
      obtain ⟨i, A, B, vs, vs', rfl, rfl, HI, HT, HN⟩ := hrel
      have hi := HI.out.1
      have hm20 := HX.out.2.2.2.1
      by_cases c1 : i < m
      · have k1 : decide ((i : Int) < (m : Int)) = true := decide_eq_true (by omega)
        have k1' : decide (i < m) = true := decide_eq_true c1
        have k1n : (i < m) = True := eq_true c1
        have k1i : ((i : Int) < (m : Int)) = True := eq_true (by omega)
        have k10 : (0 ≤ (i : Int)) = True := eq_true (by omega)
        have hadd : wrap64 ((i : Int) + 1) = ((i + 1 : Nat) : Int) := by unfold wrap64; omega
        have C1 := Aside0.mk c1
        have hB0 : Below w.heap.size w wr := HB1.out.trans HN.out.below
        obtain ⟨ad, Ab, cb, hD, hcell, hcc, hCb⟩ := at_L1 (Kd.C_below HC.out hB0) (i : Int) (by omega) (by omega)
        rw [Int.toNat_natCast] at hcell
        subst hD
        obtain ⟨b0, hb0⟩ : ∃ b0, rd_L1 l (i : Int) = b0 := ⟨_, rfl⟩
        rw [hb0] at hcell hcc hCb
        have hbb : Byt b0 := by
          rw [← hb0]
          unfold rd_L1
          rw [Int.toNat_natCast, List.getD_eq_getElem?_getD]
          have hlt : i < l.length := by rw [HX.out.2.2.2.2]; exact c1
          rw [List.getElem?_eq_getElem hlt, Option.getD_some]
          exact HBY.out _ (List.getElem_mem hlt)
        obtain ⟨mb, hmb⟩ : ∃ mb, b0.length = mb := ⟨_, rfl⟩
        rw [hmb] at hcell hcc
        obtain ⟨nb, hnb⟩ : ∃ nb, nb = min mb win := ⟨_, rfl⟩
        have hmin : (if (win : Int) < (mb : Int) then (win : Int) else (mb : Int)) = (nb : Int) := by split <;> omega
        have hmin2 : (if win < mb then (win : Int) else (mb : Int)) = (nb : Int) := by split <;> omega
        have hcutb := cut_upto Ab mb cb nb (by omega) hcc
        have hCn := C_upto nb hCb (by omega)
        obtain ⟨b, hbd⟩ : ∃ b, b0.take nb = b := ⟨_, rfl⟩
        rw [hbd] at hCn
        have hby : Byt b := by rw [← hbd]; exact hbb.take _
        have hbl : b.length = nb := hCn.1
        have HCN := Aside0.mk hCn
        have HBD := Aside0.mk (And.intro hby (And.intro hbl (show nb ≤ win by omega)))
        have HS : Aside0 (NoneS 1048576 win ch b A B) := ⟨by
          obtain ⟨SA, CB, SB, CA, hI⟩ := HI.out.2
          exact hI.step 1048576 (by decide) HX.out.2.2.1 HX.out.2.1 b hby (by omega)⟩
        have HK := Aside0.mk ((HN.out.kept g rfl).trans HK1.out.1)
        have hdr := below_drew (Below.refl wr.heap.size wr)
        have HTd := Aside0.mk (HT.out.below hdr).1
        have HNd := Aside0.mk (HN.out.trans (HT.out.below hdr).2)
        have HKd := Aside0.mk (blk_below HK.out hdr)
        have HCd := Aside0.mk (Kd.C_below hCn hdr)
        have HGd := Aside0.mk (HG.out.past (hB0.trans (hdr.mono hB0.size)) H0.out)
        have HBd := Aside0.mk (hB0.trans (hdr.mono hB0.size))
        have HCF0 : ∀ w', Below w.heap.size w w' → Kd.C (Kd.int .u8) w' Ab nb b := fun w' hb' => by
          obtain ⟨ad2, Ab2, cb2, hD2, hcell2, _, hCb2⟩ := at_L1 (Kd.C_below HC.out hb') (i : Int) (by omega) (by omega)
          cases hD2
          obtain ⟨ad0, Ab0, cb0, hD0, hcell0, hcc0, hCb0⟩ := at_L1 HC.out (i : Int) (by omega) (by omega)
          cases hD0
          rw [Int.toNat_natCast] at hcell0 hcell2
          have hlt := World.block_lt_of_cell? w _ hcell0
          have h2 := (hb'.cell hlt).trans hcell0
          have h1 := (hB0.cell hlt).trans hcell0
          rw [h2] at hcell2
          rw [hcell, ← hmb, ← hb0] at h1
          injection hcell2 with hcell2
          injection h1 with h1
          cases hcell2
          injection h1 with h1a h1b h1c
          rw [hb0] at hCb2
          rw [h1a, ← hbd]
          exact C_upto nb hCb2 (by omega)
        clear hi hm20 c1 hB0 hcc hCb hb0 hbb hmb hnb hCn hbd hby hbl hdr
        go_wp2
        have HCF : Aside0 (∀ w', Below w.heap.size w w' → Kd.C (Kd.int .u8) w' Ab nb b) := ⟨HCF0⟩
        clear HCF0
        refine start_ (n := 49) (S := fun w' => w'.cell? ⟨g, 0, none⟩ = some (.pointer (some ⟨p, 0, none⟩)) ∧ w'.cell? ⟨g, 1, none⟩ = some (.pointer (some ⟨p', 0, none⟩)) ∧ (convert 32 9 (.slice Ab nb cb)).run Tryd.prog w' = .ok (.string (strOfNums b)) w') (ds := []) #[false, false, false, false, false, false, false, false, false, false, false, false, false, false, false, false, false, false, false, false, false, false, false, false, false, false, false, false, false, false, false, false, false, false, false, false, false, false, false, false, false, false, false, false, false, false, false, false, false] (by kernel_rfl) rfl rfl ⟨(blk_cell HKd.out 0), (blk_cell HKd.out 1), (conv_C cb HCd.out)⟩ (fun hHeld => ?_)
        refine pure_ (i := 0) (N := some 65) (v := ?_) (a' := ?_) #[true, false, false, false, false, false, false, false, false, false, false, false, false, false, false, false, false, false, false, false, false, false, false, false, false, false, false, false, false, false, false, false, false, false, false, false, false, false, false, false, false, false, false, false, false, false, false, false, false] rfl rfl (by kernel_rfl) (fun _ _ _ h => h) (Or.inl ⟨by rfl, ?_⟩) ?_ ?_
        rotate_left
        · intro w'
          go_simp
          with_reducible rfl
        rotate_left
        · simp only [Act.put, List.setIfInBounds_toArray, List.set_cons_zero, List.set_cons_succ, i64_w, i32_w]
          rfl
        refine pure_ (i := 1) (N := some 66) (v := ?_) (a' := ?_) #[true, true, false, false, false, false, false, false, false, false, false, false, false, false, false, false, false, false, false, false, false, false, false, false, false, false, false, false, false, false, false, false, false, false, false, false, false, false, false, false, false, false, false, false, false, false, false, false, false] rfl rfl (by kernel_rfl) (fun _ _ _ h => h) (Or.inl ⟨by rfl, ?_⟩) ?_ ?_
        rotate_left
        · intro w'
          go_simp
          with_reducible rfl
        rotate_left
        · simp only [Act.put, List.setIfInBounds_toArray, List.set_cons_zero, List.set_cons_succ, i64_w, i32_w]
          rfl
        refine pure_ (i := 3) (N := some 68) (v := ?_) (a' := ?_) #[true, true, false, true, false, false, false, false, false, false, false, false, false, false, false, false, false, false, false, false, false, false, false, false, false, false, false, false, false, false, false, false, false, false, false, false, false, false, false, false, false, false, false, false, false, false, false, false, false] rfl rfl (by kernel_rfl) (fun _ _ _ h => h) (Or.inl ⟨by rfl, ?_⟩) ?_ ?_
        rotate_left
        · intro w'
          go_simp
          with_reducible rfl
        rotate_left
        · simp only [Act.put, List.setIfInBounds_toArray, List.set_cons_zero, List.set_cons_succ, i64_w, i32_w]
          rfl
        refine pure_ (i := 4) (N := some 69) (v := ?_) (a' := ?_) #[true, true, false, true, true, false, false, false, false, false, false, false, false, false, false, false, false, false, false, false, false, false, false, false, false, false, false, false, false, false, false, false, false, false, false, false, false, false, false, false, false, false, false, false, false, false, false, false, false] rfl rfl (by kernel_rfl) (fun _ _ _ h => h) (Or.inl ⟨by rfl, ?_⟩) ?_ ?_
        rotate_left
        · intro w'
          go_simp
          with_reducible rfl
        rotate_left
        · simp only [Act.put, List.setIfInBounds_toArray, List.set_cons_zero, List.set_cons_succ, i64_w, i32_w]
          rfl
        refine take_ (i := 2) (N := some 67) (v := ?_) (a' := ?_) #[true, true, true, true, true, false, false, false, false, false, false, false, false, false, false, false, false, false, false, false, false, false, false, false, false, false, false, false, false, false, false, false, false, false, false, false, false, false, false, false, false, false, false, false, false, false, false, false, false] rfl rfl (by kernel_rfl) (fun _ _ _ h => h) (Or.inl ⟨by rfl, ?_⟩) hHeld ?_ ?_
        rotate_left
        · rintro w' ⟨s0, s1, s2⟩
          go_simp
          with_reducible rfl
        rotate_left
        · simp only [Act.put, List.setIfInBounds_toArray, List.set_cons_zero, List.set_cons_succ, i64_w, i32_w]
          rfl
        refine one_ (i := 5) (N := some 70) #[true, true, true, true, true, true, false, false, false, false, false, false, false, false, false, false, false, false, false, false, false, false, false, false, false, false, false, false, false, false, false, false, false, false, false, false, false, false, false, false, false, false, false, false, false, false, false, false, false] rfl rfl (by kernel_rfl) (by decide) (fun K hK => ?_)
        have hs := two_Send (ch : Int) Ab nb cb b wr.drew HTd.out HS.out.fit0 HCd.out (fun c hc => by have := HS.out.len0 c hc; rw [HBD.out.2.1] at this; exact this)
        have he0 := HS.out.e0
        rw [HBD.out.2.1] at he0
        rw [he0, if_pos rfl, Int.toNat_natCast] at hs
        have HSS := Aside0.mk hs
        clear hs he0
        refine goes_ Tryd.func16 (by kernel_rfl) rfl #[.pointer (some ⟨p, 0, none⟩), .int .i64 ch, .slice Ab nb cb] (by rfl) rfl rfl (by simp only [List.map_toArray, List.map_cons, List.map_nil]; rfl) ?_
        with_reducible refine (HSS.out).mono ?_
        rintro e w3 ⟨rfl, vs3, hT3, hN3⟩
        refine ⟨_, rfl, ?_⟩
        have HK3 := Aside0.mk ((hN3.kept g rfl).trans HKd.out)
        have HB3 := Aside0.mk (HBd.out.trans hN3.below)
        have HN3 := Aside0.mk (HNd.out.trans hN3)
        have HC3 := Aside0.mk (HCF.out w3 HB3.out)
        have HT3 := Aside0.mk hT3
        clear hT3 hN3
        clear HSS
        refine hK.out _ _ ⟨(blk_cell HK3.out 0), (blk_cell HK3.out 1), (conv_C cb HC3.out)⟩ (fun hHeld => ?_)
        clear hK K
        refine norm_ (a' := ?_) ?_ ?_
        rotate_left
        · show Act.put _ (some 70) _ = _
          simp only [Act.put, List.setIfInBounds_toArray, List.set_cons_zero, List.set_cons_succ, i64_w, i32_w]
          rfl
        refine pure_ (i := 6) (N := some 71) (v := ?_) (a' := ?_) #[true, true, true, true, true, true, true, false, false, false, false, false, false, false, false, false, false, false, false, false, false, false, false, false, false, false, false, false, false, false, false, false, false, false, false, false, false, false, false, false, false, false, false, false, false, false, false, false, false] rfl rfl (by kernel_rfl) (fun _ _ _ h => h) (Or.inl ⟨by rfl, ?_⟩) ?_ ?_
        rotate_left
        · intro w'
          go_simp
          with_reducible rfl
        rotate_left
        · simp only [Act.put, List.setIfInBounds_toArray, List.set_cons_zero, List.set_cons_succ, i64_w, i32_w]
          rfl
        refine pure_ (i := 7) (N := some 72) (v := ?_) (a' := ?_) #[true, true, true, true, true, true, true, true, false, false, false, false, false, false, false, false, false, false, false, false, false, false, false, false, false, false, false, false, false, false, false, false, false, false, false, false, false, false, false, false, false, false, false, false, false, false, false, false, false] rfl rfl (by kernel_rfl) (fun _ _ _ h => h) (Or.inl ⟨by rfl, ?_⟩) ?_ ?_
        rotate_left
        · intro w'
          go_simp
          with_reducible rfl
        rotate_left
        · simp only [Act.put, List.setIfInBounds_toArray, List.set_cons_zero, List.set_cons_succ, i64_w, i32_w]
          rfl
        refine pure_ (i := 8) (N := some 73) (v := ?_) (a' := ?_) #[true, true, true, true, true, true, true, true, true, false, false, false, false, false, false, false, false, false, false, false, false, false, false, false, false, false, false, false, false, false, false, false, false, false, false, false, false, false, false, false, false, false, false, false, false, false, false, false, false] rfl rfl (by kernel_rfl) (fun _ _ _ h => h) (Or.inl ⟨by rfl, ?_⟩) ?_ ?_
        rotate_left
        · intro w'
          go_simp
          with_reducible rfl
        rotate_left
        · simp only [Act.put, List.setIfInBounds_toArray, List.set_cons_zero, List.set_cons_succ, i64_w, i32_w]
          rfl
        refine pure_ (i := 9) (N := some 74) (v := ?_) (a' := ?_) #[true, true, true, true, true, true, true, true, true, true, false, false, false, false, false, false, false, false, false, false, false, false, false, false, false, false, false, false, false, false, false, false, false, false, false, false, false, false, false, false, false, false, false, false, false, false, false, false, false] rfl rfl (by kernel_rfl) (fun _ _ _ h => h) (Or.inl ⟨by rfl, ?_⟩) ?_ ?_
        rotate_left
        · intro w'
          go_simp
          with_reducible rfl
        rotate_left
        · simp only [Act.put, List.setIfInBounds_toArray, List.set_cons_zero, List.set_cons_succ, i64_w, i32_w]
          rfl
        refine pure_ (i := 11) (N := some 76) (v := ?_) (a' := ?_) #[true, true, true, true, true, true, true, true, true, true, false, true, false, false, false, false, false, false, false, false, false, false, false, false, false, false, false, false, false, false, false, false, false, false, false, false, false, false, false, false, false, false, false, false, false, false, false, false, false] rfl rfl (by kernel_rfl) (fun _ _ _ h => h) (Or.inl ⟨by rfl, ?_⟩) ?_ ?_
        rotate_left
        · intro w'
          go_simp
          with_reducible rfl
        rotate_left
        · simp only [Act.put, List.setIfInBounds_toArray, List.set_cons_zero, List.set_cons_succ, i64_w, i32_w]
          rfl
        refine pure_ (i := 12) (N := some 77) (v := ?_) (a' := ?_) #[true, true, true, true, true, true, true, true, true, true, false, true, true, false, false, false, false, false, false, false, false, false, false, false, false, false, false, false, false, false, false, false, false, false, false, false, false, false, false, false, false, false, false, false, false, false, false, false, false] rfl rfl (by kernel_rfl) (fun _ _ _ h => h) (Or.inl ⟨by rfl, ?_⟩) ?_ ?_
        rotate_left
        · intro w'
          go_simp
          with_reducible rfl
        rotate_left
        · simp only [Act.put, List.setIfInBounds_toArray, List.set_cons_zero, List.set_cons_succ, i64_w, i32_w]
          rfl
        refine take_ (i := 10) (N := some 75) (v := ?_) (a' := ?_) #[true, true, true, true, true, true, true, true, true, true, true, true, true, false, false, false, false, false, false, false, false, false, false, false, false, false, false, false, false, false, false, false, false, false, false, false, false, false, false, false, false, false, false, false, false, false, false, false, false] rfl rfl (by kernel_rfl) (fun _ _ _ h => h) (Or.inl ⟨by rfl, ?_⟩) hHeld ?_ ?_
        rotate_left
        · rintro w' ⟨s0, s1, s2⟩
          go_simp
          with_reducible rfl
        rotate_left
        · simp only [Act.put, List.setIfInBounds_toArray, List.set_cons_zero, List.set_cons_succ, i64_w, i32_w]
          rfl
        refine take_ (i := 13) (N := some 78) (v := ?_) (a' := ?_) #[true, true, true, true, true, true, true, true, true, true, true, true, true, true, false, false, false, false, false, false, false, false, false, false, false, false, false, false, false, false, false, false, false, false, false, false, false, false, false, false, false, false, false, false, false, false, false, false, false] rfl rfl (by kernel_rfl) (fun _ _ _ h => h) (Or.inl ⟨by rfl, ?_⟩) hHeld ?_ ?_
        rotate_left
        · rintro w' ⟨s0, s1, s2⟩
          go_simp
          with_reducible rfl
        rotate_left
        · simp only [Act.put, List.setIfInBounds_toArray, List.set_cons_zero, List.set_cons_succ, i64_w, i32_w]
          rfl
        refine one_ (i := 14) (N := some 79) #[true, true, true, true, true, true, true, true, true, true, true, true, true, true, true, false, false, false, false, false, false, false, false, false, false, false, false, false, false, false, false, false, false, false, false, false, false, false, false, false, false, false, false, false, false, false, false, false, false] rfl rfl (by kernel_rfl) (by decide) (fun K hK => ?_)
        have HO := Aside0.mk (two_Out 1048576 w3 HT3.out (HG.out.past HB3.out H0.out) H0.out HS.out.good1 HS.out.ea1 (by decide))
        refine goes_ Tryd.func14 (by kernel_rfl) rfl #[.pointer (some ⟨p, 0, none⟩), .int .i64 1048576] (by rfl) rfl rfl (by simp only [List.map_toArray, List.map_cons, List.map_nil]; rfl) ?_
        with_reducible refine (HO.out).mono ?_
        rintro e w4 ⟨v, vs4, rfl, hR, hT4, hN4⟩
        refine ⟨_, rfl, ?_⟩
        obtain ⟨Ao, co, rfl⟩ := Kd.R_slice hR
        obtain ⟨_, _, hCo⟩ := Kd.R_reads' hR
        have HCo := Aside0.mk hCo
        obtain ⟨no, hno⟩ : ∃ no, ((A.send ch b).outB 1048576).length = no := ⟨_, rfl⟩
        rw [hno] at HCo ⊢
        have HNO := Aside0.mk hno
        have HK4 := Aside0.mk ((hN4.kept g rfl).trans HK3.out)
        have HB4 := Aside0.mk (HB3.out.trans hN4.below)
        have HN4 := Aside0.mk (HN3.out.trans hN4)
        have HC4 := Aside0.mk (HCF.out w4 HB4.out)
        have HT4 := Aside0.mk hT4
        clear hT4 hN4
        clear hR hCo hno HO
        refine hK.out _ _ ⟨(blk_cell HK4.out 0), (blk_cell HK4.out 1), (conv_C cb HC4.out)⟩ (fun hHeld => ?_)
        clear hK K
        refine norm_ (a' := ?_) ?_ ?_
        rotate_left
        · show Act.put _ (some 79) _ = _
          simp only [Act.put, List.setIfInBounds_toArray, List.set_cons_zero, List.set_cons_succ, i64_w, i32_w]
          rfl
        refine one_ (i := 15) (N := some 80) #[true, true, true, true, true, true, true, true, true, true, true, true, true, true, true, true, false, false, false, false, false, false, false, false, false, false, false, false, false, false, false, false, false, false, false, false, false, false, false, false, false, false, false, false, false, false, false, false, false] rfl rfl (by kernel_rfl) (by decide) (fun K hK => ?_)
        have htk := two_Take Ao no co _ w4 HT4.out.swap (HG.out.past HB4.out H0.out) H0.out HCo.out HS.out.byt1 HS.out.eB HS.out.fitB (by have h1 := HS.out.len1; have h2 := HS.out.lenB; rw [HNO.out] at h1; omega)
        rw [HS.out.eB1] at htk
        have HTk := Aside0.mk htk
        clear htk
        refine goes_ Tryd.func17 (by kernel_rfl) rfl #[.pointer (some ⟨p', 0, none⟩), .slice Ao no co] (by rfl) rfl rfl (by simp only [List.map_toArray, List.map_cons, List.map_nil]; rfl) ?_
        with_reducible refine (HTk.out).mono ?_
        rintro e w5 ⟨rfl, vs5, hT5, hN5⟩
        refine ⟨_, rfl, ?_⟩
        have HK5 := Aside0.mk ((hN5.kept g rfl).trans HK4.out)
        have HB5 := Aside0.mk (HB4.out.trans hN5.below)
        have HN5 := Aside0.mk (HN4.out.trans hN5)
        have HC5 := Aside0.mk (HCF.out w5 HB5.out)
        have HT5 := Aside0.mk hT5
        clear hT5 hN5
        clear HTk HCo
        refine hK.out _ _ ⟨(blk_cell HK5.out 0), (blk_cell HK5.out 1), (conv_C cb HC5.out)⟩ (fun hHeld => ?_)
        clear hK K
        refine norm_ (a' := ?_) ?_ ?_
        rotate_left
        · show Act.put _ (some 80) _ = _
          simp only [Act.put, List.setIfInBounds_toArray, List.set_cons_zero, List.set_cons_succ, i64_w, i32_w]
          rfl
        refine pure_ (i := 16) (N := some 81) (v := ?_) (a' := ?_) #[true, true, true, true, true, true, true, true, true, true, true, true, true, true, true, true, true, false, false, false, false, false, false, false, false, false, false, false, false, false, false, false, false, false, false, false, false, false, false, false, false, false, false, false, false, false, false, false, false] rfl rfl (by kernel_rfl) (fun _ _ _ h => h) (Or.inl ⟨by rfl, ?_⟩) ?_ ?_
        rotate_left
        · intro w'
          go_simp
          with_reducible rfl
        rotate_left
        · simp only [Act.put, List.setIfInBounds_toArray, List.set_cons_zero, List.set_cons_succ, i64_w, i32_w]
          rfl
        refine pure_ (i := 17) (N := some 82) (v := ?_) (a' := ?_) #[true, true, true, true, true, true, true, true, true, true, true, true, true, true, true, true, true, true, false, false, false, false, false, false, false, false, false, false, false, false, false, false, false, false, false, false, false, false, false, false, false, false, false, false, false, false, false, false, false] rfl rfl (by kernel_rfl) (fun _ _ _ h => h) (Or.inl ⟨by rfl, ?_⟩) ?_ ?_
        rotate_left
        · intro w'
          go_simp
          with_reducible rfl
        rotate_left
        · simp only [Act.put, List.setIfInBounds_toArray, List.set_cons_zero, List.set_cons_succ, i64_w, i32_w]
          rfl
        refine pure_ (i := 18) (N := some 83) (v := ?_) (a' := ?_) #[true, true, true, true, true, true, true, true, true, true, true, true, true, true, true, true, true, true, true, false, false, false, false, false, false, false, false, false, false, false, false, false, false, false, false, false, false, false, false, false, false, false, false, false, false, false, false, false, false] rfl rfl (by kernel_rfl) (fun _ _ _ h => h) (Or.inl ⟨by rfl, ?_⟩) ?_ ?_
        rotate_left
        · intro w'
          go_simp
          with_reducible rfl
        rotate_left
        · simp only [Act.put, List.setIfInBounds_toArray, List.set_cons_zero, List.set_cons_succ, i64_w, i32_w]
          rfl
        refine pure_ (i := 19) (N := some 84) (v := ?_) (a' := ?_) #[true, true, true, true, true, true, true, true, true, true, true, true, true, true, true, true, true, true, true, true, false, false, false, false, false, false, false, false, false, false, false, false, false, false, false, false, false, false, false, false, false, false, false, false, false, false, false, false, false] rfl rfl (by kernel_rfl) (fun _ _ _ h => h) (Or.inl ⟨by rfl, ?_⟩) ?_ ?_
        rotate_left
        · intro w'
          go_simp
          with_reducible rfl
        rotate_left
        · simp only [Act.put, List.setIfInBounds_toArray, List.set_cons_zero, List.set_cons_succ, i64_w, i32_w]
          rfl
        refine pure_ (i := 20) (N := some 85) (v := ?_) (a' := ?_) #[true, true, true, true, true, true, true, true, true, true, true, true, true, true, true, true, true, true, true, true, true, false, false, false, false, false, false, false, false, false, false, false, false, false, false, false, false, false, false, false, false, false, false, false, false, false, false, false, false] rfl rfl (by kernel_rfl) (fun _ _ _ h => h) (Or.inl ⟨by rfl, ?_⟩) ?_ ?_
        rotate_left
        · intro w'
          go_simp
          with_reducible rfl
        rotate_left
        · simp only [Act.put, List.setIfInBounds_toArray, List.set_cons_zero, List.set_cons_succ, i64_w, i32_w]
          rfl
        refine pure_ (i := 22) (N := some 87) (v := ?_) (a' := ?_) #[true, true, true, true, true, true, true, true, true, true, true, true, true, true, true, true, true, true, true, true, true, false, true, false, false, false, false, false, false, false, false, false, false, false, false, false, false, false, false, false, false, false, false, false, false, false, false, false, false] rfl rfl (by kernel_rfl) (fun _ _ _ h => h) (Or.inl ⟨by rfl, ?_⟩) ?_ ?_
        rotate_left
        · intro w'
          go_simp
          with_reducible rfl
        rotate_left
        · simp only [Act.put, List.setIfInBounds_toArray, List.set_cons_zero, List.set_cons_succ, i64_w, i32_w]
          rfl
        refine pure_ (i := 25) (N := some 90) (v := ?_) (a' := ?_) #[true, true, true, true, true, true, true, true, true, true, true, true, true, true, true, true, true, true, true, true, true, false, true, false, false, true, false, false, false, false, false, false, false, false, false, false, false, false, false, false, false, false, false, false, false, false, false, false, false] rfl rfl (by kernel_rfl) (fun _ _ _ h => h) (Or.inl ⟨by rfl, ?_⟩) ?_ ?_
        rotate_left
        · intro w'
          go_simp
          with_reducible rfl
        rotate_left
        · simp only [Act.put, List.setIfInBounds_toArray, List.set_cons_zero, List.set_cons_succ, i64_w, i32_w]
          rfl
        refine take_ (i := 21) (N := some 86) (v := ?_) (a' := ?_) #[true, true, true, true, true, true, true, true, true, true, true, true, true, true, true, true, true, true, true, true, true, true, true, false, false, true, false, false, false, false, false, false, false, false, false, false, false, false, false, false, false, false, false, false, false, false, false, false, false] rfl rfl (by kernel_rfl) (fun _ _ _ h => h) (Or.inl ⟨by rfl, ?_⟩) hHeld ?_ ?_
        rotate_left
        · rintro w' ⟨s0, s1, s2⟩
          go_simp
          with_reducible rfl
        rotate_left
        · simp only [Act.put, List.setIfInBounds_toArray, List.set_cons_zero, List.set_cons_succ, i64_w, i32_w]
          rfl
        refine take_ (i := 26) (N := some 91) (v := ?_) (a' := ?_) #[true, true, true, true, true, true, true, true, true, true, true, true, true, true, true, true, true, true, true, true, true, true, true, false, false, true, true, false, false, false, false, false, false, false, false, false, false, false, false, false, false, false, false, false, false, false, false, false, false] rfl rfl (by kernel_rfl) (fun _ _ _ h => h) (Or.inl ⟨by rfl, ?_⟩) hHeld ?_ ?_
        rotate_left
        · rintro w' ⟨s0, s1, s2⟩
          go_simp
          with_reducible rfl
        rotate_left
        · simp only [Act.put, List.setIfInBounds_toArray, List.set_cons_zero, List.set_cons_succ, i64_w, i32_w]
          rfl
        refine one_ (i := 23) (N := some 88) #[true, true, true, true, true, true, true, true, true, true, true, true, true, true, true, true, true, true, true, true, true, true, true, true, false, true, true, false, false, false, false, false, false, false, false, false, false, false, false, false, false, false, false, false, false, false, false, false, false] rfl rfl (by kernel_rfl) (by decide) (fun K hK => ?_)
        have HRc := Aside0.mk (two_Recv ch HX.out.2.2.1 w5 HT5.out)
        refine goes_ Tryd.func18 (by kernel_rfl) rfl #[.pointer (some ⟨p', 0, none⟩), .int .i64 ch] (by rfl) rfl rfl (by simp only [List.map_toArray, List.map_cons, List.map_nil]; rfl) ?_
        with_reducible refine (HRc.out).mono ?_
        rintro e w6 ⟨v, vs6, rfl, hTb, hT6, hN6⟩
        refine ⟨_, rfl, ?_⟩
        rw [HS.out.held] at hTb
        obtain ⟨Ar, cr, rfl, hCr⟩ := conv_Tb hTb
        have hcv := conv_C cr hCr
        obtain ⟨nr, hnr⟩ : ∃ nr, b.length = nr := ⟨_, rfl⟩
        rw [hnr] at hcv ⊢
        have HK6 := Aside0.mk ((hN6.kept g rfl).trans HK5.out)
        have HB6 := Aside0.mk (HB5.out.trans hN6.below)
        have HN6 := Aside0.mk (HN5.out.trans hN6)
        have HC6 := Aside0.mk (HCF.out w6 HB6.out)
        have HT6 := Aside0.mk hT6
        clear hT6 hN6
        clear hTb hCr hnr HRc
        refine hK.out _ _ ⟨(blk_cell HK6.out 0), (blk_cell HK6.out 1), (conv_C cb HC6.out)⟩ (fun hHeld => ?_)
        clear hK K
        refine norm_ (a' := ?_) ?_ ?_
        rotate_left
        · show Act.put _ (some 88) _ = _
          simp only [Act.put, List.setIfInBounds_toArray, List.set_cons_zero, List.set_cons_succ, i64_w, i32_w]
          rfl
        refine one_ (i := 24) (N := some 89) #[true, true, true, true, true, true, true, true, true, true, true, true, true, true, true, true, true, true, true, true, true, true, true, true, true, true, true, false, false, false, false, false, false, false, false, false, false, false, false, false, false, false, false, false, false, false, false, false, false] rfl rfl (by kernel_rfl) (by decide) (fun K hK => ?_)
        refine value_ (w1 := ?_) (v := ?_) (by rfl) rfl ?_ ?_
        rotate_left 2
        · go_simp
          constructor
          · rfl
          · rfl
        clear hcv
        refine hK.out _ _ ⟨(blk_cell HK6.out 0), (blk_cell HK6.out 1), (conv_C cb HC6.out)⟩ (fun hHeld => ?_)
        clear hK K
        refine norm_ (a' := ?_) ?_ ?_
        rotate_left
        · show Act.put _ (some 89) _ = _
          simp only [Act.put, List.setIfInBounds_toArray, List.set_cons_zero, List.set_cons_succ, i64_w, i32_w]
          rfl
        refine pure_ (i := 27) (N := some 92) (v := ?_) (a' := ?_) #[true, true, true, true, true, true, true, true, true, true, true, true, true, true, true, true, true, true, true, true, true, true, true, true, true, true, true, true, false, false, false, false, false, false, false, false, false, false, false, false, false, false, false, false, false, false, false, false, false] rfl rfl (by kernel_rfl) (fun _ _ _ h => h) (Or.inl ⟨by rfl, ?_⟩) ?_ ?_
        rotate_left
        · intro w'
          go_simp
          with_reducible rfl
        rotate_left
        · simp only [Act.put, List.setIfInBounds_toArray, List.set_cons_zero, List.set_cons_succ, i64_w, i32_w]
          rfl
        refine pure_ (i := 28) (N := some 93) (v := ?_) (a' := ?_) #[true, true, true, true, true, true, true, true, true, true, true, true, true, true, true, true, true, true, true, true, true, true, true, true, true, true, true, true, true, false, false, false, false, false, false, false, false, false, false, false, false, false, false, false, false, false, false, false, false] rfl rfl (by kernel_rfl) (fun _ _ _ h => h) (Or.inl ⟨by rfl, ?_⟩) ?_ ?_
        rotate_left
        · intro w'
          go_simp
          with_reducible rfl
        rotate_left
        · simp only [Act.put, List.setIfInBounds_toArray, List.set_cons_zero, List.set_cons_succ, i64_w, i32_w]
          rfl
        refine pure_ (i := 29) (N := some 94) (v := ?_) (a' := ?_) #[true, true, true, true, true, true, true, true, true, true, true, true, true, true, true, true, true, true, true, true, true, true, true, true, true, true, true, true, true, true, false, false, false, false, false, false, false, false, false, false, false, false, false, false, false, false, false, false, false] rfl rfl (by kernel_rfl) (fun _ _ _ h => h) (Or.inl ⟨by rfl, ?_⟩) ?_ ?_
        rotate_left
        · intro w'
          go_simp
          with_reducible rfl
        rotate_left
        · simp only [Act.put, List.setIfInBounds_toArray, List.set_cons_zero, List.set_cons_succ, i64_w, i32_w]
          rfl
        refine pure_ (i := 30) (N := some 95) (v := ?_) (a' := ?_) #[true, true, true, true, true, true, true, true, true, true, true, true, true, true, true, true, true, true, true, true, true, true, true, true, true, true, true, true, true, true, true, false, false, false, false, false, false, false, false, false, false, false, false, false, false, false, false, false, false] rfl rfl (by kernel_rfl) (fun _ _ _ h => h) (Or.inl ⟨by rfl, ?_⟩) ?_ ?_
        rotate_left
        · intro w'
          go_simp
          with_reducible rfl
        rotate_left
        · simp only [Act.put, List.setIfInBounds_toArray, List.set_cons_zero, List.set_cons_succ, i64_w, i32_w]
          rfl
        refine pure_ (i := 31) (N := some 96) (v := ?_) (a' := ?_) #[true, true, true, true, true, true, true, true, true, true, true, true, true, true, true, true, true, true, true, true, true, true, true, true, true, true, true, true, true, true, true, true, false, false, false, false, false, false, false, false, false, false, false, false, false, false, false, false, false] rfl rfl (by kernel_rfl) (fun _ _ _ h => h) (Or.inl ⟨by rfl, ?_⟩) ?_ ?_
        rotate_left
        · intro w'
          go_simp
          with_reducible rfl
        rotate_left
        · simp only [Act.put, List.setIfInBounds_toArray, List.set_cons_zero, List.set_cons_succ, i64_w, i32_w]
          rfl
        refine pure_ (i := 33) (N := some 98) (v := ?_) (a' := ?_) #[true, true, true, true, true, true, true, true, true, true, true, true, true, true, true, true, true, true, true, true, true, true, true, true, true, true, true, true, true, true, true, true, false, true, false, false, false, false, false, false, false, false, false, false, false, false, false, false, false] rfl rfl (by kernel_rfl) (fun _ _ _ h => h) (Or.inl ⟨by rfl, ?_⟩) ?_ ?_
        rotate_left
        · intro w'
          go_simp
          with_reducible rfl
        rotate_left
        · simp only [Act.put, List.setIfInBounds_toArray, List.set_cons_zero, List.set_cons_succ, i64_w, i32_w]
          rfl
        refine pure_ (i := 34) (N := some 99) (v := ?_) (a' := ?_) #[true, true, true, true, true, true, true, true, true, true, true, true, true, true, true, true, true, true, true, true, true, true, true, true, true, true, true, true, true, true, true, true, false, true, true, false, false, false, false, false, false, false, false, false, false, false, false, false, false] rfl rfl (by kernel_rfl) (fun _ _ _ h => h) (Or.inl ⟨by rfl, ?_⟩) ?_ ?_
        rotate_left
        · intro w'
          go_simp
          with_reducible rfl
        rotate_left
        · simp only [Act.put, List.setIfInBounds_toArray, List.set_cons_zero, List.set_cons_succ, i64_w, i32_w]
          rfl
        refine take_ (i := 32) (N := some 97) (v := ?_) (a' := ?_) #[true, true, true, true, true, true, true, true, true, true, true, true, true, true, true, true, true, true, true, true, true, true, true, true, true, true, true, true, true, true, true, true, true, true, true, false, false, false, false, false, false, false, false, false, false, false, false, false, false] rfl rfl (by kernel_rfl) (fun _ _ _ h => h) (Or.inl ⟨by rfl, ?_⟩) hHeld ?_ ?_
        rotate_left
        · rintro w' ⟨s0, s1, s2⟩
          go_simp
          with_reducible rfl
        rotate_left
        · simp only [Act.put, List.setIfInBounds_toArray, List.set_cons_zero, List.set_cons_succ, i64_w, i32_w]
          rfl
        refine take_ (i := 35) (N := some 100) (v := ?_) (a' := ?_) #[true, true, true, true, true, true, true, true, true, true, true, true, true, true, true, true, true, true, true, true, true, true, true, true, true, true, true, true, true, true, true, true, true, true, true, true, false, false, false, false, false, false, false, false, false, false, false, false, false] rfl rfl (by kernel_rfl) (fun _ _ _ h => h) (Or.inl ⟨by rfl, ?_⟩) hHeld ?_ ?_
        rotate_left
        · rintro w' ⟨s0, s1, s2⟩
          go_simp
          with_reducible rfl
        rotate_left
        · simp only [Act.put, List.setIfInBounds_toArray, List.set_cons_zero, List.set_cons_succ, i64_w, i32_w]
          rfl
        refine one_ (i := 36) (N := some 101) #[true, true, true, true, true, true, true, true, true, true, true, true, true, true, true, true, true, true, true, true, true, true, true, true, true, true, true, true, true, true, true, true, true, true, true, true, true, false, false, false, false, false, false, false, false, false, false, false, false] rfl rfl (by kernel_rfl) (by decide) (fun K hK => ?_)
        have HO2 := Aside0.mk (two_Out 1048576 w6 HT6.out (HG.out.past HB6.out H0.out) H0.out HS.out.good2 HS.out.eB2 (by decide))
        refine goes_ Tryd.func14 (by kernel_rfl) rfl #[.pointer (some ⟨p', 0, none⟩), .int .i64 1048576] (by rfl) rfl rfl (by simp only [List.map_toArray, List.map_cons, List.map_nil]; rfl) ?_
        with_reducible refine (HO2.out).mono ?_
        rintro e w7 ⟨v, vs7, rfl, hR, hT7, hN7⟩
        refine ⟨_, rfl, ?_⟩
        obtain ⟨Ao2, co2, rfl⟩ := Kd.R_slice hR
        obtain ⟨_, _, hCo⟩ := Kd.R_reads' hR
        have HCo2 := Aside0.mk hCo
        obtain ⟨no2, hno⟩ : ∃ no2, (((B.took ((A.send ch b).outB 1048576)).recv ch).outB 1048576).length = no2 := ⟨_, rfl⟩
        rw [hno] at HCo2 ⊢
        have HNO2 := Aside0.mk hno
        have HK7 := Aside0.mk ((hN7.kept g rfl).trans HK6.out)
        have HB7 := Aside0.mk (HB6.out.trans hN7.below)
        have HN7 := Aside0.mk (HN6.out.trans hN7)
        have HC7 := Aside0.mk (HCF.out w7 HB7.out)
        have HT7 := Aside0.mk hT7.swap
        clear hT7 hN7
        clear hR hCo hno HO2
        refine hK.out _ _ ⟨(blk_cell HK7.out 0), (blk_cell HK7.out 1), (conv_C cb HC7.out)⟩ (fun hHeld => ?_)
        clear hK K
        refine norm_ (a' := ?_) ?_ ?_
        rotate_left
        · show Act.put _ (some 101) _ = _
          simp only [Act.put, List.setIfInBounds_toArray, List.set_cons_zero, List.set_cons_succ, i64_w, i32_w]
          rfl
        refine one_ (i := 37) (N := some 102) #[true, true, true, true, true, true, true, true, true, true, true, true, true, true, true, true, true, true, true, true, true, true, true, true, true, true, true, true, true, true, true, true, true, true, true, true, true, true, false, false, false, false, false, false, false, false, false, false, false] rfl rfl (by kernel_rfl) (by decide) (fun K hK => ?_)
        have htk := two_Take Ao2 no2 co2 _ w7 HT7.out (HG.out.past HB7.out H0.out) H0.out HCo2.out HS.out.byt2 HS.out.ea2 HS.out.fit2 (by have h1 := HS.out.len2; have h2 := HS.out.lenA; rw [HNO2.out] at h1; omega)
        rw [HS.out.ea3] at htk
        have HTk2 := Aside0.mk htk
        clear htk
        refine goes_ Tryd.func17 (by kernel_rfl) rfl #[.pointer (some ⟨p, 0, none⟩), .slice Ao2 no2 co2] (by rfl) rfl rfl (by simp only [List.map_toArray, List.map_cons, List.map_nil]; rfl) ?_
        with_reducible refine (HTk2.out).mono ?_
        rintro e w75 ⟨rfl, vs75, hT75, hN75⟩
        refine ⟨_, rfl, ?_⟩
        have HK75 := Aside0.mk ((hN75.kept g rfl).trans HK7.out)
        have HB75 := Aside0.mk (HB7.out.trans hN75.below)
        have HN75 := Aside0.mk (HN7.out.trans hN75)
        have HC75 := Aside0.mk (HCF.out w75 HB75.out)
        have HT75 := Aside0.mk hT75
        clear hT75 hN75
        clear HTk2 HCo2
        refine hK.out _ _ ⟨(blk_cell HK75.out 0), (blk_cell HK75.out 1), (conv_C cb HC75.out)⟩ (fun hHeld => ?_)
        clear hK K
        refine norm_ (a' := ?_) ?_ ?_
        rotate_left
        · show Act.put _ (some 102) _ = _
          simp only [Act.put, List.setIfInBounds_toArray, List.set_cons_zero, List.set_cons_succ, i64_w, i32_w]
          rfl
        refine pure_ (i := 38) (N := some 103) (v := ?_) (a' := ?_) #[true, true, true, true, true, true, true, true, true, true, true, true, true, true, true, true, true, true, true, true, true, true, true, true, true, true, true, true, true, true, true, true, true, true, true, true, true, true, true, false, false, false, false, false, false, false, false, false, false] rfl rfl (by kernel_rfl) (fun _ _ _ h => h) (Or.inl ⟨by rfl, ?_⟩) ?_ ?_
        rotate_left
        · intro w'
          go_simp
          with_reducible rfl
        rotate_left
        · simp only [Act.put, List.setIfInBounds_toArray, List.set_cons_zero, List.set_cons_succ, i64_w, i32_w]
          rfl
        refine pure_ (i := 39) (N := some 104) (v := ?_) (a' := ?_) #[true, true, true, true, true, true, true, true, true, true, true, true, true, true, true, true, true, true, true, true, true, true, true, true, true, true, true, true, true, true, true, true, true, true, true, true, true, true, true, true, false, false, false, false, false, false, false, false, false] rfl rfl (by kernel_rfl) (fun _ _ _ h => h) (Or.inl ⟨by rfl, ?_⟩) ?_ ?_
        rotate_left
        · intro w'
          go_simp
          with_reducible rfl
        rotate_left
        · simp only [Act.put, List.setIfInBounds_toArray, List.set_cons_zero, List.set_cons_succ, i64_w, i32_w]
          rfl
        refine pure_ (i := 40) (N := some 105) (v := ?_) (a' := ?_) #[true, true, true, true, true, true, true, true, true, true, true, true, true, true, true, true, true, true, true, true, true, true, true, true, true, true, true, true, true, true, true, true, true, true, true, true, true, true, true, true, true, false, false, false, false, false, false, false, false] rfl rfl (by kernel_rfl) (fun _ _ _ h => h) (Or.inl ⟨by rfl, ?_⟩) ?_ ?_
        rotate_left
        · intro w'
          go_simp
          with_reducible rfl
        rotate_left
        · simp only [Act.put, List.setIfInBounds_toArray, List.set_cons_zero, List.set_cons_succ, i64_w, i32_w]
          rfl
        refine pure_ (i := 41) (N := some 106) (v := ?_) (a' := ?_) #[true, true, true, true, true, true, true, true, true, true, true, true, true, true, true, true, true, true, true, true, true, true, true, true, true, true, true, true, true, true, true, true, true, true, true, true, true, true, true, true, true, true, false, false, false, false, false, false, false] rfl rfl (by kernel_rfl) (fun _ _ _ h => h) (Or.inl ⟨by rfl, ?_⟩) ?_ ?_
        rotate_left
        · intro w'
          go_simp
          with_reducible rfl
        rotate_left
        · simp only [Act.put, List.setIfInBounds_toArray, List.set_cons_zero, List.set_cons_succ, i64_w, i32_w]
          rfl
        refine pure_ (i := 42) (N := some 107) (v := ?_) (a' := ?_) #[true, true, true, true, true, true, true, true, true, true, true, true, true, true, true, true, true, true, true, true, true, true, true, true, true, true, true, true, true, true, true, true, true, true, true, true, true, true, true, true, true, true, true, false, false, false, false, false, false] rfl rfl (by kernel_rfl) (fun _ _ _ h => h) (Or.inl ⟨by rfl, ?_⟩) ?_ ?_
        rotate_left
        · intro w'
          go_simp
          with_reducible rfl
        rotate_left
        · simp only [Act.put, List.setIfInBounds_toArray, List.set_cons_zero, List.set_cons_succ, i64_w, i32_w]
          rfl
        refine pure_ (i := 44) (N := some 109) (v := ?_) (a' := ?_) #[true, true, true, true, true, true, true, true, true, true, true, true, true, true, true, true, true, true, true, true, true, true, true, true, true, true, true, true, true, true, true, true, true, true, true, true, true, true, true, true, true, true, true, false, true, false, false, false, false] rfl rfl (by kernel_rfl) (fun _ _ _ h => h) (Or.inl ⟨by rfl, ?_⟩) ?_ ?_
        rotate_left
        · intro w'
          go_simp
          with_reducible rfl
        rotate_left
        · simp only [Act.put, List.setIfInBounds_toArray, List.set_cons_zero, List.set_cons_succ, i64_w, i32_w]
          rfl
        refine pure_ (i := 46) (N := some 111) (v := ?_) (a' := ?_) #[true, true, true, true, true, true, true, true, true, true, true, true, true, true, true, true, true, true, true, true, true, true, true, true, true, true, true, true, true, true, true, true, true, true, true, true, true, true, true, true, true, true, true, false, true, false, true, false, false] rfl rfl (by kernel_rfl) (fun _ _ _ h => h) (Or.inl ⟨by rfl, ?_⟩) ?_ ?_
        rotate_left
        · intro w'
          go_simp
          with_reducible rfl
        rotate_left
        · simp only [Act.put, List.setIfInBounds_toArray, List.set_cons_zero, List.set_cons_succ, i64_w, i32_w]
          rfl
        refine take_ (i := 43) (N := some 108) (v := ?_) (a' := ?_) #[true, true, true, true, true, true, true, true, true, true, true, true, true, true, true, true, true, true, true, true, true, true, true, true, true, true, true, true, true, true, true, true, true, true, true, true, true, true, true, true, true, true, true, true, true, false, true, false, false] rfl rfl (by kernel_rfl) (fun _ _ _ h => h) (Or.inl ⟨by rfl, ?_⟩) hHeld ?_ ?_
        rotate_left
        · rintro w' ⟨s0, s1, s2⟩
          go_simp
          with_reducible rfl
        rotate_left
        · simp only [Act.put, List.setIfInBounds_toArray, List.set_cons_zero, List.set_cons_succ, i64_w, i32_w]
          rfl
        refine one_ (i := 45) (N := some 110) #[true, true, true, true, true, true, true, true, true, true, true, true, true, true, true, true, true, true, true, true, true, true, true, true, true, true, true, true, true, true, true, true, true, true, true, true, true, true, true, true, true, true, true, true, true, true, true, false, false] rfl rfl (by kernel_rfl) (by decide) (fun K hK => ?_)
        have hrm := two_Room ch HX.out.2.2.1 w75 HT75.out HS.out.fit3
        rw [HS.out.room] at hrm
        have HRm := Aside0.mk hrm
        clear hrm
        refine goes_ Tryd.func19 (by kernel_rfl) rfl #[.pointer (some ⟨p, 0, none⟩), .int .i64 ch] (by rfl) rfl rfl (by simp only [List.map_toArray, List.map_cons, List.map_nil]; rfl) ?_
        with_reducible refine (HRm.out).mono ?_
        rintro e w8 ⟨rfl, hT8, hN8⟩
        refine ⟨_, rfl, ?_⟩
        have HK8 := Aside0.mk ((hN8.kept g rfl).trans HK75.out)
        have HB8 := Aside0.mk (HB75.out.trans hN8.below)
        have HN8 := Aside0.mk (HN75.out.trans hN8)
        have HC8 := Aside0.mk (HCF.out w8 HB8.out)
        have HT8 := Aside0.mk hT8
        clear hT8 hN8
        clear HRm
        refine hK.out _ _ ⟨(blk_cell HK8.out 0), (blk_cell HK8.out 1), (conv_C cb HC8.out)⟩ (fun hHeld => ?_)
        clear hK K
        refine norm_ (a' := ?_) ?_ ?_
        rotate_left
        · show Act.put _ (some 110) _ = _
          simp only [Act.put, List.setIfInBounds_toArray, List.set_cons_zero, List.set_cons_succ, i64_w, i32_w]
          rfl
        refine pure_ (i := 47) (N := some 112) (v := ?_) (a' := ?_) #[true, true, true, true, true, true, true, true, true, true, true, true, true, true, true, true, true, true, true, true, true, true, true, true, true, true, true, true, true, true, true, true, true, true, true, true, true, true, true, true, true, true, true, true, true, true, true, true, false] rfl rfl (by kernel_rfl) (fun _ _ _ h => h) (Or.inl ⟨by rfl, ?_⟩) ?_ ?_
        rotate_left
        · intro w'
          go_simp
          with_reducible rfl
        rotate_left
        · simp only [Act.put, List.setIfInBounds_toArray, List.set_cons_zero, List.set_cons_succ, i64_w, i32_w]
          rfl
        refine pure_ (i := 48) (N := some 113) (v := ?_) (a' := ?_) #[true, true, true, true, true, true, true, true, true, true, true, true, true, true, true, true, true, true, true, true, true, true, true, true, true, true, true, true, true, true, true, true, true, true, true, true, true, true, true, true, true, true, true, true, true, true, true, true, true] rfl rfl (by kernel_rfl) (fun _ _ _ h => h) (Or.inl ⟨by rfl, ?_⟩) ?_ ?_
        rotate_left
        · intro w'
          go_simp
          with_reducible rfl
        rotate_left
        · simp only [Act.put, List.setIfInBounds_toArray, List.set_cons_zero, List.set_cons_succ, i64_w, i32_w]
          rfl
        refine done_ (by kernel_rfl) ?_
        go_wp2
        go_roundg (m - (i + 1))
        case measure => have := C1.out; omega
        case rel => exact ⟨i + 1, _, _, _, _, rfl, by first | rfl | rw [hadd], ⟨by have := C1.out; omega, HS.out.next⟩, HT8, HN8⟩
      · have k1 : decide ((i : Int) < (m : Int)) = false := decide_eq_false (by omega)
        have k1' : decide (i < m) = false := decide_eq_false c1
        have k1n : (i < m) = False := eq_false c1
        have k1i : ((i : Int) < (m : Int)) = False := eq_false (by omega)
        clear hi hm20 c1
        go_wp2
        go_meet
        exact ⟨A, B, vs, vs', ⟨HI.out.2⟩, HT, HN⟩
  clear HI1 HT2 HN2 HT1
  obtain ⟨A1, B1, vs1, vs1', HI1, HT2, HN2⟩ := hcut
  go_upto_block 4 with (fail)
  go_cut [11, 115] (fun s11 s115 wx => Aside0 (Below w.heap.size w wx))
  case first =>
    go_wp2_with fail
    go_loopg [11, 115] 8 (fun gg v11 v115 w' => ∃ (i : Nat), gg = 8 - i ∧ v115 = .int .i64 i ∧ Aside0 (i ≤ 8) ∧ Aside0 (Two w.heap.size (fun k => k = g) p q vs1 A1 p' q' vs1' B1 w') ∧ Aside0 (Nx w.heap.size (fun k => k = g) w1 w'))
    case atStart => exact ⟨0, rfl, rfl, ⟨by omega⟩, HT2, HN2⟩
    case round =>
      clear HT2 HN2
      obtain ⟨i, rfl, rfl, HI, HT, HN⟩ := hrel
      by_cases c1 : i < 8
      · have k1 : decide ((i : Int) < 8) = true := decide_eq_true (by omega)
        have hadd : wrap64 ((i : Int) + 1) = ((i + 1 : Nat) : Int) := by unfold wrap64; omega
        have C1 := Aside0.mk c1
        by_cases c2 : i = ch
        · have k2 : ((i : Int) != (ch : Int)) = false := by rw [c2]; simp
          have k2' : (i != ch) = false := by rw [c2]; simp
          clear c1 c2
          go_wp2
          go_roundg (8 - (i + 1))
          case measure => have := C1.out; omega
          case rel => exact ⟨i + 1, rfl, by first | rfl | rw [hadd], ⟨by have := C1.out; omega⟩, HT, HN⟩
        · have k2 : ((i : Int) != (ch : Int)) = true := bne_iff_ne.mpr (by omega)
          have k2' : (i != ch) = true := bne_iff_ne.mpr c2
          have hg := (HN.out.kept g rfl).trans HK1.out.1
          have e0 := blk_cell hg 0
          have hR : Calls Tryd.prog 19 #[.pointer (some ⟨p, 0, none⟩), .int .i64 i] wr fun e w' => e = .returned (.int .i64 0) ∧ Two w.heap.size (fun k => k = g) p q vs1 A1 p' q' vs1' B1 w' ∧ Nx w.heap.size (fun k => k = g) wr w' := by
            obtain ⟨SA, CB, SB, CA, hI⟩ := HI1.out
            have := two_Room i c1 wr HT.out hI.duo.fa
            rwa [hI.end_ i c1 c2] at this
          have HR := Aside0.mk hR
          clear c1 c2 hg hR
          go_wp2_with fail
          refine HR.out.mono ?_
          rintro e w2 ⟨rfl, hT2, hN2⟩
          have HT2 := Aside0.mk hT2
          have HN2 := Aside0.mk (HN.out.trans hN2)
          clear hT2 hN2 e0
          go_wp2
          go_roundg (8 - (i + 1))
          case measure => have := C1.out; omega
          case rel => exact ⟨i + 1, rfl, by first | rfl | rw [hadd], ⟨by have := C1.out; omega⟩, HT2, HN2⟩
      · have k1 : decide ((i : Int) < 8) = false := decide_eq_false (by omega)
        clear c1
        go_wp2
        go_meet
        exact ⟨HB1.out.trans HN.out.below⟩
  go_wp2_with fail
  refine (law_awake _ (HG.out.past hcut.out H0.out) (Nat.lt_of_lt_of_le H0.out hcut.out.size)).mono ?_
  rintro e w9 ⟨rfl, hb9⟩
  have HB9 := Aside0.mk (hcut.out.trans (hb9.mono hcut.out.size))
  clear hb9
  go_wp2
  go_ret
  exact ⟨rfl, HB9.out⟩
open Go.Proofs.YthehhbfiaaadgaaDoor.Num Go.Proofs.YthehhbfiaaadgaaDoor.Pure
def remoralaw31_MuxNone.f (a0 a1 : Int) (l2 : List (List Int)) : Option Bool := some true
def remoralaw31_MuxNone.Pure : Prop := True
set_option maxHeartbeats 8000000 in
set_option maxRecDepth 100000 in
theorem none_off (win ch : Int) (D : Option Addr) (m cl : Nat) (w : World) (hG : GT w) (hoff : win < 1 ∨ win > 2000 ∨ ch < 0 ∨ ch > 7 ∨ 20 < m) :
    Calls Tryd.prog 4 #[.int .i64 win, .int .i64 ch, .slice D m cl] w fun e w' => e = .returned (.bool true) ∧ Below w.heap.size w w' := by
  have HA := Aside0.mk (law_awake w hG (gt_pos hG))
  clear hG
  by_cases h1 : win < 1
  · have k1 : decide (win < 1) = true := decide_eq_true (by omega)
    clear hoff h1
    go_enter Tryd.func4, Tryd.ntmps4
    go_wp2_with fail
    refine HA.out.mono ?_
    rintro e w1 ⟨rfl, hb1⟩
    have HB1 := Aside0.mk hb1
    clear hb1
    go_wp2
    go_ret
    exact ⟨rfl, HB1.out⟩
  have k1 : decide (win < 1) = false := decide_eq_false (by omega)
  by_cases h2 : win > 2000
  · have k2 : decide (win > 2000) = true := decide_eq_true (by omega)
    have k2' : decide (2000 < win) = true := decide_eq_true (by omega)
    clear hoff h1 h2
    go_enter Tryd.func4, Tryd.ntmps4
    go_wp2_with fail
    refine HA.out.mono ?_
    rintro e w1 ⟨rfl, hb1⟩
    have HB1 := Aside0.mk hb1
    clear hb1
    go_wp2
    go_ret
    exact ⟨rfl, HB1.out⟩
  have k2 : decide (win > 2000) = false := decide_eq_false (by omega)
  have k2' : decide (2000 < win) = false := decide_eq_false (by omega)
  by_cases h3 : ch < 0
  · have k3 : decide (ch < 0) = true := decide_eq_true (by omega)
    clear hoff h1 h2 h3
    go_enter Tryd.func4, Tryd.ntmps4
    go_wp2_with fail
    refine HA.out.mono ?_
    rintro e w1 ⟨rfl, hb1⟩
    have HB1 := Aside0.mk hb1
    clear hb1
    go_wp2
    go_ret
    exact ⟨rfl, HB1.out⟩
  have k3 : decide (ch < 0) = false := decide_eq_false (by omega)
  by_cases h4 : ch > 7
  · have k4 : decide (ch > 7) = true := decide_eq_true (by omega)
    have k4' : decide (7 < ch) = true := decide_eq_true (by omega)
    clear hoff h1 h2 h3 h4
    go_enter Tryd.func4, Tryd.ntmps4
    go_wp2_with fail
    refine HA.out.mono ?_
    rintro e w1 ⟨rfl, hb1⟩
    have HB1 := Aside0.mk hb1
    clear hb1
    go_wp2
    go_ret
    exact ⟨rfl, HB1.out⟩
  have k4 : decide (ch > 7) = false := decide_eq_false (by omega)
  have k4' : decide (7 < ch) = false := decide_eq_false (by omega)
  by_cases h5 : 20 < m
  · have k5 : decide ((m : Int) > 20) = true := decide_eq_true (by omega)
    have k5' : decide (20 < (m : Int)) = true := decide_eq_true (by omega)
    clear hoff h1 h2 h3 h4 h5
    go_enter Tryd.func4, Tryd.ntmps4
    go_wp2_with fail
    refine HA.out.mono ?_
    rintro e w1 ⟨rfl, hb1⟩
    have HB1 := Aside0.mk hb1
    clear hb1
    go_wp2
    go_ret
    exact ⟨rfl, HB1.out⟩
  have k5 : decide ((m : Int) > 20) = false := decide_eq_false (by omega)
  have k5' : decide (20 < (m : Int)) = false := decide_eq_false (by omega)
  exact absurd hoff (by omega)
theorem remoralaw31_MuxNone.walk (P : remoralaw31_MuxNone.Pure) (a0 a1 : Int) (a2 : Option Addr) (cap2 : Nat) (l2 : List (List Int)) (w : World) (hG : GT w) (w0 : (Lit.int .i64 a0).wf = true) (w1 : (Lit.int .i64 a1).wf = true) (hr2 : Kd.C (Kd.slice 5 (Kd.int .u8)) w a2 l2.length l2) (hc2 : l2.length ≤ cap2) (hm2 : l2.length ≤ maxLen) (y2 : l2.length * (Tryd.prog).bytesOf 32 ≤ 140737488351232) (hw2 : ∀ x ∈ l2, (x.length ≤ maxLen ∧ x.length * (Tryd.prog).bytesOf 5 ≤ 140737488351232 ∧ ∀ y ∈ x, (Lit.int .u8 y).wf = true)) :
    Calls Tryd.prog 4 #[.int .i64 a0, .int .i64 a1, .slice a2 l2.length cap2] w fun e w' => e = .returned (.bool true) ∧ Below w.heap.size w w' := by
  by_cases hoff : a0 < 1 ∨ a0 > 2000 ∨ a1 < 0 ∨ a1 > 7 ∨ 20 < l2.length
  · exact none_off a0 a1 a2 _ cap2 w hG hoff
  · obtain ⟨win, rfl⟩ : ∃ win : Nat, a0 = win := ⟨a0.toNat, by omega⟩
    obtain ⟨ch, rfl⟩ : ∃ ch : Nat, a1 = ch := ⟨a1.toNat, by omega⟩
    exact none_main win ch (by omega) (by omega) (by omega) a2 cap2 l2 w hG (by omega) hr2 (fun x hx => byt_of (hw2 x hx).2.2)
end Go.Proofs.YthehhbfiaaadgaaDoor.P
