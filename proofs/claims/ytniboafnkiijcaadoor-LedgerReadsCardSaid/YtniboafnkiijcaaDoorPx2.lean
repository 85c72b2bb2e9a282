-- Written by a program of the session (wip/tool/mk.py) out of the translation; Lean checks it.
import Derived.Test.YtniboafnkiijcaaDoorPx0
import Derived.Test.YtniboafnkiijcaaDoorPx1
namespace Go.Proofs.YtniboafnkiijcaaDoor.P
open Go.RowKit Go.Proofs.YtniboafnkiijcaaDoorW.PrintWords Go.Proofs.YtniboafnkiijcaaDoorW.PrintLast Go.Proofs.YtniboafnkiijcaaDoorW.PrintMore
attribute [local go_sem] max2_int min2_int max_two min_two max_three min_three max_four min_four   -- for this text's walks alone
set_option linter.unusedVariables false
set_option linter.unusedSimpArgs false

set_option maxHeartbeats 32000000 in
set_option maxRecDepth 100000 in
open Go.Proofs.YtniboafnkiijcaaDoor.Num in
theorem led_Read.at_ (A0 : Option Addr) (c0 : Nat) (l O : List Int) (room : Int) (w : World) (hG : GT w) (hr : Kd.C (Kd.int .u8) w A0 l.length l) (hc0 : l.length ≤ c0) (ho : crc_Open.f l = some (O, 0)) (h : (decide (room < 1) || decide (room > 4096)) = false) (hb : Byt O) (hmx : O.length ≤ 1000000)
    (hH1 : ∀ A c, O.length ≤ c → GetHyp 40 (getS O) A O.length c O) (hH2 : ∀ A c, O.length ≤ c → GetHyp 65 (getIntS O) A O.length c O) (hH3 : ∀ A c, O.length ≤ c → TextHyp 64 A O.length c O) :
    Calls Tryd.prog 21 #[.slice A0 l.length c0, .int .i64 room] w (ReadPost w room (rdTop O room)) := by
  have HRoom : Aside0 (1 ≤ room ∧ room ≤ 4096) := ⟨by
    obtain ⟨h1, h2⟩ := Bool.or_eq_false_iff.1 h
    have h1 := of_decide_eq_false h1
    have h2 := of_decide_eq_false h2
    omega⟩
  have HN := Aside0.mk (led_New.at_ room w h)
  have HO := Aside0.mk (fun (w1 : World) (hg : GT w1) (hC : Kd.C (Kd.int .u8) w1 A0 l.length l) => crc_Open.calls A0 c0 l O 0 w1 hg hC hc0 ho)
  have HG := Aside0.mk hG
  have HC := Aside0.mk hr
  have HBY := Aside0.mk hb
  have HMX := Aside0.mk hmx
  have HH1 := Aside0.mk hH1
  have HH2 := Aside0.mk hH2
  have HH3 := Aside0.mk hH3
  clear h hG hr hc0 ho hb hmx hH1 hH2 hH3
  go_enter Tryd.func21, Tryd.ntmps21
  go_wp2_with fail
  refine HN.out.mono ?_
  rintro e w1 ⟨p, mb, rfl, hL, hB⟩
  have HB1 := Aside0.mk hB
  have HL1 := Aside0.mk hL
  clear hL hB HN
  go_wp2_with fail
  refine (HO.out w1 (HG.out.below HB1.out) (Kd.C_below HC.out HB1.out)).mono ?_
  rintro e w2 ⟨v, rfl, hR, hb⟩
  have HB2 := Aside0.mk (ld_step HB1.out hb)
  have HL2 := Aside0.mk (HL1.out.below hb)
  obtain ⟨A, c, rfl⟩ := Kd.R_slice hR
  obtain ⟨hcl, -⟩ := (Kd.R_reads' hR).2
  obtain ⟨m, hm⟩ : ∃ m, O.length = m := ⟨_, rfl⟩
  rw [hm] at hR hcl ⊢
  have HM := Aside0.mk (And.intro hm hcl)
  have H1 := Aside0.mk (HH1.out A c (by rw [hm]; exact hcl))
  have H2 := Aside0.mk (HH2.out A c (by rw [hm]; exact hcl))
  have H3 := Aside0.mk (HH3.out A c (by rw [hm]; exact hcl))
  rw [hm] at H1 H2 H3
  obtain ⟨pr, hpr⟩ : ∃ z, w2.heap.size = z := ⟨_, rfl⟩
  obtain ⟨w3, hw3⟩ : ∃ z, w2.alloc (.cells #[.slice A m c, .int .i64 0, .int .i64 0] 78) = z := ⟨_, rfl⟩
  have HB23 : Below w2.heap.size w2 w3 := by rw [← hw3]; exact below_alloc (Below.refl _ _) _
  have HP3 : Aside0 (w3.heap[pr]? = some (.cells #[.slice A m c, .int .i64 0, .int .i64 0] 78 (0, 0))) := ⟨by rw [← hw3, ← hpr]; exact blk_new w2 _⟩
  have HL3 := Aside0.mk (HL2.out.below HB23)
  have HB3 := Aside0.mk (ld_step HB2.out HB23)
  have HNE : Aside0 (pr ≠ p ∧ pr ≠ mb ∧ w.heap.size ≤ pr ∧ w.heap.size ≤ p ∧ w.heap.size ≤ mb) := ⟨by have h1 := blk_lt HL2.out.hP; have h2 := HL2.out.hM.lt; have h3 := HB2.out.size; exact ⟨by omega, by omega, by omega, HL2.out.hp0, HL2.out.hm0⟩⟩
  have HS3 : Aside0 (Src (fun k => k = pr ∨ k = p ∨ k = mb) A m O w3) := ⟨by
    refine (Src.of (X := fun k => k = pr ∨ k = p ∨ k = mb) hR hm ?_).below HB23
    rintro k cells (rfl | rfl | rfl) hk hc
    · omega
    · rw [HL2.out.hP] at hc
      injection hc with hc
      injection hc with _ hc
      exact absurd hc (by decide)
    · obtain ⟨D, hown, _⟩ := HL2.out.hM
      obtain ⟨es, cc, hmb, _⟩ := hown
      rw [hmb] at hc
      cases hc⟩
  obtain ⟨b1, hb1⟩ : ∃ z, w.heap.size = z := ⟨_, rfl⟩
  have HB1E := Aside0.mk hb1
  rw [hb1] at HL3
  clear hR hb hcl hm HB23 HL1 HL2 HB1 HB2 HO hb1
  go_wp2_with fail
  refine (rd_num.get (getS O) A m c O pr 0 0 w3 H1.out HS3.out.now HP3.out).mono ?_
  rintro e w4 ⟨rfl, hP4, hB4⟩
  have HL4 : Aside0 (Lg b1 p mb 0 room (.slice none 0 0) [] w4) := ⟨HL3.out.bm1 hB4 HP3.out (by decide)⟩
  have HS4 := Aside0.mk (HS3.out.bm hB4 (.inl rfl) (.inl rfl))
  have HB4 := Aside0.mk (Bm.to hB4 HB3.out (Nat.le_refl _) HNE.out.2.2.1 HNE.out.2.2.1)
  have hs0 : stepG (getS O) (0, 0) = ((getS O 0).1, (getS O 0).2) := rfl
  rw [hs0] at hP4 ⊢
  dsimp only at hP4 ⊢
  have HP4 := Aside0.mk hP4
  clear hP4 hB4 hs0 HL3 HS3 HB3 HP3 hw3 hpr
  obtain ⟨N, hN⟩ : ∃ N : Nat, (getS O 0).1 = (N : Int) := by
    rcases getS_range O 0 HBY.out with ⟨_, h⟩ | ⟨_, x, hx, _⟩
    · exact ⟨0, by rw [h]; rfl⟩
    · exact ⟨x, hx⟩
  obtain ⟨a1, ha1⟩ : ∃ z, (getS O 0).2.1 = z := ⟨_, rfl⟩
  obtain ⟨e1, he1⟩ : ∃ z, (getS O 0).2.2 = z := ⟨_, rfl⟩
  rw [ha1, he1] at HP4
  rw [hN]
  obtain ⟨RT, hRT⟩ : ∃ z, rdTop O room = z := ⟨_, rfl⟩
  have HRT := Aside0.mk hRT
  have HT0 : Aside0 (e1 ≠ 0 → RT = (e1, [])) := ⟨fun h => by rw [← hRT]; unfold rdTop; rw [he1, if_pos h]⟩
  have HT7 : Aside0 (e1 = 0 → (N : Int) > room → RT = (7, [])) := ⟨fun h h2 => by rw [← hRT]; unfold rdTop; rw [he1, if_neg (by rw [h]; decide), hN, if_pos h2]⟩
  have HTF : Aside0 (e1 = 0 → ¬ (N : Int) > room → RT = finR m (rdLines O N a1 [])) := ⟨fun h h2 => by rw [← hRT, rdTop_fin (by rw [he1]; exact h) (by rw [hN]; exact h2), HM.out.1, hN, ha1, Int.toNat_natCast]⟩
  clear ha1 he1 hN hRT
  obtain ⟨p0, p1, p2⟩ := rd_cells HP4.out
  go_upto_region 9 with (fail)
  obtain ⟨bb, hbb⟩ : ∃ bb, (e1 == 0 && decide ((N : Int) > room)) = bb := ⟨_, rfl⟩
  go_cut [44] (fun s44 wx => s44 = .bool bb ∧ wx = w4)
  case first =>
    subst hbb
    by_cases h1 : e1 = 0
    · have k1 : (e1 == 0) = true := beq_iff_eq.mpr h1
      clear h1 HT0 HT7 HTF
      go_wp2_with fail
      go_meet
      exact ⟨by rw [k1]; first | rfl | simp, rfl⟩
    · have k1 : (e1 == 0) = false := beq_eq_false_iff_ne.mpr h1
      clear h1 HT0 HT7 HTF
      go_wp2_with fail
      go_meet
      exact ⟨by rw [k1]; first | rfl | simp, rfl⟩
  obtain ⟨rfl, hwc⟩ := hcut
  subst hwc
  have HBB := Aside0.mk hbb
  clear hbb
  go_upto_if 44 with (fail)
  go_cut [44] (fun s44 wx => ∃ e5 : Int, Aside0 ((e5 = 0 → (N : Int) ≤ room ∧ RT = finR m (rdLines O N a1 [])) ∧ (e5 ≠ 0 → RT = (e5, []))) ∧ Aside0 (Lg b1 p mb 0 room (.slice none 0 0) [] wx) ∧ Aside0 (wx.heap[pr]? = some (.cells #[.slice A m c, .int .i64 a1, .int .i64 e5] 78 (0, 0))) ∧ Aside0 (Src (fun k => k = pr ∨ k = p ∨ k = mb) A m O wx) ∧ Aside0 (Below w.heap.size w wx))
  case first =>
    cases bb with
    | true =>
      have hb2 := Bool.and_eq_true_iff.1 HBB.out
      have h1 : e1 = 0 := beq_iff_eq.1 hb2.1
      have h2 : (N : Int) > room := of_decide_eq_true hb2.2
      have HE : Aside0 (((7 : Int) = 0 → (N : Int) ≤ room ∧ RT = finR m (rdLines O N a1 [])) ∧ ((7 : Int) ≠ 0 → RT = (7, []))) := ⟨⟨fun h => absurd h (by decide), fun h => HT7.out h1 h2⟩⟩
      have qf := blk_frozen HP4.out 2
      obtain ⟨w5, hw5⟩ : ∃ z, wc.setCell ⟨pr, 2, none⟩ (.int .i64 7) = z := ⟨_, rfl⟩
      have HP5 : Aside0 (w5.heap[pr]? = some (.cells #[.slice A m c, .int .i64 a1, .int .i64 7] 78 (0, 0))) := ⟨by rw [← hw5]; exact blk_set HP4.out 2 _⟩
      have HBm5 : Bm pr pr wc w5 := by rw [← hw5]; exact (Bm.refl _ _ _).setCell 2 _
      have HL5 : Aside0 (Lg b1 p mb 0 room (.slice none 0 0) [] w5) := ⟨HL4.out.bm1 HBm5 HP4.out (by decide)⟩
      have HS5 := Aside0.mk (HS4.out.bm HBm5 (.inl rfl) (.inl rfl))
      have HB5 := Aside0.mk (Bm.to HBm5 HB4.out (Nat.le_refl _) HNE.out.2.2.1 HNE.out.2.2.1)
      have HW5 := Aside0.mk hw5
      clear h1 h2 hb2 HT0 HT7 HTF hw5 HBm5
      go_wp2_with fail
      rw [HW5.out]
      go_meet
      exact ⟨7, HE, HL5, HP5, HS5, HB5⟩
    | false =>
      have HE : Aside0 ((e1 = 0 → (N : Int) ≤ room ∧ RT = finR m (rdLines O N a1 [])) ∧ (e1 ≠ 0 → RT = (e1, []))) := ⟨⟨fun h => by
        have h2 : ¬ (N : Int) > room := fun h2 => by
          have := HBB.out
          rw [h, decide_eq_true h2] at this
          cases this
        exact ⟨by omega, HTF.out h h2⟩, fun h => HT0.out h⟩⟩
      clear HT0 HT7 HTF p0 p1 p2
      go_wp2_with fail
      go_meet
      exact ⟨e1, HE, HL4, HP4, HS4, HB4⟩
  case rest =>
    obtain ⟨e5, HE, HL5, HP5, HS5, HB5⟩ := hcut
    clear p0 p1 p2 HL4 HS4 HB4 HP4 HBB HT0 HT7 HTF
    go_wp2
    go_loopg [10, 11, 12, 13] N (fun g v10 v11 v12 v13 w' => ∃ (i n : Nat) (a e : Int) (v : Value) (S : List Ln), g = N - i ∧ v10 = .int .i64 i ∧ Aside0 (i ≤ N ∧ n ≤ i ∧ S.length ≤ i ∧ ∀ x ∈ S, mayF x = 0) ∧ Aside0 ((e = 0 → (N : Int) ≤ room ∧ RT = finR m (rdLines O (N - i) a S)) ∧ (e ≠ 0 → RT = (e, []))) ∧ Aside0 (Lg b1 p mb n room v S w') ∧ Aside0 (w'.heap[pr]? = some (.cells #[.slice A m c, .int .i64 a, .int .i64 e] 78 (0, 0))) ∧ Aside0 (Src (fun k => k = pr ∨ k = p ∨ k = mb) A m O w') ∧ Aside0 (Below w.heap.size w w'))
    case atStart => exact ⟨0, 0, a1, e5, _, [], rfl, rfl, ⟨Nat.zero_le _, Nat.le_refl _, Nat.zero_le _, fun x hx => by cases hx⟩, HE, HL5, HP5, HS5, HB5⟩
    case round =>
      clear HE HL5 HP5 HS5 HB5
      obtain ⟨i, n, a, e, v, S, rfl, rfl, HI, HE, HL, HP, HS, HB⟩ := hrel
      obtain ⟨p0, p1, p2⟩ := rd_cells HP.out
      by_cases h0 : e = 0
      rotate_left
      · have k1 : (e == 0) = false := beq_eq_false_iff_ne.mpr h0
        have k1' : (e != 0) = true := bne_iff_ne.mpr h0
        have HR : Aside0 (RT = (e, [])) := ⟨HE.out.2 h0⟩
        have H0 := Aside0.mk h0
        clear h0 HE
        by_cases c1 : i < N
        · have e1_ : decide ((i : Int) < (N : Int)) = true := decide_eq_true (by omega)
          have e1' : decide (i < N) = true := decide_eq_true c1
          clear c1
          go_wp2
          repeat (go_quiet (fail); try go_wp2)
          go_ret2
          rw [HRT.out]
          refine ⟨by repeat (first | exact HB.out | apply pw_below_drewN | apply below_drew), .inl ⟨by rw [HR.out]; exact H0.out, by rw [HR.out]; rfl⟩⟩
        · have e1_ : decide ((i : Int) < (N : Int)) = false := decide_eq_false (by omega)
          have e1' : decide (i < N) = false := decide_eq_false c1
          clear c1
          go_wp2
          repeat (go_quiet (fail); try go_wp2)
          go_ret2
          rw [HRT.out]
          refine ⟨by repeat (first | exact HB.out | apply pw_below_drewN | apply below_drew), .inl ⟨by rw [HR.out]; exact H0.out, by rw [HR.out]; rfl⟩⟩
      have k1 : (e == 0) = true := beq_iff_eq.mpr h0
      have k1' : (e != 0) = false := bne_eq_false_iff_eq.mpr h0
      have HRr := Aside0.mk (HE.out.1 h0)
      have H0 := Aside0.mk h0
      clear h0 HE
      by_cases c1 : i < N
      rotate_left
      · have e1_ : decide ((i : Int) < (N : Int)) = false := decide_eq_false (by omega)
        have e1' : decide (i < N) = false := decide_eq_false c1
        have hN0 : N - i = 0 := by omega
        have hRr := HRr.out.2
        rw [hN0, rdLines] at hRr
        by_cases c2 : a < (m : Int)
        · have e2_ : decide (a < (m : Int)) = true := decide_eq_true c2
          have HR : Aside0 (RT = (5, [])) := ⟨by rw [hRr]; unfold finR; rw [if_neg (fun h => h rfl), if_pos c2]⟩
          have qf := blk_frozen HP.out 2
          have hk5 : ((5 : Int) != 0) = true := rfl
          have hk5' : ((5 : Int) == 0) = false := rfl
          have HB5 := Aside0.mk (HB.out.setCell (p := ⟨pr, 2, none⟩) HNE.out.2.2.1 (.int .i64 5))
          clear c1 c2 hRr hN0
          go_wp2
          repeat (go_quiet (fail); try go_wp2)
          go_ret2
          rw [HRT.out]
          refine ⟨by repeat (first | exact HB5.out | apply pw_below_drewN | apply below_drew), .inl ⟨by rw [HR.out]; decide, by rw [HR.out]; rfl⟩⟩
        · have e2_ : decide (a < (m : Int)) = false := decide_eq_false c2
          have HR : Aside0 (RT = (0, S)) := ⟨by rw [hRr]; unfold finR; rw [if_neg (fun h => h rfl), if_neg c2]⟩
          clear c1 c2 hRr hN0
          go_wp2
          go_ret2
          rw [HRT.out]
          refine ⟨HB.out, .inr ⟨by rw [HR.out], p, mb, n, v, rfl, ?_, by have := HI.out; have := HRr.out; have := HRoom.out; omega, by rw [HR.out]; have := HI.out; have := HRr.out; show (S.length : Int) ≤ room; omega, by rw [HR.out]; exact HI.out.2.2.2⟩⟩
          rw [HR.out, HB1E.out]
          exact HL.out
      obtain rfl := H0.out
      have e1_ : decide ((i : Int) < (N : Int)) = true := decide_eq_true (by omega)
      have e1' : decide (i < N) = true := decide_eq_true c1
      have hadd : wrap64 ((i : Int) + 1) = ((i + 1 : Nat) : Int) := by have := HRr.out.1; have := HRoom.out; unfold wrap64; omega
      have hLn := rd_line.at_ A m c O pr a wr HBY.out HM.out.1 HM.out.2 (by have := HM.out.1; have := HMX.out; omega) H1.out H2.out H3.out (fun w' hb => (HS.out.bm hb (.inl rfl) (.inl rfl)).now) HP.out
      have hpz : (rdLine O a).1.path.size ≤ 200 := by rw [rdLine_path]; exact rdA_size HBY.out a
      have hmy := rdLine_may (O := O) (a0 := a)
      have hst : rdLines O (N - i) a S = if (rdLine O a).2.2 = 0 then (if S.any (fun y => eqP (rdLine O a).1.path y.path) = true then (11, ((rdLine O a).2.1, S)) else rdLines O (N - (i + 1)) (rdLine O a).2.1 (S ++ [(rdLine O a).1])) else ((rdLine O a).2.2, ((rdLine O a).2.1, S)) := by
        obtain ⟨q, hq⟩ : ∃ q, N - i = q + 1 := ⟨N - i - 1, by omega⟩
        rw [hq, rdLines, show N - (i + 1) = q by omega]
      obtain ⟨x, hx⟩ : ∃ z, (rdLine O a).1 = z := ⟨_, rfl⟩
      obtain ⟨a2, ha2⟩ : ∃ z, (rdLine O a).2.1 = z := ⟨_, rfl⟩
      obtain ⟨e2, he2⟩ : ∃ z, (rdLine O a).2.2 = z := ⟨_, rfl⟩
      rw [hx, ha2, he2] at hLn hst
      rw [hx] at hpz hmy
      rw [he2] at hmy
      have HST := Aside0.mk hst
      have HPZ := Aside0.mk hpz
      have HMY := Aside0.mk hmy
      have HLN := Aside0.mk hLn
      have C1 := Aside0.mk c1
      unfold lnV at HLN
      clear hx ha2 he2 hst hpz hmy hLn c1
      go_wp2_with fail
      refine HLN.out.mono ?_
      rintro e u5 ⟨rfl, hP5, hB5⟩
      have HL5 : Aside0 (Lg b1 p mb n room v S u5) := ⟨HL.out.bm1 hB5 HP.out (by decide)⟩
      have HS5 := Aside0.mk (HS.out.bm hB5 (.inl rfl) (.inl rfl))
      have HB5 := Aside0.mk (Bm.to hB5 HB.out (Nat.le_refl _) HNE.out.2.2.1 HNE.out.2.2.1)
      have HP5 := Aside0.mk hP5
      clear hP5 hB5 p0 p1 p2 HL HS HB HP HLN
      obtain ⟨gx, hgx⟩ : ∃ z, u5.heap.size = z := ⟨_, rfl⟩
      obtain ⟨w6, hw6⟩ : ∃ z, u5.alloc (.cells #[.string x.path, .int .i64 x.ino, .int .i64 x.size, .int .i64 x.sec, .int .i64 x.nano, .string x.sum] 68) = z := ⟨_, rfl⟩
      have hb6 : Below u5.heap.size u5 w6 := by rw [← hw6]; exact below_alloc (Below.refl _ _) _
      have HX6 : Aside0 (w6.heap[gx]? = some (.cells #[.string x.path, .int .i64 x.ino, .int .i64 x.size, .int .i64 x.sec, .int .i64 x.nano, .string x.sum] 68 (0, 0))) := ⟨by rw [← hw6, ← hgx]; exact blk_new u5 _⟩
      have HL6 := Aside0.mk (HL5.out.below hb6)
      have HS6 := Aside0.mk (HS5.out.below hb6)
      have HB6 := Aside0.mk (ld_step HB5.out hb6)
      have HP6 := Aside0.mk (blk_below HP5.out hb6)
      have HGX : Aside0 (gx ≠ p ∧ gx ≠ mb ∧ gx ≠ pr ∧ gx < w6.heap.size) := ⟨by have h1 := blk_lt HL5.out.hP; have h2 := HL5.out.hM.lt; have h3 := blk_lt HP5.out; have h4 := blk_lt HX6.out; exact ⟨by omega, by omega, by omega, h4⟩⟩
      obtain ⟨z, b, hlk, hbm, -⟩ := HL6.out.hM.lookAll x.path (by have := HPZ.out; unfold maxLen; omega)
      unfold lnV at hlk
      have HLK := Aside0.mk hlk
      have hbb : b = S.any (fun y => eqP x.path y.path) := by
        rw [Bool.eq_iff_iff, hbm, hasP_iff]
      rw [← hbb] at HST
      have HBM := Aside0.mk hbm
      clear hb6 hlk hbm hbb HL5 HS5 HB5 HP5
      go_wp2_with fail
      have HLd := HLK.out w6.drew rfl
      refine start_ (n := 14) (S := fun w' => w'.cell? ⟨p, 2, none⟩ = some (.map (some mb)) ∧ w'.cell? ⟨gx, 0, none⟩ = some (.string x.path) ∧ (Instr.lookup 53 (.map (some mb)) (.string x.path) true).run Tryd.prog w' = .ok (.tuple #[.agg #[.string z.path, .int .i64 z.ino, .int .i64 z.size, .int .i64 z.sec, .int .i64 z.nano, .string z.sum], .bool b]) w') (ds := [12]) #[F_,F_,F_,F_,F_,F_,F_,F_,F_,F_,F_,F_,F_,F_] (by kernel_rfl) rfl rfl ⟨(rw_cells (w := w6.drew) HL6.out.hP).2.2, (lnz_cells (w := w6.drew) HX6.out).1, HLd⟩ (fun hHeld => ?_)
      refine pure_ (i := 0) (N := some 63) (v := ?_) (a' := ?_) #[T_,F_,F_,F_,F_,F_,F_,F_,F_,F_,F_,F_,F_,F_] rfl rfl (by kernel_rfl) (fun _ _ _ h => h) (Or.inl ⟨by rfl, ?_⟩) ?_ ?_
      rotate_left
      · intro w'
        go_simp
        with_reducible rfl
      rotate_left
      · simp only [Act.put, List.setIfInBounds_toArray, List.set_cons_zero, List.set_cons_succ, i64_w, i32_w]
        rfl
      refine pure_ (i := 1) (N := some 64) (v := ?_) (a' := ?_) #[T_,T_,F_,F_,F_,F_,F_,F_,F_,F_,F_,F_,F_,F_] rfl rfl (by kernel_rfl) (fun _ _ _ h => h) (Or.inl ⟨by rfl, ?_⟩) ?_ ?_
      rotate_left
      · intro w'
        go_simp
        with_reducible rfl
      rotate_left
      · simp only [Act.put, List.setIfInBounds_toArray, List.set_cons_zero, List.set_cons_succ, i64_w, i32_w]
        rfl
      refine pure_ (i := 2) (N := some 65) (v := ?_) (a' := ?_) #[T_,T_,T_,F_,F_,F_,F_,F_,F_,F_,F_,F_,F_,F_] rfl rfl (by kernel_rfl) (fun _ _ _ h => h) (Or.inl ⟨by rfl, ?_⟩) ?_ ?_
      rotate_left
      · intro w'
        go_simp
        with_reducible rfl
      rotate_left
      · simp only [Act.put, List.setIfInBounds_toArray, List.set_cons_zero, List.set_cons_succ, i64_w, i32_w]
        rfl
      refine pure_ (i := 3) (N := some 66) (v := ?_) (a' := ?_) #[T_,T_,T_,T_,F_,F_,F_,F_,F_,F_,F_,F_,F_,F_] rfl rfl (by kernel_rfl) (fun _ _ _ h => h) (Or.inl ⟨by rfl, ?_⟩) ?_ ?_
      rotate_left
      · intro w'
        go_simp
        with_reducible rfl
      rotate_left
      · simp only [Act.put, List.setIfInBounds_toArray, List.set_cons_zero, List.set_cons_succ, i64_w, i32_w]
        rfl
      refine pure_ (i := 5) (N := some 68) (v := ?_) (a' := ?_) #[T_,T_,T_,T_,F_,T_,F_,F_,F_,F_,F_,F_,F_,F_] rfl rfl (by kernel_rfl) (fun _ _ _ h => h) (Or.inl ⟨by rfl, ?_⟩) ?_ ?_
      rotate_left
      · intro w'
        go_simp
        with_reducible rfl
      rotate_left
      · simp only [Act.put, List.setIfInBounds_toArray, List.set_cons_zero, List.set_cons_succ, i64_w, i32_w]
        rfl
      refine take_ (i := 4) (N := some 67) (v := ?_) (a' := ?_) #[T_,T_,T_,T_,T_,T_,F_,F_,F_,F_,F_,F_,F_,F_] rfl rfl (by kernel_rfl) (fun _ _ _ h => h) (Or.inl ⟨by rfl, ?_⟩) hHeld ?_ ?_
      rotate_left
      · rintro w' ⟨s0, s1, s2⟩
        go_simp
        with_reducible rfl
      rotate_left
      · simp only [Act.put, List.setIfInBounds_toArray, List.set_cons_zero, List.set_cons_succ, i64_w, i32_w]
        rfl
      refine take_ (i := 6) (N := some 69) (v := ?_) (a' := ?_) #[T_,T_,T_,T_,T_,T_,T_,F_,F_,F_,F_,F_,F_,F_] rfl rfl (by kernel_rfl) (fun _ _ _ h => h) (Or.inl ⟨by rfl, ?_⟩) hHeld ?_ ?_
      rotate_left
      · rintro w' ⟨s0, s1, s2⟩
        go_simp
        with_reducible rfl
      rotate_left
      · simp only [Act.put, List.setIfInBounds_toArray, List.set_cons_zero, List.set_cons_succ, i64_w, i32_w]
        rfl
      refine take_ (i := 7) (N := some 70) (v := ?_) (a' := ?_) #[T_,T_,T_,T_,T_,T_,T_,T_,F_,F_,F_,F_,F_,F_] rfl rfl (by kernel_rfl) (fun _ _ _ h => h) (Or.inl ⟨by rfl, ?_⟩) hHeld ?_ ?_
      rotate_left
      · rintro w' ⟨s0, s1, s2⟩
        go_simp
        with_reducible rfl
      rotate_left
      · simp only [Act.put, List.setIfInBounds_toArray, List.set_cons_zero, List.set_cons_succ, i64_w, i32_w]
        rfl
      refine pure_ (i := 8) (N := some 62) (v := ?_) (a' := ?_) #[T_,T_,T_,T_,T_,T_,T_,T_,T_,F_,F_,F_,F_,F_] rfl rfl (by kernel_rfl) (fun _ _ _ h => h) (Or.inl ⟨by rfl, ?_⟩) ?_ ?_
      rotate_left
      · intro w'
        go_simp
        with_reducible rfl
      rotate_left
      · simp only [Act.put, List.setIfInBounds_toArray, List.set_cons_zero, List.set_cons_succ, i64_w, i32_w]
        rfl
      refine pure_ (i := 9) (N := some 71) (v := ?_) (a' := ?_) #[T_,T_,T_,T_,T_,T_,T_,T_,T_,T_,F_,F_,F_,F_] rfl rfl (by kernel_rfl) (fun _ _ _ h => h) (Or.inl ⟨by rfl, ?_⟩) ?_ ?_
      rotate_left
      · intro w'
        go_simp
        with_reducible rfl
      rotate_left
      · simp only [Act.put, List.setIfInBounds_toArray, List.set_cons_zero, List.set_cons_succ, i64_w, i32_w]
        rfl
      refine pure_ (i := 10) (N := some 72) (v := ?_) (a' := ?_) #[T_,T_,T_,T_,T_,T_,T_,T_,T_,T_,T_,F_,F_,F_] rfl rfl (by kernel_rfl) (fun _ _ _ h => h) (Or.inl ⟨by rfl, ?_⟩) ?_ ?_
      rotate_left
      · intro w'
        go_simp
        with_reducible rfl
      rotate_left
      · simp only [Act.put, List.setIfInBounds_toArray, List.set_cons_zero, List.set_cons_succ, i64_w, i32_w]
        rfl
      refine one_ (i := 11) (N := some 12) #[T_,T_,T_,T_,T_,T_,T_,T_,T_,T_,T_,T_,F_,F_] rfl rfl (by kernel_rfl) (by decide) (fun K hK => ?_)
      refine value_ (w1 := w6.drew.alloc (.cells #[.string ⟨#[]⟩, .int .i64 0, .int .i64 0, .int .i64 0, .int .i64 0, .string ⟨#[]⟩] 68)) (v := .pointer (some ⟨w6.heap.size, 0, none⟩)) (by rfl) rfl (by go_simp) ?_
      have HZ7 : Aside0 ((w6.drew.alloc (.cells #[.string ⟨#[]⟩, .int .i64 0, .int .i64 0, .int .i64 0, .int .i64 0, .string ⟨#[]⟩] 68)).heap[w6.heap.size]? = some (.cells #[.string ⟨#[]⟩, .int .i64 0, .int .i64 0, .int .i64 0, .int .i64 0, .string ⟨#[]⟩] 68 (0, 0))) := ⟨blk_new w6.drew (.cells #[.string ⟨#[]⟩, .int .i64 0, .int .i64 0, .int .i64 0, .int .i64 0, .string ⟨#[]⟩] 68)⟩
      have HB7a : Below w6.drew.heap.size w6.drew (w6.drew.alloc (.cells #[.string ⟨#[]⟩, .int .i64 0, .int .i64 0, .int .i64 0, .int .i64 0, .string ⟨#[]⟩] 68)) := below_alloc (Below.refl _ _) _
      have HX7 := Aside0.mk (blk_below (w := w6.drew) HX6.out HB7a)
      have HP7q := Aside0.mk (blk_below (w := w6.drew) HL6.out.hP HB7a)
      have HLd2 := HLK.out (w6.drew.alloc (.cells #[.string ⟨#[]⟩, .int .i64 0, .int .i64 0, .int .i64 0, .int .i64 0, .string ⟨#[]⟩] 68)) (HB7a.block mb HL6.out.hM.lt)
      clear HB7a
      refine hK.out _ _ ⟨(rw_cells HP7q.out).2.2, (lnz_cells HX7.out).1, HLd2⟩ (fun hHeld => ?_)
      clear hK K
      refine norm_ (a' := ?_) ?_ ?_
      rotate_left
      · show Act.put _ (some 12) _ = _
        simp only [Act.put, List.setIfInBounds_toArray, List.set_cons_zero, List.set_cons_succ, i64_w, i32_w]
        rfl
      refine last_ (i := 12) (N := none) #[T_,T_,T_,T_,T_,T_,T_,T_,T_,T_,T_,T_,T_,F_] rfl rfl (by kernel_rfl) (by decide) (fun K hK => ?_)
      obtain ⟨z0, z1, z2, z3, z4, z5⟩ := lnz_cells HZ7.out
      have g0 := blk_frozen HZ7.out 0
      have g1 := blk_frozen HZ7.out 1
      have g2 := blk_frozen HZ7.out 2
      have g3 := blk_frozen HZ7.out 3
      have g4 := blk_frozen HZ7.out 4
      have g5 := blk_frozen HZ7.out 5
      refine skip_ (w1 := ?_) (by rfl) rfl ?_ ?_
      rotate_left
      · go_simp
        rfl
      refine hK.out _ _ ?_
      clear hK K
      refine pure_ (i := 13) (N := some 13) (v := ?_) (a' := ?_) #[T_,T_,T_,T_,T_,T_,T_,T_,T_,T_,T_,T_,T_,T_] rfl rfl (by kernel_rfl) (fun _ _ _ h => h) (Or.inl ⟨by rfl, ?_⟩) ?_ ?_
      rotate_left
      · intro w'
        go_simp
        with_reducible rfl
      rotate_left
      · simp only [Act.put, List.setIfInBounds_toArray, List.set_cons_zero, List.set_cons_succ, i64_w, i32_w]
        rfl
      refine done_ (by kernel_rfl) ?_
      clear hHeld
      obtain ⟨w7, hw7⟩ : ∃ y, (w6.alloc (.cells #[.string z.path, .int .i64 z.ino, .int .i64 z.size, .int .i64 z.sec, .int .i64 z.nano, .string z.sum] 68)).drew = y := ⟨_, rfl⟩
      have hb7 : Below w6.heap.size w6 w7 := by rw [← hw7]; exact below_drew (below_alloc (Below.refl _ _) _)
      rw [hw7]
      have HX7w := Aside0.mk (blk_below HX6.out hb7)
      have HL7 := Aside0.mk (HL6.out.below hb7)
      have HS7 := Aside0.mk (HS6.out.below hb7)
      have HB7 := Aside0.mk (ld_step HB6.out hb7)
      have HP7 := Aside0.mk (blk_below HP6.out hb7)
      clear hb7 hw7 z0 z1 z2 z3 z4 z5 g0 g1 g2 g3 g4 g5 HZ7 HX7 HP7q HLd2 HLd HX6 HL6 HS6 HB6 HP6 HLK
      obtain ⟨p0, p1, p2⟩ := rd_cells HP7.out
      cases hbb : b with
      | true =>
        rw [hbb] at HST
        by_cases h2 : e2 = 0
        · have k2 : (e2 == 0) = true := beq_iff_eq.mpr h2
          have qf := blk_frozen HP7.out 2
          have hs11 := HST.out
          rw [if_pos h2, if_pos rfl] at hs11
          have HE9 : Aside0 (((11 : Int) = 0 → (N : Int) ≤ room ∧ RT = finR m (rdLines O (N - (i + 1)) a2 S)) ∧ ((11 : Int) ≠ 0 → RT = (11, []))) := ⟨⟨fun h => absurd h (by decide), fun _ => by rw [HRr.out.2, hs11]; unfold finR; rw [if_pos (by show (11 : Int) ≠ 0; decide)]⟩⟩
          obtain ⟨w9, hw9⟩ : ∃ z, w7.setCell ⟨pr, 2, none⟩ (.int .i64 11) = z := ⟨_, rfl⟩
          have HP9 : Aside0 (w9.heap[pr]? = some (.cells #[.slice A m c, .int .i64 a2, .int .i64 11] 78 (0, 0))) := ⟨by rw [← hw9]; exact blk_set HP7.out 2 _⟩
          have hB9 : Bm pr pr w7 w9 := by rw [← hw9]; exact (Bm.refl _ _ _).setCell 2 _
          have HL9 : Aside0 (Lg b1 p mb n room v S w9) := ⟨HL7.out.bm1 hB9 HP7.out (by decide)⟩
          have HS9 := Aside0.mk (HS7.out.bm hB9 (.inl rfl) (.inl rfl))
          have HB9 := Aside0.mk (Bm.to hB9 HB7.out (Nat.le_refl _) HNE.out.2.2.1 HNE.out.2.2.1)
          have hk11 : ((11 : Int) == 0) = false := rfl
          have HW9 := Aside0.mk hw9
          clear h2 hs11 hw9 hB9
          go_wp2
          go_roundg (N - (i + 1))
          case measure => have := C1.out; omega
          case rel => rw [HW9.out]; exact ⟨i + 1, n, a2, 11, v, S, rfl, by first | rfl | rw [hadd], ⟨by have := C1.out; have := HI.out; exact ⟨by omega, by omega, by omega, HI.out.2.2.2⟩⟩, HE9, HL9, HP9, HS9, HB9⟩
        · have k2 : (e2 == 0) = false := beq_eq_false_iff_ne.mpr h2
          have hs11 := HST.out
          rw [if_neg h2] at hs11
          have HE9 : Aside0 ((e2 = 0 → (N : Int) ≤ room ∧ RT = finR m (rdLines O (N - (i + 1)) a2 S)) ∧ (e2 ≠ 0 → RT = (e2, []))) := ⟨⟨fun h => absurd h h2, fun _ => by rw [HRr.out.2, hs11]; unfold finR; rw [if_pos h2]⟩⟩
          clear h2 hs11
          go_wp2
          go_roundg (N - (i + 1))
          case measure => have := C1.out; omega
          case rel => exact ⟨i + 1, n, a2, e2, v, S, rfl, by first | rfl | rw [hadd], ⟨by have := C1.out; have := HI.out; exact ⟨by omega, by omega, by omega, HI.out.2.2.2⟩⟩, HE9, HL7, HP7, HS7, HB7⟩
      | false =>
        rw [hbb] at HST HBM
        by_cases h2 : e2 = 0
        rotate_left
        · have k2 : (e2 == 0) = false := beq_eq_false_iff_ne.mpr h2
          have hs11 := HST.out
          rw [if_neg h2] at hs11
          have HE9 : Aside0 ((e2 = 0 → (N : Int) ≤ room ∧ RT = finR m (rdLines O (N - (i + 1)) a2 S)) ∧ (e2 ≠ 0 → RT = (e2, []))) := ⟨⟨fun h => absurd h h2, fun _ => by rw [HRr.out.2, hs11]; unfold finR; rw [if_pos h2]⟩⟩
          clear h2 hs11
          go_wp2
          go_roundg (N - (i + 1))
          case measure => have := C1.out; omega
          case rel => exact ⟨i + 1, n, a2, e2, v, S, rfl, by first | rfl | rw [hadd], ⟨by have := C1.out; have := HI.out; exact ⟨by omega, by omega, by omega, HI.out.2.2.2⟩⟩, HE9, HL7, HP7, HS7, HB7⟩
        subst h2
        have hs11 := HST.out
        rw [if_pos rfl, if_neg (by decide)] at hs11
        have HE9 : Aside0 (((0 : Int) = 0 → (N : Int) ≤ room ∧ RT = finR m (rdLines O (N - (i + 1)) a2 (S ++ [x]))) ∧ ((0 : Int) ≠ 0 → RT = (0, []))) := ⟨⟨fun _ => ⟨HRr.out.1, by rw [HRr.out.2, hs11]⟩, fun h => absurd rfl h⟩⟩
        have HNW : Aside0 (lastS x S = S ++ [x]) := ⟨lastS_new (fun h => by have := HBM.out.2 h; cases this)⟩
        have HLa := Aside0.mk (row_last.at_ b1 p mb n room v S x w7.drew (HL7.out.below (below_drew (Below.refl _ _))) (by have := HPZ.out; omega) (by have := HI.out; have := HRr.out.1; have := HRoom.out; have := C1.out; omega) (by have := HI.out; have := HRr.out.1; have := HRoom.out; have := C1.out; omega))
        rw [HNW.out] at HLa
        unfold lnV at HLa
        clear hs11
        go_wp2_with fail
        refine start_ (n := 7) (S := fun w' => w'.cell? ⟨gx, 0, none⟩ = some (.string x.path) ∧ w'.cell? ⟨gx, 1, none⟩ = some (.int .i64 x.ino) ∧ w'.cell? ⟨gx, 2, none⟩ = some (.int .i64 x.size) ∧ w'.cell? ⟨gx, 3, none⟩ = some (.int .i64 x.sec) ∧ w'.cell? ⟨gx, 4, none⟩ = some (.int .i64 x.nano) ∧ w'.cell? ⟨gx, 5, none⟩ = some (.string x.sum)) (ds := []) #[F_,F_,F_,F_,F_,F_,F_] (by kernel_rfl) rfl rfl ⟨(lnz_cells (w := w7.drew) HX7w.out).1, (lnz_cells (w := w7.drew) HX7w.out).2.1, (lnz_cells (w := w7.drew) HX7w.out).2.2.1, (lnz_cells (w := w7.drew) HX7w.out).2.2.2.1, (lnz_cells (w := w7.drew) HX7w.out).2.2.2.2.1, (lnz_cells (w := w7.drew) HX7w.out).2.2.2.2.2⟩ (fun hHeld => ?_)
        refine pure_ (i := 0) (N := some 89) (v := ?_) (a' := ?_) #[T_,F_,F_,F_,F_,F_,F_] rfl rfl (by kernel_rfl) (fun _ _ _ h => h) (Or.inl ⟨by rfl, ?_⟩) ?_ ?_
        rotate_left
        · intro w'
          go_simp
          with_reducible rfl
        rotate_left
        · simp only [Act.put, List.setIfInBounds_toArray, List.set_cons_zero, List.set_cons_succ, i64_w, i32_w]
          rfl
        refine pure_ (i := 1) (N := some 90) (v := ?_) (a' := ?_) #[T_,T_,F_,F_,F_,F_,F_] rfl rfl (by kernel_rfl) (fun _ _ _ h => h) (Or.inl ⟨by rfl, ?_⟩) ?_ ?_
        rotate_left
        · intro w'
          go_simp
          with_reducible rfl
        rotate_left
        · simp only [Act.put, List.setIfInBounds_toArray, List.set_cons_zero, List.set_cons_succ, i64_w, i32_w]
          rfl
        refine pure_ (i := 2) (N := some 91) (v := ?_) (a' := ?_) #[T_,T_,T_,F_,F_,F_,F_] rfl rfl (by kernel_rfl) (fun _ _ _ h => h) (Or.inl ⟨by rfl, ?_⟩) ?_ ?_
        rotate_left
        · intro w'
          go_simp
          with_reducible rfl
        rotate_left
        · simp only [Act.put, List.setIfInBounds_toArray, List.set_cons_zero, List.set_cons_succ, i64_w, i32_w]
          rfl
        refine pure_ (i := 3) (N := some 92) (v := ?_) (a' := ?_) #[T_,T_,T_,T_,F_,F_,F_] rfl rfl (by kernel_rfl) (fun _ _ _ h => h) (Or.inl ⟨by rfl, ?_⟩) ?_ ?_
        rotate_left
        · intro w'
          go_simp
          with_reducible rfl
        rotate_left
        · simp only [Act.put, List.setIfInBounds_toArray, List.set_cons_zero, List.set_cons_succ, i64_w, i32_w]
          rfl
        refine take_ (i := 4) (N := some 93) (v := ?_) (a' := ?_) #[T_,T_,T_,T_,T_,F_,F_] rfl rfl (by kernel_rfl) (fun _ _ _ h => h) (Or.inl ⟨by rfl, ?_⟩) hHeld ?_ ?_
        rotate_left
        · rintro w' ⟨s0, s1, s2, s3, s4, s5⟩
          go_simp
          with_reducible rfl
        rotate_left
        · simp only [Act.put, List.setIfInBounds_toArray, List.set_cons_zero, List.set_cons_succ, i64_w, i32_w]
          rfl
        refine take_ (i := 5) (N := some 94) (v := ?_) (a' := ?_) #[T_,T_,T_,T_,T_,T_,F_] rfl rfl (by kernel_rfl) (fun _ _ _ h => h) (Or.inl ⟨by rfl, ?_⟩) hHeld ?_ ?_
        rotate_left
        · rintro w' ⟨s0, s1, s2, s3, s4, s5⟩
          go_simp
          with_reducible rfl
        rotate_left
        · simp only [Act.put, List.setIfInBounds_toArray, List.set_cons_zero, List.set_cons_succ, i64_w, i32_w]
          rfl
        refine one_ (i := 6) (N := some 95) #[T_,T_,T_,T_,T_,T_,T_] rfl rfl (by kernel_rfl) (by decide) (fun K hK => ?_)
        refine goes_ Tryd.func42 (by kernel_rfl) rfl #[.pointer (some ⟨p, 1, none⟩), .string x.path, .agg #[.string x.path, .int .i64 x.ino, .int .i64 x.size, .int .i64 x.sec, .int .i64 x.nano, .string x.sum]] (by rfl) rfl rfl (by simp only [List.map_toArray, List.map_cons, List.map_nil]; rfl) ?_
        with_reducible refine (HLa.out).mono ?_
        rintro e w8 ⟨rfl, v8, hL8, hB8, _⟩
        refine ⟨_, rfl, ?_⟩
        have HL8 := Aside0.mk hL8
        have hB8k := Aside0.mk hB8
        have HX8 := Aside0.mk (hB8.blk (w := w7.drew) HX7w.out HGX.out.1 HGX.out.2.1)
        clear hL8 hB8
        refine hK.out _ _ ⟨(lnz_cells HX8.out).1, (lnz_cells HX8.out).2.1, (lnz_cells HX8.out).2.2.1, (lnz_cells HX8.out).2.2.2.1, (lnz_cells HX8.out).2.2.2.2.1, (lnz_cells HX8.out).2.2.2.2.2⟩ (fun hHeld => ?_)
        clear hK K
        refine norm_ (a' := ?_) ?_ ?_
        rotate_left
        · show Act.put _ (some 95) _ = _
          simp only [Act.put, List.setIfInBounds_toArray, List.set_cons_zero, List.set_cons_succ, i64_w, i32_w]
          rfl
        refine done_ (by kernel_rfl) ?_
        clear hHeld HLa
        have HP9 : Aside0 (w8.heap[pr]? = some (.cells #[.slice A m c, .int .i64 a2, .int .i64 0] 78 (0, 0))) := ⟨hB8k.out.blk (w := w7.drew) HP7.out HNE.out.1 HNE.out.2.1⟩
        have HS9 := Aside0.mk ((HS7.out.below (below_drew (Below.refl _ _))).bm hB8k.out (.inr (.inl rfl)) (.inr (.inr rfl)))
        have HB9 := Aside0.mk (Bm.to hB8k.out (below_drew HB7.out) (Nat.le_refl _) HNE.out.2.2.2.1 HNE.out.2.2.2.2)
        go_wp2
        go_roundg (N - (i + 1))
        case measure => have := C1.out; omega
        case rel => exact ⟨i + 1, n + 1, a2, 0, v8, S ++ [x], rfl, by first | rfl | rw [hadd], ⟨by have := C1.out; have := HI.out; exact ⟨by omega, by omega, by simp only [List.length_append, List.length_cons, List.length_nil]; omega, fun y hy => by
          rcases List.mem_append.1 hy with hy | hy
          · exact HI.out.2.2.2 y hy
          · rw [List.mem_singleton.1 hy]; exact HMY.out trivial⟩⟩, ⟨⟨fun _ => HE9.out.1 trivial, HE9.out.2⟩⟩, HL8, HP9, HS9, HB9⟩

/-! ### remoraref02_Open: function 43 -/
def remoraref02_Open.f (k : Nat) (l0 : List Int) : Option (List Int × Int) := if (l0.length : Int) < 4 then (some (([] : List Int), 4)) else ((some (([] : List Int) : List Int)).bind fun y242 => (if 0 ≤ (wrap64 ((l0.length : Int) - 4)) then (if (wrap64 ((l0.length : Int) - 4)) ≤ (l0.length : Int) then (if y242.length + (l0.take ((wrap64 ((l0.length : Int) - 4)) : Int).toNat).length < 140737488355328 then ((some (y242 ++ (l0.take ((wrap64 ((l0.length : Int) - 4)) : Int).toNat) : List Int)).bind fun y246 => ((remoraref02_Seal.f k y246).bind fun t249 => (if (strOfNums t249).toList = (strOfNums l0).toList then (some (y246, 0)) else (some (([] : List Int), 6))))) else (none)) else (none)) else (none)))
set_option maxHeartbeats 8000000 in
set_option maxRecDepth 100000 in
theorem remoraref02_Open.calls (k : Nat) (A0 : Option Addr) (c0 : Nat) (l0 : List Int) (r1 : List Int) (r2 : Int) (w : World) (hr0 : Kd.C (Kd.int .u8) w A0 l0.length l0) (hc0 : l0.length ≤ c0) (h : remoraref02_Open.f k l0 = some (r1, r2)) :
    Calls Tryd.prog 43 #[.slice A0 l0.length c0] w fun e w' => ∃ v0_ : Value, e = .returned (.tuple #[v0_, .int .i64 r2]) ∧ Kd.R (Kd.int .u8) 5 w' w.heap.size (fun _ => True) v0_ r1 ∧ Below w.heap.size w w' := by
  have HR0 := Aside0.mk hr0
  have HC0 := Aside0.mk hc0
  clear hr0 hc0
  have HB := Aside0.mk (Below.refl w.heap.size w)
  have H : (if (l0.length : Int) < 4 then (some (([] : List Int), 4)) else ((some (([] : List Int) : List Int)).bind fun y242 => (if 0 ≤ (wrap64 ((l0.length : Int) - 4)) then (if (wrap64 ((l0.length : Int) - 4)) ≤ (l0.length : Int) then (if y242.length + (l0.take ((wrap64 ((l0.length : Int) - 4)) : Int).toNat).length < 140737488355328 then ((some (y242 ++ (l0.take ((wrap64 ((l0.length : Int) - 4)) : Int).toNat) : List Int)).bind fun y246 => ((remoraref02_Seal.f k y246).bind fun t249 => (if (strOfNums t249).toList = (strOfNums l0).toList then (some (y246, 0)) else (some (([] : List Int), 6))))) else (none)) else (none)) else (none)))) = some (r1, r2) := h
  clear h
  by_cases c2 : (l0.length : Int) < 4
  · rw [if_pos c2] at H
    have c2b0 : decide ((l0.length : Int) < 4) = true := decide_eq_true c2
    have c2b1 : decide (l0.length < 4) = true := decide_eq_true (by omega)
    clear c2
    simp only [Option.some.injEq, Prod.mk.injEq] at H
    obtain ⟨rfl, rfl⟩ := H
    go_enter Tryd.func43, Tryd.ntmps43
    go_wp2
    go_ret2
    exact ⟨_, by first | rfl | (simp [errW_none, errW_some] <;> rfl) | (simp [*, errW_none, errW_some] <;> rfl), by first | exact Kd.R_nil _ _ _ _ _ | exact Kd.N_nil _ _ _ _ _ | exact Kd.V_nil _ _ _ _ _ | exact Kd.Q_nil _ _ _ _ _ | exact Kd.S_nil _ _ _ _ _, by repeat (first | (with_reducible first | exact HB.out | apply below_alloc | apply pw_below_drewN | apply below_drew1) | exact HB.out)⟩
  · rw [if_neg c2] at H
    have c2b0 : decide ((l0.length : Int) < 4) = false := decide_eq_false c2
    have c2b1 : decide (l0.length < 4) = false := decide_eq_false (by omega)
    clear c2
    obtain ⟨y242, hy242⟩ : ∃ y_ : List Int, y_ = (([] : List Int)) := ⟨_, rfl⟩
    replace H : (if 0 ≤ (wrap64 ((l0.length : Int) - 4)) then (if (wrap64 ((l0.length : Int) - 4)) ≤ (l0.length : Int) then (if y242.length + (l0.take ((wrap64 ((l0.length : Int) - 4)) : Int).toNat).length < 140737488355328 then ((some (y242 ++ (l0.take ((wrap64 ((l0.length : Int) - 4)) : Int).toNat) : List Int)).bind fun y246 => ((remoraref02_Seal.f k y246).bind fun t249 => (if (strOfNums t249).toList = (strOfNums l0).toList then (some (y246, 0)) else (some (([] : List Int), 6))))) else (none)) else (none)) else (none)) = some (r1, r2) := by first | (rw [hy242]; with_reducible exact H) | (have H2_ := (Option.bind_some _ _).symm.trans H; rw [hy242]; with_reducible exact H2_) | (have H2_ := (Option.bind_some _ _).symm.trans H; with_reducible exact H2_) | with_reducible exact H | (rw [hy242]; exact H) | exact H
    have Ny242 := Aside0.mk hy242
    clear hy242
    obtain ⟨ji3, hji3⟩ : ∃ j_ : Int, (wrap64 ((l0.length : Int) - 4)) = j_ := ⟨_, rfl⟩
    replace H : (if 0 ≤ (ji3) then (if (ji3) ≤ (l0.length : Int) then (if y242.length + (l0.take ((ji3) : Int).toNat).length < 140737488355328 then ((some (y242 ++ (l0.take ((ji3) : Int).toNat) : List Int)).bind fun y246 => ((remoraref02_Seal.f k y246).bind fun t249 => (if (strOfNums t249).toList = (strOfNums l0).toList then (some (y246, 0)) else (some (([] : List Int), 6))))) else (none)) else (none)) else (none)) = some (r1, r2) := by first | (rw [hji3] at H; exact H) | (simp only [hji3] at H ⊢; exact H)
    have hji3w : (IntKind.i64.wrap ((l0.length : Int) - 4)) = ji3 := (i64_w _).trans hji3
    by_cases c4 : 0 ≤ (ji3)
    · rw [if_pos c4] at H
      have c4b0 := eq_true c4
      have c4b1 : decide (0 ≤ (ji3)) = true := decide_eq_true c4
      clear c4
      by_cases c5 : (ji3) ≤ (l0.length : Int)
      · rw [if_pos c5] at H
        have c5b0 := eq_true c5
        have c5b1 : decide ((ji3) ≤ (l0.length : Int)) = true := decide_eq_true c5
        clear c5
        by_cases c6 : y242.length + (l0.take ((ji3) : Int).toNat).length < 140737488355328
        · rw [if_pos c6] at H
          have LMc6 := Aside0.mk c6
          clear c6
          obtain ⟨y246, hy246⟩ : ∃ y_ : List Int, y_ = (y242 ++ (l0.take ((ji3) : Int).toNat)) := ⟨_, rfl⟩
          replace H : ((remoraref02_Seal.f k y246).bind fun t249 => (if (strOfNums t249).toList = (strOfNums l0).toList then (some (y246, 0)) else (some (([] : List Int), 6)))) = some (r1, r2) := by first | (rw [hy246]; with_reducible exact H) | (have H2_ := (Option.bind_some _ _).symm.trans H; rw [hy246]; with_reducible exact H2_) | (have H2_ := (Option.bind_some _ _).symm.trans H; with_reducible exact H2_) | with_reducible exact H | (rw [hy246]; exact H) | exact H
          have Ny246 := Aside0.mk hy246
          clear hy246
          replace H := Option.bind_eq_some_iff.mp H
          obtain ⟨t249, A70, H⟩ := H
          replace H : (if (strOfNums t249).toList = (strOfNums l0).toList then (some (y246, 0)) else (some (([] : List Int), 6))) = some (r1, r2) := H
          have A7 := Aside0.mk A70
          clear A70
          by_cases c8 : (strOfNums t249).toList = (strOfNums l0).toList
          · rw [if_pos c8] at H
            have c8b0 : ((strOfNums t249).toList == (strOfNums l0).toList) = true := beq_iff_eq.mpr c8
            have c8b1 : ((strOfNums t249).toList != (strOfNums l0).toList) = false := bne_eq_false_iff_eq.mpr c8
            clear c8
            simp only [Option.some.injEq, Prod.mk.injEq] at H
            obtain ⟨rfl, rfl⟩ := H
            go_enter Tryd.func43, Tryd.ntmps43
            try go_wp2_with (first | ((with_reducible refine gate_dst (N := 8) rfl ?_); refine Kd.R_lit (Kd.int .u8) _ 5 ?hg (N := 8) ?hd (xs := ([] : List Int)) (inner := []) (ok := fun _ => True) (okp := fun _ => True) ?hr ?hp (fun _ hk => hk) trivial (Below.refl _ _) (Nat.le_refl _) (by simp) ?_; (case hd => rfl); (case hg => rfl); (case hr => first | (go_simp; done) | (go_simp; rfl)); (case hp => exact (Reps.none _ _)); intro v243 w9 ho10 hb hg_ hnew_; clear hg_ hnew_; (first | rw [← Ny242.out] at ho10 | (simp only [Int.reduceToNat] at ho10; rw [← Ny242.out] at ho10)); have n0_ := Aside0.mk (Kd.R_lower ho10 (below_size (by repeat (first | (with_reducible first | exact HB.out | apply below_alloc | apply pw_below_drewN | apply below_drew1) | exact HB.out)))); have n1_ := Aside0.mk (below_step (by repeat (first | (with_reducible first | exact HB.out | apply below_alloc | apply pw_below_drewN | apply below_drew1) | exact HB.out)) hb); clear HB; have HO244 := n0_; have HB := n1_; clear n0_ n1_; clear hb ho10; obtain ⟨i011, hi011, _, hsz11, _⟩ := info_parts info5; obtain ⟨hcut11, hA11, hC11⟩ := print_take_of (P := Tryd.prog) (Value.int .u8) 0 41 5 .i64 Tryd.underlying41 hi011 hsz11 A0 c0 l0 (ji3) (of_decide_eq_true (by first | (with_reducible assumption) | assumption)) (of_decide_eq_true (by first | (with_reducible assumption) | assumption)) HC0.out; have HR245 := Aside0.mk (Kd.C_of_reads (h1 := fun _ => rfl) (hA11 _ (Kd.reads_of_C HR0.out))); have HC245 := Aside0.mk hC11; clear hA11 hC11 hi011 hsz11) | ((with_reducible refine gate_builtin (b := .append) (xs := #[.tmp 8, .tmp 13]) rfl ?_); at_builtin; refine Kd.R_append_rows (Kd.int .u8) (w0 := w) w.heap.size rfl (.tmp 8) (.tmp 13) 41 5 (.int .u8 0) 1 rfl Tryd.underlying41 info5 rfl (by decide) (by omega) v243 y242 (l0.take ((ji3) : Int).toNat) _ _ _ (fun _ => True) (fun _ => False) rfl rfl ?aO ?aR (fun _ _ h => h) (fun _ h => h.elim) ?aF ?aB ?aS ?aL ?_; (case aR => have q_ : (l0.take ((ji3) : Int).toNat).length = (ji3).toNat := (by rw [List.length_take]; have h_ : ((ji3) : Int) ≤ (l0.length : Int) := of_decide_eq_true (by first | (with_reducible assumption) | assumption); omega); first | (refine Kd.C_len2 q_ ?_; repeat (first | exact (Kd.C_below HR245.out HB.out) | (with_reducible refine Kd.C_alloc ?_ _) | (with_reducible refine Kd.C_drewN ?_ _) | (with_reducible refine Kd.C_drew ?_)); done) | (rw [← q_]; repeat (first | exact (Kd.C_below HR245.out HB.out) | (with_reducible refine Kd.C_alloc ?_ _) | (with_reducible refine Kd.C_drewN ?_ _) | (with_reducible refine Kd.C_drew ?_)); done) | (repeat (first | exact (Kd.C_below HR245.out HB.out) | (with_reducible refine Kd.C_alloc ?_ _) | (with_reducible refine Kd.C_drewN ?_ _) | (with_reducible refine Kd.C_drew ?_)))); (case aB => exact (by repeat (first | (with_reducible first | exact HB.out | apply below_alloc | apply pw_below_drewN | apply below_drew1) | exact HB.out))); (case aF => exact (fun _ _ => trivial)); (case aO => exact (by (with_reducible repeat (first | apply Kd.R_alloc | apply Kd.R_drewN | apply Kd.R_drew)); exact HO244.out)); (case aS => exact (below_size (by repeat (first | (with_reducible first | exact HB.out | apply below_alloc | apply pw_below_drewN | apply below_drew1) | exact HB.out)))); (case aL => have := LMc6.out; have hlx_ := (show (l0.take ((ji3) : Int).toNat).length = (ji3).toNat from (by rw [List.length_take]; have h_ : ((ji3) : Int) ≤ (l0.length : Int) := of_decide_eq_true (by first | (with_reducible assumption) | assumption); omega)); omega); intro v247 w12 ho hb hg hat; rw [← Ny246.out] at ho; have n0_ := Aside0.mk (hb); have n1_ := Aside0.mk (ho); clear HB; clear HO244; have HB := n0_; have HO248 := n1_; clear n0_ n1_; clear ho hb hg hat; obtain ⟨Ao13, co13, eo13⟩ := Kd.R_slice HO248.out; subst eo13))
            have n0_ := Aside0.mk (Kd.R_drew HO248.out)
            have n1_ := Aside0.mk (below_drew1 HB.out)
            clear HO248
            clear HB
            have HO248 := n0_
            have HB := n1_
            clear n0_ n1_
            refine start_ (n := 6) (S := fun w' => (convert 41 9 (.slice A0 l0.length c0 : Value)).run Tryd.prog w' = .ok (.string (strOfNums l0)) w') (ds := []) #[F_,F_,F_,F_,F_,F_] (by kernel_rfl) rfl rfl ((Kd.C_string (P := Tryd.prog) (A := A0) (c := c0) Tryd.underlying41 Tryd.underlying5 Tryd.underlying9 (Kd.C_below HR0.out HB.out))) (fun hHeld => ?_)
            generalize w12.drew = w14 at HO248 HB hHeld ⊢
            refine pure_ (i := 0) (N := some 15) (v := ?_) (a' := ?_) #[T_,F_,F_,F_,F_,F_] rfl rfl (by kernel_rfl) (fun _ _ _ h => h) (Or.inl ⟨by rfl, ?_⟩) ?_ ?_
            rotate_left
            · intro w'
              go_simp
              with_reducible rfl
            rotate_left
            · simp only [Act.put, List.setIfInBounds_toArray, List.set_cons_zero, List.set_cons_succ, i64_w, i32_w]
              rfl
            refine pure_ (i := 3) (N := some 18) (v := ?_) (a' := ?_) #[T_,F_,F_,T_,F_,F_] rfl rfl (by kernel_rfl) (fun _ _ _ h => h) (Or.inl ⟨by rfl, ?_⟩) ?_ ?_
            rotate_left
            · intro w'
              go_simp
              with_reducible rfl
            rotate_left
            · simp only [Act.put, List.setIfInBounds_toArray, List.set_cons_zero, List.set_cons_succ, i64_w, i32_w]
              rfl
            refine take_ (i := 4) (N := some 19) (v := ?_) (a' := ?_) #[T_,F_,F_,T_,T_,F_] rfl rfl (by kernel_rfl) (fun _ _ _ h => h) (Or.inl ⟨by rfl, ?_⟩) hHeld ?_ ?_
            rotate_left
            · intro w' s0
              go_simp
              with_reducible rfl
            rotate_left
            · simp only [Act.put, List.setIfInBounds_toArray, List.set_cons_zero, List.set_cons_succ, i64_w, i32_w]
              rfl
            refine one_ (i := 1) (N := some 16) #[T_,T_,F_,T_,T_,F_] rfl rfl (by kernel_rfl) (by decide) (fun K hK => ?_)
            refine goes_ Tryd.func20 (by kernel_rfl) rfl #[.slice Ao13 y246.length co13] (by rfl) rfl rfl (by (try simp only [List.map_toArray, List.map_cons, List.map_nil]); first | done | rfl | (simp only [List.length_drop, List.length_take]; rfl) | (simp; done) | (simp; (repeat' apply And.intro) <;> rfl)) ?_
            with_reducible refine (remoraref02_Seal.calls k (fun k_ => some k_ = (.slice Ao13 y246.length co13 : Value).ownBlock) _ _ y246 t249 _ ?side1 A7.out).mono ?_
            (case side1 => exact Kd.R_V (Kd.R_tight rfl (HO248.out)))
            rintro e w15 ⟨v250, rfl, ho0, hb⟩
            refine ⟨_, rfl, ?_⟩
            have n0_ := Aside0.mk (Kd.R_elder' (by (with_reducible repeat (first | apply Kd.R_alloc | apply Kd.R_drewN | apply Kd.R_drew)); exact HO248.out) (Kd.R_base ho0) hb)
            have n1_ := Aside0.mk (Kd.R_lower (Kd.R_new' (Kd.R_mono (ok' := fun k_ => True) ho0 (fun _ hk_ => trivial)) (Kd.R_lt (by (with_reducible repeat (first | apply Kd.R_alloc | apply Kd.R_drewN | apply Kd.R_drew)); exact HO248.out))) (below_size (by repeat (first | (with_reducible first | exact HB.out | apply below_alloc | apply pw_below_drewN | apply below_drew1) | exact HB.out))))
            have n2_ := Aside0.mk (below_step (by repeat (first | (with_reducible first | exact HB.out | apply below_alloc | apply pw_below_drewN | apply below_drew1) | exact HB.out)) hb)
            clear HO248
            clear HB
            have HO248 := n0_
            have HO251 := n1_
            have HB := n2_
            clear n0_ n1_ n2_
            (try clear hb)
            (try clear hb2)
            (try clear hk)
            (try clear hi)
            (try clear ho0)
            refine hK.out _ _ ((Kd.C_string (P := Tryd.prog) (A := A0) (c := c0) Tryd.underlying41 Tryd.underlying5 Tryd.underlying9 (Kd.C_below HR0.out HB.out))) (fun hHeld => ?_)
            clear hK K
            refine norm_ (a' := ?_) ?_ ?_
            rotate_left
            · show Act.put _ (some 16) _ = _
              simp only [Act.put, List.setIfInBounds_toArray, List.set_cons_zero, List.set_cons_succ, i64_w, i32_w]
              rfl
            refine one_ (i := 2) (N := some 17) #[T_,T_,T_,T_,T_,F_] rfl rfl (by kernel_rfl) (by decide) (fun K hK => ?_)
            have hcv16 := own_string (P := Tryd.prog) Tryd.underlying41 Tryd.underlying5 Tryd.underlying9 (Kd.own_of_R HO251.out)
            refine value_ (w1 := ?_) (v := ?_) (by rfl) rfl ?_ ?_
            rotate_left 2
            · go_simp
              constructor
              · rfl
              · rfl
            clear hcv16
            refine hK.out _ _ ((Kd.C_string (P := Tryd.prog) (A := A0) (c := c0) Tryd.underlying41 Tryd.underlying5 Tryd.underlying9 (Kd.C_below HR0.out HB.out))) (fun hHeld => ?_)
            clear hK K
            refine norm_ (a' := ?_) ?_ ?_
            rotate_left
            · show Act.put _ (some 17) _ = _
              simp only [Act.put, List.setIfInBounds_toArray, List.set_cons_zero, List.set_cons_succ, i64_w, i32_w]
              rfl
            refine pure_ (i := 5) (N := some 20) (v := ?_) (a' := ?_) #[T_,T_,T_,T_,T_,T_] rfl rfl (by kernel_rfl) (fun _ _ _ h => h) (Or.inl ⟨by rfl, ?_⟩) ?_ ?_
            rotate_left
            · intro w'
              go_simp
              with_reducible rfl
            rotate_left
            · simp only [Act.put, List.setIfInBounds_toArray, List.set_cons_zero, List.set_cons_succ, i64_w, i32_w]
              rfl
            refine done_ (by kernel_rfl) ?_
            try go_wp2
            go_ret2
            exact ⟨_, by first | rfl | (simp [errW_none, errW_some] <;> rfl) | (simp only [← hji3]; first | rfl | (simp [errW_none, errW_some] <;> rfl)) | (simp [*, errW_none, errW_some] <;> rfl), by (with_reducible repeat (first | apply Kd.R_alloc | apply Kd.R_drewN | apply Kd.R_drew)); exact Kd.R_mono HO248.out (fun _ hk => trivial), by repeat (first | (with_reducible first | exact HB.out | apply below_alloc | apply pw_below_drewN | apply below_drew1) | exact HB.out)⟩
          · rw [if_neg c8] at H
            have c8b0 : ((strOfNums t249).toList == (strOfNums l0).toList) = false := beq_eq_false_iff_ne.mpr c8
            have c8b1 : ((strOfNums t249).toList != (strOfNums l0).toList) = true := bne_iff_ne.mpr c8
            simp only [Option.some.injEq, Prod.mk.injEq] at H
            obtain ⟨rfl, rfl⟩ := H
            go_enter Tryd.func43, Tryd.ntmps43
            try go_wp2_with (first | ((with_reducible refine gate_dst (N := 8) rfl ?_); refine Kd.R_lit (Kd.int .u8) _ 5 ?hg (N := 8) ?hd (xs := ([] : List Int)) (inner := []) (ok := fun _ => True) (okp := fun _ => True) ?hr ?hp (fun _ hk => hk) trivial (Below.refl _ _) (Nat.le_refl _) (by simp) ?_; (case hd => rfl); (case hg => rfl); (case hr => first | (go_simp; done) | (go_simp; rfl)); (case hp => exact (Reps.none _ _)); intro v243 w18 ho19 hb hg_ hnew_; clear hg_ hnew_; (first | rw [← Ny242.out] at ho19 | (simp only [Int.reduceToNat] at ho19; rw [← Ny242.out] at ho19)); have n0_ := Aside0.mk (Kd.R_lower ho19 (below_size (by repeat (first | (with_reducible first | exact HB.out | apply below_alloc | apply pw_below_drewN | apply below_drew1) | exact HB.out)))); have n1_ := Aside0.mk (below_step (by repeat (first | (with_reducible first | exact HB.out | apply below_alloc | apply pw_below_drewN | apply below_drew1) | exact HB.out)) hb); clear HB; have HO244 := n0_; have HB := n1_; clear n0_ n1_; clear hb ho19; obtain ⟨i020, hi020, _, hsz20, _⟩ := info_parts info5; obtain ⟨hcut20, hA20, hC20⟩ := print_take_of (P := Tryd.prog) (Value.int .u8) 0 41 5 .i64 Tryd.underlying41 hi020 hsz20 A0 c0 l0 (ji3) (of_decide_eq_true (by first | (with_reducible assumption) | assumption)) (of_decide_eq_true (by first | (with_reducible assumption) | assumption)) HC0.out; have HR245 := Aside0.mk (Kd.C_of_reads (h1 := fun _ => rfl) (hA20 _ (Kd.reads_of_C HR0.out))); have HC245 := Aside0.mk hC20; clear hA20 hC20 hi020 hsz20; (try (have e_ := (hcut20 w).symm.trans (hcut11 w); injection e_ with e1_ e2_; injection e1_ with e3_ e4_ e5_; subst e3_)); (try (have e_ := (hcut20 w).symm.trans (hcut11 w); injection e_ with e1_ e2_; injection e1_ with e3_ e4_ e5_; subst e3_)); (try (have e_ := (hcut20 w).symm.trans (hcut11 w); injection e_ with e1_ e2_; injection e1_ with e3_ e4_ e5_; subst e3_)); (try (have e_ := (hcut20 w).symm.trans (hcut11 w); injection e_ with e1_ e2_; injection e1_ with e3_ e4_ e5_; subst e3_))) | ((with_reducible refine gate_builtin (b := .append) (xs := #[.tmp 8, .tmp 13]) rfl ?_); at_builtin; refine Kd.R_append_rows (Kd.int .u8) (w0 := w) w.heap.size rfl (.tmp 8) (.tmp 13) 41 5 (.int .u8 0) 1 rfl Tryd.underlying41 info5 rfl (by decide) (by omega) v243 y242 (l0.take ((ji3) : Int).toNat) _ _ _ (fun _ => True) (fun _ => False) rfl rfl ?aO ?aR (fun _ _ h => h) (fun _ h => h.elim) ?aF ?aB ?aS ?aL ?_; (case aR => have q_ : (l0.take ((ji3) : Int).toNat).length = (ji3).toNat := (by rw [List.length_take]; have h_ : ((ji3) : Int) ≤ (l0.length : Int) := of_decide_eq_true (by first | (with_reducible assumption) | assumption); omega); first | (refine Kd.C_len2 q_ ?_; repeat (first | exact (Kd.C_below HR245.out HB.out) | (with_reducible refine Kd.C_alloc ?_ _) | (with_reducible refine Kd.C_drewN ?_ _) | (with_reducible refine Kd.C_drew ?_)); done) | (rw [← q_]; repeat (first | exact (Kd.C_below HR245.out HB.out) | (with_reducible refine Kd.C_alloc ?_ _) | (with_reducible refine Kd.C_drewN ?_ _) | (with_reducible refine Kd.C_drew ?_)); done) | (repeat (first | exact (Kd.C_below HR245.out HB.out) | (with_reducible refine Kd.C_alloc ?_ _) | (with_reducible refine Kd.C_drewN ?_ _) | (with_reducible refine Kd.C_drew ?_)))); (case aB => exact (by repeat (first | (with_reducible first | exact HB.out | apply below_alloc | apply pw_below_drewN | apply below_drew1) | exact HB.out))); (case aF => exact (fun _ _ => trivial)); (case aO => exact (by (with_reducible repeat (first | apply Kd.R_alloc | apply Kd.R_drewN | apply Kd.R_drew)); exact HO244.out)); (case aS => exact (below_size (by repeat (first | (with_reducible first | exact HB.out | apply below_alloc | apply pw_below_drewN | apply below_drew1) | exact HB.out)))); (case aL => have := LMc6.out; have hlx_ := (show (l0.take ((ji3) : Int).toNat).length = (ji3).toNat from (by rw [List.length_take]; have h_ : ((ji3) : Int) ≤ (l0.length : Int) := of_decide_eq_true (by first | (with_reducible assumption) | assumption); omega)); omega); intro v247 w21 ho hb hg hat; rw [← Ny246.out] at ho; have n0_ := Aside0.mk (hb); have n1_ := Aside0.mk (ho); clear HB; clear HO244; have HB := n0_; have HO248 := n1_; clear n0_ n1_; clear ho hb hg hat; obtain ⟨Ao22, co22, eo22⟩ := Kd.R_slice HO248.out; subst eo22))
            have n0_ := Aside0.mk (Kd.R_drew HO248.out)
            have n1_ := Aside0.mk (below_drew1 HB.out)
            clear HO248
            clear HB
            have HO248 := n0_
            have HB := n1_
            clear n0_ n1_
            refine start_ (n := 6) (S := fun w' => (convert 41 9 (.slice A0 l0.length c0 : Value)).run Tryd.prog w' = .ok (.string (strOfNums l0)) w') (ds := []) #[F_,F_,F_,F_,F_,F_] (by kernel_rfl) rfl rfl ((Kd.C_string (P := Tryd.prog) (A := A0) (c := c0) Tryd.underlying41 Tryd.underlying5 Tryd.underlying9 (Kd.C_below HR0.out HB.out))) (fun hHeld => ?_)
            generalize w21.drew = w23 at HO248 HB hHeld ⊢
            refine pure_ (i := 0) (N := some 15) (v := ?_) (a' := ?_) #[T_,F_,F_,F_,F_,F_] rfl rfl (by kernel_rfl) (fun _ _ _ h => h) (Or.inl ⟨by rfl, ?_⟩) ?_ ?_
            rotate_left
            · intro w'
              go_simp
              with_reducible rfl
            rotate_left
            · simp only [Act.put, List.setIfInBounds_toArray, List.set_cons_zero, List.set_cons_succ, i64_w, i32_w]
              rfl
            refine pure_ (i := 3) (N := some 18) (v := ?_) (a' := ?_) #[T_,F_,F_,T_,F_,F_] rfl rfl (by kernel_rfl) (fun _ _ _ h => h) (Or.inl ⟨by rfl, ?_⟩) ?_ ?_
            rotate_left
            · intro w'
              go_simp
              with_reducible rfl
            rotate_left
            · simp only [Act.put, List.setIfInBounds_toArray, List.set_cons_zero, List.set_cons_succ, i64_w, i32_w]
              rfl
            refine take_ (i := 4) (N := some 19) (v := ?_) (a' := ?_) #[T_,F_,F_,T_,T_,F_] rfl rfl (by kernel_rfl) (fun _ _ _ h => h) (Or.inl ⟨by rfl, ?_⟩) hHeld ?_ ?_
            rotate_left
            · intro w' s0
              go_simp
              with_reducible rfl
            rotate_left
            · simp only [Act.put, List.setIfInBounds_toArray, List.set_cons_zero, List.set_cons_succ, i64_w, i32_w]
              rfl
            refine one_ (i := 1) (N := some 16) #[T_,T_,F_,T_,T_,F_] rfl rfl (by kernel_rfl) (by decide) (fun K hK => ?_)
            refine goes_ Tryd.func20 (by kernel_rfl) rfl #[.slice Ao22 y246.length co22] (by rfl) rfl rfl (by (try simp only [List.map_toArray, List.map_cons, List.map_nil]); first | done | rfl | (simp only [List.length_drop, List.length_take]; rfl) | (simp; done) | (simp; (repeat' apply And.intro) <;> rfl)) ?_
            with_reducible refine (remoraref02_Seal.calls k (fun k_ => some k_ = (.slice Ao22 y246.length co22 : Value).ownBlock) _ _ y246 t249 _ ?side1 A7.out).mono ?_
            (case side1 => exact Kd.R_V (Kd.R_tight rfl (HO248.out)))
            rintro e w24 ⟨v250, rfl, ho0, hb⟩
            refine ⟨_, rfl, ?_⟩
            have n0_ := Aside0.mk (Kd.R_elder' (by (with_reducible repeat (first | apply Kd.R_alloc | apply Kd.R_drewN | apply Kd.R_drew)); exact HO248.out) (Kd.R_base ho0) hb)
            have n1_ := Aside0.mk (Kd.R_lower (Kd.R_new' (Kd.R_mono (ok' := fun k_ => True) ho0 (fun _ hk_ => trivial)) (Kd.R_lt (by (with_reducible repeat (first | apply Kd.R_alloc | apply Kd.R_drewN | apply Kd.R_drew)); exact HO248.out))) (below_size (by repeat (first | (with_reducible first | exact HB.out | apply below_alloc | apply pw_below_drewN | apply below_drew1) | exact HB.out))))
            have n2_ := Aside0.mk (below_step (by repeat (first | (with_reducible first | exact HB.out | apply below_alloc | apply pw_below_drewN | apply below_drew1) | exact HB.out)) hb)
            clear HO248
            clear HB
            have HO248 := n0_
            have HO251 := n1_
            have HB := n2_
            clear n0_ n1_ n2_
            (try clear hb)
            (try clear hb2)
            (try clear hk)
            (try clear hi)
            (try clear ho0)
            refine hK.out _ _ ((Kd.C_string (P := Tryd.prog) (A := A0) (c := c0) Tryd.underlying41 Tryd.underlying5 Tryd.underlying9 (Kd.C_below HR0.out HB.out))) (fun hHeld => ?_)
            clear hK K
            refine norm_ (a' := ?_) ?_ ?_
            rotate_left
            · show Act.put _ (some 16) _ = _
              simp only [Act.put, List.setIfInBounds_toArray, List.set_cons_zero, List.set_cons_succ, i64_w, i32_w]
              rfl
            refine one_ (i := 2) (N := some 17) #[T_,T_,T_,T_,T_,F_] rfl rfl (by kernel_rfl) (by decide) (fun K hK => ?_)
            have hcv25 := own_string (P := Tryd.prog) Tryd.underlying41 Tryd.underlying5 Tryd.underlying9 (Kd.own_of_R HO251.out)
            refine value_ (w1 := ?_) (v := ?_) (by rfl) rfl ?_ ?_
            rotate_left 2
            · go_simp
              constructor
              · rfl
              · rfl
            clear hcv25
            refine hK.out _ _ ((Kd.C_string (P := Tryd.prog) (A := A0) (c := c0) Tryd.underlying41 Tryd.underlying5 Tryd.underlying9 (Kd.C_below HR0.out HB.out))) (fun hHeld => ?_)
            clear hK K
            refine norm_ (a' := ?_) ?_ ?_
            rotate_left
            · show Act.put _ (some 17) _ = _
              simp only [Act.put, List.setIfInBounds_toArray, List.set_cons_zero, List.set_cons_succ, i64_w, i32_w]
              rfl
            refine pure_ (i := 5) (N := some 20) (v := ?_) (a' := ?_) #[T_,T_,T_,T_,T_,T_] rfl rfl (by kernel_rfl) (fun _ _ _ h => h) (Or.inl ⟨by rfl, ?_⟩) ?_ ?_
            rotate_left
            · intro w'
              go_simp
              with_reducible rfl
            rotate_left
            · simp only [Act.put, List.setIfInBounds_toArray, List.set_cons_zero, List.set_cons_succ, i64_w, i32_w]
              rfl
            refine done_ (by kernel_rfl) ?_
            try go_wp2
            go_ret2
            exact ⟨_, by first | rfl | (simp [errW_none, errW_some] <;> rfl) | (simp only [← hji3]; first | rfl | (simp [errW_none, errW_some] <;> rfl)) | (simp [*, errW_none, errW_some] <;> rfl), by first | exact Kd.R_nil _ _ _ _ _ | exact Kd.N_nil _ _ _ _ _ | exact Kd.V_nil _ _ _ _ _ | exact Kd.Q_nil _ _ _ _ _ | exact Kd.S_nil _ _ _ _ _, by repeat (first | (with_reducible first | exact HB.out | apply below_alloc | apply pw_below_drewN | apply below_drew1) | exact HB.out)⟩
        · rw [if_neg c6] at H
          exact absurd H (by simp)
      · rw [if_neg c5] at H
        exact absurd H (by simp)
    · rw [if_neg c4] at H
      exact absurd H (by simp)
/-- A state of type 86 at block g of W; what its slices lead to came in by w0. -/
def IsS86 (w0 W : World) (g : Nat) (f0 : List Int) (f1 : Int) (f2 : Int) : Prop := ∃ A0 c0, W.heap[g]? = some (.cells #[.slice A0 f0.length c0, .int .i64 f1, .int .i64 f2] 86 (0, 0)) ∧ w0.heap.size ≤ g ∧ Kd.C (Kd.int .u8) w0 A0 f0.length f0
theorem IsS86.grown {w0 W : World} {g : Nat} {f0 : List Int} {f1 : Int} {f2 : Int} {W1 : World} {row : Option Nat} (h : IsS86 w0 W g f0 f1 f2) (hw : W.grownBy W1 row) (hne : some g ≠ row) : IsS86 w0 W1 g f0 f1 f2 := by
  obtain ⟨A0, c0, hb, hg, hr0⟩ := h
  exact ⟨A0, c0, blk_grown hb hw hne, hg, hr0⟩
theorem IsS86.kept {w0 W : World} {g : Nat} {f0 : List Int} {f1 : Int} {f2 : Int} {W1 : World} {S : Nat → Prop} (h : IsS86 w0 W g f0 f1 f2) (hk : Kept W W1 S) (hne : ¬ S g) : IsS86 w0 W1 g f0 f1 f2 := by
  obtain ⟨A0, c0, hb, hg, hr0⟩ := h
  exact ⟨A0, c0, blk_kept hb hk hne, hg, hr0⟩
theorem IsS86.below {w0 W : World} {g : Nat} {f0 : List Int} {f1 : Int} {f2 : Int} {W1 : World} (h : IsS86 w0 W g f0 f1 f2) (hw : Below W.heap.size W W1) : IsS86 w0 W1 g f0 f1 f2 := h.grown (grown_of_below hw none) (by simp)
theorem IsS86.alloc {w0 W : World} {g : Nat} {f0 : List Int} {f1 : Int} {f2 : Int} (h : IsS86 w0 W g f0 f1 f2) (o : Obj) : IsS86 w0 (W.alloc o) g f0 f1 f2 := h.below (below_alloc (Below.refl _ _) o)
theorem IsS86.drewN {w0 W : World} {g : Nat} {f0 : List Int} {f1 : Int} {f2 : Int} (h : IsS86 w0 W g f0 f1 f2) (m : Nat) : IsS86 w0 (W.drewN m) g f0 f1 f2 := h
theorem IsS86.drew {w0 W : World} {g : Nat} {f0 : List Int} {f1 : Int} {f2 : Int} (h : IsS86 w0 W g f0 f1 f2) : IsS86 w0 W.drew g f0 f1 f2 := h
theorem IsS86.at_ {w0 W : World} {g : Nat} {f0 : List Int} {f1 : Int} {f2 : Int} {w' : World} {m : Nat} (hq : W.drewN m = w') (h : IsS86 w0 W g f0 f1 f2) : IsS86 w0 w' g f0 f1 f2 := by subst hq; exact IsS86.drewN h m
theorem IsS86.lt {w0 W : World} {g : Nat} {f0 : List Int} {f1 : Int} {f2 : Int} (h : IsS86 w0 W g f0 f1 f2) : g < W.heap.size := by
  obtain ⟨A0, c0, hb, hg, hr0⟩ := h
  exact blk_lt hb
theorem IsS86.far {w0 W : World} {g : Nat} {f0 : List Int} {f1 : Int} {f2 : Int} {p : Addr} (h : IsS86 w0 W g f0 f1 f2) (hne : g ≠ p.block) (u : Value) : IsS86 w0 (W.setCell p u) g f0 f1 f2 := by
  obtain ⟨A0, c0, hb, hg, hr0⟩ := h
  exact ⟨A0, c0, blk_far hb hne u, hg, hr0⟩
/-! ### remoraref01_Get: function 67 -/
mutual
def remoraref01_Get.j0 : Nat → List Int → Int → Bool → Option (Int × Int × Int)
  | 0, _, _, _ => none
  | k + 1, x0, x1, x17 => if x17 = true then (some (0, 0, 3)) else (remoraref01_Get.l0 k x0 x1 x1)
def remoraref01_Get.j2 : Nat → List Int → Int → Int → Option (Int × Int × Int)
  | 0, _, _, _ => none
  | k + 1, x0, x1, x7 => if (wrap64 (x7 - x1)) = 9 then (some (0, 0, 5)) else (if x7 = (x0.length : Int) then (some (0, 0, 4)) else (if 0 ≤ x7 then (if x7 < (x0.length : Int) then (if (rd x0 x7) = 0 then (remoraref01_Get.j3 k x0 x1 x7 (decide (x7 > x1))) else (remoraref01_Get.j3 k x0 x1 x7 false)) else (none)) else (none)))
def remoraref01_Get.j3 : Nat → List Int → Int → Int → Bool → Option (Int × Int × Int)
  | 0, _, _, _, _ => none
  | k + 1, x0, x1, x7, x55 => if x55 = true then (some (0, 0, 5)) else (remoraref01_Get.l1 k x0 x1 x7 0 x7)
def remoraref01_Get.l1 : Nat → List Int → Int → Int → Int → Int → Option (Int × Int × Int)
  | 0, _, _, _, _, _ => none
  | k + 1, x0, x1, x7, x8, x9 => if x9 ≥ x1 then (if x8 > 36028797018963967 then (some (0, 0, 7)) else (if 0 ≤ x9 then (if x9 < (x0.length : Int) then (remoraref01_Get.l1 k x0 x1 x7 (wrap64 ((wrap64 (128 * x8)) + (wrap64 (Int.tmod (rd x0 x9) 128)))) (wrap64 (x9 - 1))) else (none)) else (none))) else (if x8 > 4611686018427387903 then (some (0, 0, 7)) else (some (x8, wrap64 (x7 + 1), 0)))
def remoraref01_Get.l0 : Nat → List Int → Int → Int → Option (Int × Int × Int)
  | 0, _, _, _ => none
  | k + 1, x0, x1, x7 => if x7 < (x0.length : Int) then (if (wrap64 (x7 - x1)) < 9 then (if 0 ≤ x7 then (if (rd x0 x7) > 127 then (remoraref01_Get.l0 k x0 x1 (wrap64 (x7 + 1))) else (remoraref01_Get.j2 k x0 x1 x7)) else (none)) else (remoraref01_Get.j2 k x0 x1 x7)) else (remoraref01_Get.j2 k x0 x1 x7)
end
def remoraref01_Get.f (k : Nat) (l0 : List Int) (a1 : Int) : Option (Int × Int × Int) := if a1 < 0 then (remoraref01_Get.j0 k l0 a1 true) else (remoraref01_Get.j0 k l0 a1 (decide (a1 > (l0.length : Int))))
set_option maxHeartbeats 8000000 in
set_option maxRecDepth 100000 in
theorem remoraref01_Get.calls (k : Nat) (A0 : Option Addr) (c0 : Nat) (l0 : List Int) (a1 : Int) (r1 : Int) (r2 : Int) (r3 : Int) (w : World) (hr0 : Kd.C (Kd.int .u8) w A0 l0.length l0) (hc0 : l0.length ≤ c0) (h : remoraref01_Get.f k l0 a1 = some (r1, r2, r3)) :
    Calls Tryd.prog 67 #[.slice A0 l0.length c0, .int .i64 a1] w fun e w' => e = .returned (.tuple #[.int .i64 r1, .int .i64 r2, .int .i64 r3]) ∧ Drawn0 w w' := by
  have HR0 := Aside0.mk hr0
  have HC0 := Aside0.mk hc0
  clear hr0 hc0
  have H : (if a1 < 0 then (remoraref01_Get.j0 k l0 a1 true) else (remoraref01_Get.j0 k l0 a1 (decide (a1 > (l0.length : Int))))) = some (r1, r2, r3) := h
  clear h
  have HC3 := Aside0.mk H
  clear H
  go_enter Tryd.func67, Tryd.ntmps67
  go_upto_region 1 with (fail)
  go_cut [17] (fun v17 wc => ∃ (kq : Nat) (x17_2 : Bool), v17 = .bool x17_2 ∧ Aside0 (remoraref01_Get.j0 kq l0 a1 x17_2 = some (r1, r2, r3)) ∧ Aside0 (kq ≤ k) ∧ Drawn0 w wc)
  case first =>
    have H := HC3.out
    clear HC3
    by_cases c4 : a1 < 0
    · rw [if_pos c4] at H
      have c4b0 : decide (a1 < 0) = true := decide_eq_true c4
      clear c4
      (first | rw [c4b0] | (simp only [i64_w, i32_w]; rw [c4b0]) | skip)
      have H' := Aside0.mk H
      clear H
      go_wp2
      go_meet
      case rel => exact ⟨_, (true), (by first | rfl | (simp; done) | (simp [*]; done)), H', ⟨by first | omega | exact Nat.le_refl _⟩, by repeat (first | exact Drawn0.refl _ | apply Drawn0.step)⟩
    · rw [if_neg c4] at H
      have c4b0 : decide (a1 < 0) = false := decide_eq_false c4
      clear c4
      (first | rw [c4b0] | (simp only [i64_w, i32_w]; rw [c4b0]) | skip)
      have H' := Aside0.mk H
      clear H
      go_wp2
      go_meet
      case rel => exact ⟨_, (decide (a1 > (l0.length : Int))), (by first | rfl | (simp; done) | (simp [*]; done)), H', ⟨by first | omega | exact Nat.le_refl _⟩, by repeat (first | exact Drawn0.refl _ | apply Drawn0.step)⟩
  case rest =>
    clear HC3
    try clear p2
    try clear c4
    try clear c4b0
    obtain ⟨kq, x17_2, rfl, HA, HJ2, ⟨mc2, rfl⟩⟩ := hcut
    cases kq with
    | zero => exact absurd HA.out (by simp [remoraref01_Get.j0])
    | succ kj2 =>
      have H := HA.out
      clear HA
      simp only [remoraref01_Get.j0] at H
      by_cases c5 : x17_2 = true
      · subst c5
        have H1 : (some (0, 0, 3)) = some (r1, r2, r3) := by rw [if_pos rfl] at H; exact H
        clear H
        have H := H1
        clear H1
        simp only [Option.some.injEq, Prod.mk.injEq] at H
        obtain ⟨rfl, rfl, rfl⟩ := H
        go_wp2
        go_ret3
        exact ⟨by first | rfl | (simp; done) | (simp [*]; done), by repeat (first | exact Drawn0.refl _ | apply Drawn0.step)⟩
      · replace c5 := Bool.eq_false_iff.mpr c5
        subst c5
        have H1 : (remoraref01_Get.l0 kj2 l0 a1 a1) = some (r1, r2, r3) := by rw [if_neg (show ¬ (false = true) by decide)] at H; exact H
        clear H
        have H := H1
        clear H1
        have HC6 := Aside0.mk H
        clear H
        go_upto_block 0 with (fail)
        go_cut [7] (fun v7 wc => ∃ (kq : Nat) (x7_5 : Int), v7 = .int .i64 x7_5 ∧ Aside0 (remoraref01_Get.j2 kq l0 a1 x7_5 = some (r1, r2, r3)) ∧ Aside0 (kq ≤ kj2) ∧ Drawn0 w wc)
        case first =>
          have H := HC6.out
          clear HC6
          have H' := Aside0.mk H
          clear H
          go_wp2
          go_loopg [7] kj2 (fun kq v7 w' => ∃ (x7_2 : Int), v7 = .int .i64 x7_2 ∧ Aside0 (remoraref01_Get.l0 kq l0 a1 x7_2 = some (r1, r2, r3)) ∧ Aside0 (kq ≤ kj2) ∧ Drawn0 w w')
          case atStart => exact ⟨(a1), (by first | rfl | (simp; done) | (simp [*]; done)), H', ⟨Nat.le_refl _⟩, by repeat (first | exact Drawn0.refl _ | apply Drawn0.step)⟩
          case round =>
            clear H'
            try clear c2
            try clear p2
            try clear c4
            try clear c4b0
            try clear c5
            try clear c6
            try clear p2
            obtain ⟨x7_2, rfl, HA, HK2, ⟨m2, rfl⟩⟩ := hrel
            cases gk with
            | zero => exact absurd HA.out (by simp [remoraref01_Get.l0])
            | succ k2 =>
              have H := HA.out
              clear HA
              simp only [remoraref01_Get.l0] at H
              by_cases c7 : x7_2 < (l0.length : Int)
              · rw [if_pos c7] at H
                have c7b0 : decide (x7_2 < (l0.length : Int)) = true := decide_eq_true c7
                clear c7
                (first | rw [c7b0] | (simp only [i64_w, i32_w]; rw [c7b0]) | skip)
                by_cases c8 : (wrap64 (x7_2 - a1)) < 9
                · rw [if_pos c8] at H
                  have c8b0 : decide ((wrap64 (x7_2 - a1)) < 9) = true := decide_eq_true c8
                  clear c8
                  by_cases c9 : 0 ≤ x7_2
                  · rw [if_pos c9] at H
                    have c9b0 : decide (0 ≤ x7_2) = true := decide_eq_true c9
                    clear c9
                    by_cases c10 : (rd l0 x7_2) > 127
                    · rw [if_pos c10] at H
                      have c10b0 : decide (127 < (rd l0 x7_2)) = true := decide_eq_true c10
                      clear c10
                      have H' := Aside0.mk H
                      clear H
                      have p252 : 0 ≤ (x7_2 : Int) := of_decide_eq_true (by first | (with_reducible assumption) | assumption)
                      have q252 : x7_2 < (l0.length : Int) := of_decide_eq_true (by first | (with_reducible assumption) | assumption)
                      obtain ⟨ad252, e252, hx252_0⟩ := Kd.at_int HR0.out x7_2 p252 q252
                      cases e252
                      replace p252 := eq_true p252
                      replace q252 := eq_true q252
                      go_wp2
                      go_roundg k2
                      case measure => have := HJ2.out; have := HK2.out; omega
                      case rel => exact ⟨(wrap64 (x7_2 + 1)), (by first | rfl | (simp; done) | (simp [*]; done)), H', ⟨by have := HJ2.out; have := HK2.out; omega⟩, by repeat (first | exact Drawn0.refl _ | apply Drawn0.step)⟩
                    · rw [if_neg c10] at H
                      have c10b0 : decide (127 < (rd l0 x7_2)) = false := decide_eq_false c10
                      clear c10
                      have H' := Aside0.mk H
                      clear H
                      have p252 : 0 ≤ (x7_2 : Int) := of_decide_eq_true (by first | (with_reducible assumption) | assumption)
                      have q252 : x7_2 < (l0.length : Int) := of_decide_eq_true (by first | (with_reducible assumption) | assumption)
                      obtain ⟨ad252, e252, hx252_0⟩ := Kd.at_int HR0.out x7_2 p252 q252
                      cases e252
                      replace p252 := eq_true p252
                      replace q252 := eq_true q252
                      go_wp2
                      go_meet
                      case rel => exact ⟨_, (x7_2), (by first | rfl | (simp; done) | (simp [*]; done)), H', ⟨by have := HJ2.out; have := HK2.out; first | omega | exact Nat.le_refl _⟩, by repeat (first | exact Drawn0.refl _ | apply Drawn0.step)⟩
                  · rw [if_neg c9] at H
                    exact absurd H (by simp)
                · rw [if_neg c8] at H
                  have c8b0 : decide ((wrap64 (x7_2 - a1)) < 9) = false := decide_eq_false c8
                  clear c8
                  have H' := Aside0.mk H
                  clear H
                  go_wp2
                  go_meet
                  case rel => exact ⟨_, (x7_2), (by first | rfl | (simp; done) | (simp [*]; done)), H', ⟨by have := HJ2.out; have := HK2.out; first | omega | exact Nat.le_refl _⟩, by repeat (first | exact Drawn0.refl _ | apply Drawn0.step)⟩
              · rw [if_neg c7] at H
                have c7b0 : decide (x7_2 < (l0.length : Int)) = false := decide_eq_false c7
                clear c7
                (first | rw [c7b0] | (simp only [i64_w, i32_w]; rw [c7b0]) | skip)
                have H' := Aside0.mk H
                clear H
                go_wp2
                go_meet
                case rel => exact ⟨_, (x7_2), (by first | rfl | (simp; done) | (simp [*]; done)), H', ⟨by have := HJ2.out; have := HK2.out; first | omega | exact Nat.le_refl _⟩, by repeat (first | exact Drawn0.refl _ | apply Drawn0.step)⟩
        case rest =>
          clear HC6
          try clear c1
          try clear c2
          try clear p2
          try clear q2
          try clear hx2
          try clear c4
          try clear c4b0
          try clear c5
          try clear c6
          try clear p6
          try clear c7
          try clear c7b0
          try clear c8
          try clear c8b0
          try clear c9
          try clear c9b0
          try clear c10
          try clear c10b0
          try clear hx252_0
          try clear p2
          try clear p252
          try clear q252
          obtain ⟨kq, x7_5, rfl, HA, HJ5, ⟨mc5, rfl⟩⟩ := hcut
          cases kq with
          | zero => exact absurd HA.out (by simp [remoraref01_Get.j2])
          | succ kj5 =>
            have H := HA.out
            clear HA
            simp only [remoraref01_Get.j2] at H
            by_cases c11 : (wrap64 (x7_5 - a1)) = 9
            · rw [if_pos c11] at H
              have c11b0 : ((wrap64 (x7_5 - a1)) == 9) = true := beq_iff_eq.mpr c11
              have c11b1 : ((wrap64 (x7_5 - a1)) != 9) = false := bne_eq_false_iff_eq.mpr c11
              clear c11
              simp only [Option.some.injEq, Prod.mk.injEq] at H
              obtain ⟨rfl, rfl, rfl⟩ := H
              go_wp2
              go_ret3
              exact ⟨by first | rfl | (simp; done) | (simp [*]; done), by repeat (first | exact Drawn0.refl _ | apply Drawn0.step)⟩
            · rw [if_neg c11] at H
              have c11b0 : ((wrap64 (x7_5 - a1)) == 9) = false := beq_eq_false_iff_ne.mpr c11
              have c11b1 : ((wrap64 (x7_5 - a1)) != 9) = true := bne_iff_ne.mpr c11
              by_cases c12 : x7_5 = (l0.length : Int)
              · rw [if_pos c12] at H
                have c12b0 : (x7_5 == (l0.length : Int)) = true := beq_iff_eq.mpr c12
                have c12b1 : (x7_5 != (l0.length : Int)) = false := bne_eq_false_iff_eq.mpr c12
                clear c12
                simp only [Option.some.injEq, Prod.mk.injEq] at H
                obtain ⟨rfl, rfl, rfl⟩ := H
                go_wp2
                go_ret3
                exact ⟨by first | rfl | (simp; done) | (simp [*]; done), by repeat (first | exact Drawn0.refl _ | apply Drawn0.step)⟩
              · rw [if_neg c12] at H
                have c12b0 : (x7_5 == (l0.length : Int)) = false := beq_eq_false_iff_ne.mpr c12
                have c12b1 : (x7_5 != (l0.length : Int)) = true := bne_iff_ne.mpr c12
                have HC13 := Aside0.mk H
                clear H
                go_upto_region 10 with (fail)
                go_cut [55] (fun v55 wc => ∃ (kq : Nat) (x55_12 : Bool), v55 = .bool x55_12 ∧ Aside0 (remoraref01_Get.j3 kq l0 a1 x7_5 x55_12 = some (r1, r2, r3)) ∧ Aside0 (kq ≤ kj5) ∧ Drawn0 w wc)
                case first =>
                  have H := HC13.out
                  clear HC13
                  by_cases c14 : 0 ≤ x7_5
                  · rw [if_pos c14] at H
                    have c14b0 : decide (0 ≤ x7_5) = true := decide_eq_true c14
                    clear c14
                    (first | rw [c14b0] | (simp only [i64_w, i32_w]; rw [c14b0]) | skip)
                    by_cases c15 : x7_5 < (l0.length : Int)
                    · rw [if_pos c15] at H
                      have c15b0 : decide (x7_5 < (l0.length : Int)) = true := decide_eq_true c15
                      clear c15
                      by_cases c16 : (rd l0 x7_5) = 0
                      · rw [if_pos c16] at H
                        have c16b0 : ((rd l0 x7_5) == 0) = true := beq_iff_eq.mpr c16
                        have c16b1 : ((rd l0 x7_5) != 0) = false := bne_eq_false_iff_eq.mpr c16
                        clear c16
                        have H' := Aside0.mk H
                        clear H
                        have p253 : 0 ≤ (x7_5 : Int) := of_decide_eq_true (by first | (with_reducible assumption) | assumption)
                        have q253 : x7_5 < (l0.length : Int) := of_decide_eq_true (by first | (with_reducible assumption) | assumption)
                        obtain ⟨ad253, e253, hx253_0⟩ := Kd.at_int HR0.out x7_5 p253 q253
                        cases e253
                        replace p253 := eq_true p253
                        replace q253 := eq_true q253
                        go_wp2
                        go_meet
                        case rel => exact ⟨_, (decide (x7_5 > a1)), (by first | rfl | (simp; done) | (simp [*]; done)), H', ⟨by have := HJ2.out; have := HJ5.out; first | omega | exact Nat.le_refl _⟩, by repeat (first | exact Drawn0.refl _ | apply Drawn0.step)⟩
                      · rw [if_neg c16] at H
                        have c16b0 : ((rd l0 x7_5) == 0) = false := beq_eq_false_iff_ne.mpr c16
                        have c16b1 : ((rd l0 x7_5) != 0) = true := bne_iff_ne.mpr c16
                        have H' := Aside0.mk H
                        clear H
                        have p253 : 0 ≤ (x7_5 : Int) := of_decide_eq_true (by first | (with_reducible assumption) | assumption)
                        have q253 : x7_5 < (l0.length : Int) := of_decide_eq_true (by first | (with_reducible assumption) | assumption)
                        obtain ⟨ad253, e253, hx253_0⟩ := Kd.at_int HR0.out x7_5 p253 q253
                        cases e253
                        replace p253 := eq_true p253
                        replace q253 := eq_true q253
                        go_wp2
                        go_meet
                        case rel => exact ⟨_, (false), (by first | rfl | (simp; done) | (simp [*]; done)), H', ⟨by have := HJ2.out; have := HJ5.out; first | omega | exact Nat.le_refl _⟩, by repeat (first | exact Drawn0.refl _ | apply Drawn0.step)⟩
                    · rw [if_neg c15] at H
                      exact absurd H (by simp)
                  · rw [if_neg c14] at H
                    exact absurd H (by simp)
                case rest =>
                  clear HC13
                  try clear c1
                  try clear c2
                  try clear p2
                  try clear q2
                  try clear hx2
                  try clear c4
                  try clear c4b0
                  try clear c5
                  try clear c6
                  try clear p6
                  try clear c7
                  try clear c7b0
                  try clear c8
                  try clear c8b0
                  try clear c9
                  try clear c9b0
                  try clear c10
                  try clear c10b0
                  try clear c11
                  try clear c11b0
                  try clear c11b1
                  try clear c12
                  try clear c12b0
                  try clear c12b1
                  try clear c14
                  try clear c14b0
                  try clear c15
                  try clear c15b0
                  try clear c16
                  try clear c16b0
                  try clear c16b1
                  try clear hx252_0
                  try clear hx253_0
                  try clear p2
                  try clear p252
                  try clear p253
                  try clear p6
                  try clear q2
                  try clear q252
                  try clear q253
                  obtain ⟨kq, x55_12, rfl, HA, HJ12, ⟨mc12, rfl⟩⟩ := hcut
                  cases kq with
                  | zero => exact absurd HA.out (by simp [remoraref01_Get.j3])
                  | succ kj12 =>
                    have H := HA.out
                    clear HA
                    simp only [remoraref01_Get.j3] at H
                    by_cases c17 : x55_12 = true
                    · subst c17
                      have H1 : (some (0, 0, 5)) = some (r1, r2, r3) := by rw [if_pos rfl] at H; exact H
                      clear H
                      have H := H1
                      clear H1
                      simp only [Option.some.injEq, Prod.mk.injEq] at H
                      obtain ⟨rfl, rfl, rfl⟩ := H
                      go_wp2
                      go_ret3
                      exact ⟨by first | rfl | (simp; done) | (simp [*]; done), by repeat (first | exact Drawn0.refl _ | apply Drawn0.step)⟩
                    · replace c17 := Bool.eq_false_iff.mpr c17
                      subst c17
                      have H1 : (remoraref01_Get.l1 kj12 l0 a1 x7_5 0 x7_5) = some (r1, r2, r3) := by rw [if_neg (show ¬ (false = true) by decide)] at H; exact H
                      clear H
                      have H := H1
                      clear H1
                      have H' := Aside0.mk H
                      clear H
                      go_wp2
                      go_loopg [8, 9] kj12 (fun kq v8 v9 w' => ∃ (x8_4 : Int) (x9_4 : Int), v8 = .int .i64 x8_4 ∧ v9 = .int .i64 x9_4 ∧ Aside0 (remoraref01_Get.l1 kq l0 a1 x7_5 x8_4 x9_4 = some (r1, r2, r3)) ∧ Aside0 (kq ≤ kj12) ∧ Drawn0 w w')
                      case atStart => exact ⟨(0), (x7_5), (by first | rfl | (simp; done) | (simp [*]; done)), (by first | rfl | (simp; done) | (simp [*]; done)), H', ⟨Nat.le_refl _⟩, by repeat (first | exact Drawn0.refl _ | apply Drawn0.step)⟩
                      case round =>
                        clear H'
                        try clear c1
                        try clear c2
                        try clear p2
                        try clear q2
                        try clear hx2
                        try clear c4
                        try clear c4b0
                        try clear c5
                        try clear c6
                        try clear p6
                        try clear c7
                        try clear c7b0
                        try clear c8
                        try clear c8b0
                        try clear c9
                        try clear c9b0
                        try clear c10
                        try clear c10b0
                        try clear c11
                        try clear c11b0
                        try clear c11b1
                        try clear c12
                        try clear c12b0
                        try clear c12b1
                        try clear c14
                        try clear c14b0
                        try clear c15
                        try clear c15b0
                        try clear c16
                        try clear c16b0
                        try clear c16b1
                        try clear c17
                        try clear hx252_0
                        try clear hx253_0
                        try clear p2
                        try clear p252
                        try clear p253
                        try clear p6
                        try clear q2
                        try clear q252
                        try clear q253
                        obtain ⟨x8_4, x9_4, rfl, rfl, HA, HK4, ⟨m4, rfl⟩⟩ := hrel
                        cases gk with
                        | zero => exact absurd HA.out (by simp [remoraref01_Get.l1])
                        | succ k4 =>
                          have H := HA.out
                          clear HA
                          simp only [remoraref01_Get.l1] at H
                          by_cases c18 : x9_4 ≥ a1
                          · rw [if_pos c18] at H
                            have c18b0 : decide (a1 ≤ x9_4) = true := decide_eq_true c18
                            clear c18
                            by_cases c19 : x8_4 > 36028797018963967
                            · rw [if_pos c19] at H
                              have c19b0 : decide (36028797018963967 < x8_4) = true := decide_eq_true c19
                              clear c19
                              simp only [Option.some.injEq, Prod.mk.injEq] at H
                              obtain ⟨rfl, rfl, rfl⟩ := H
                              go_wp2
                              go_ret3
                              exact ⟨by first | rfl | (simp; done) | (simp [*]; done), by repeat (first | exact Drawn0.refl _ | apply Drawn0.step)⟩
                            · rw [if_neg c19] at H
                              have c19b0 : decide (36028797018963967 < x8_4) = false := decide_eq_false c19
                              clear c19
                              by_cases c20 : 0 ≤ x9_4
                              · rw [if_pos c20] at H
                                have c20b0 : decide (0 ≤ x9_4) = true := decide_eq_true c20
                                clear c20
                                by_cases c21 : x9_4 < (l0.length : Int)
                                · rw [if_pos c21] at H
                                  have c21b0 : decide (x9_4 < (l0.length : Int)) = true := decide_eq_true c21
                                  clear c21
                                  have H' := Aside0.mk H
                                  clear H
                                  have p254 : 0 ≤ (x9_4 : Int) := of_decide_eq_true (by first | (with_reducible assumption) | assumption)
                                  have q254 : x9_4 < (l0.length : Int) := of_decide_eq_true (by first | (with_reducible assumption) | assumption)
                                  obtain ⟨ad254, e254, hx254_0⟩ := Kd.at_int HR0.out x9_4 p254 q254
                                  cases e254
                                  replace p254 := eq_true p254
                                  replace q254 := eq_true q254
                                  go_wp2
                                  go_roundg k4
                                  case measure => have := HJ2.out; have := HJ5.out; have := HJ12.out; have := HK4.out; omega
                                  case rel => exact ⟨(wrap64 ((wrap64 (128 * x8_4)) + (wrap64 (Int.tmod (rd l0 x9_4) 128)))), (wrap64 (x9_4 - 1)), (by first | rfl | (simp; done) | (simp [*]; done)), (by first | rfl | (simp; done) | (simp [*]; done)), H', ⟨by have := HJ2.out; have := HJ5.out; have := HJ12.out; have := HK4.out; omega⟩, by repeat (first | exact Drawn0.refl _ | apply Drawn0.step)⟩
                                · rw [if_neg c21] at H
                                  exact absurd H (by simp)
                              · rw [if_neg c20] at H
                                exact absurd H (by simp)
                          · rw [if_neg c18] at H
                            have c18b0 : decide (a1 ≤ x9_4) = false := decide_eq_false c18
                            clear c18
                            by_cases c22 : x8_4 > 4611686018427387903
                            · rw [if_pos c22] at H
                              have c22b0 : decide (4611686018427387903 < x8_4) = true := decide_eq_true c22
                              clear c22
                              simp only [Option.some.injEq, Prod.mk.injEq] at H
                              obtain ⟨rfl, rfl, rfl⟩ := H
                              go_wp2
                              go_ret3
                              exact ⟨by first | rfl | (simp; done) | (simp [*]; done), by repeat (first | exact Drawn0.refl _ | apply Drawn0.step)⟩
                            · rw [if_neg c22] at H
                              have c22b0 : decide (4611686018427387903 < x8_4) = false := decide_eq_false c22
                              clear c22
                              simp only [Option.some.injEq, Prod.mk.injEq] at H
                              obtain ⟨rfl, rfl, rfl⟩ := H
                              go_wp2
                              go_ret3
                              exact ⟨by first | rfl | (simp; done) | (simp [*]; done), by repeat (first | exact Drawn0.refl _ | apply Drawn0.step)⟩

/-! ### remoraref01_GetText: function 68 -/
def remoraref01_GetText.f (k : Nat) (l0 : List Int) (a1 : Int) (a2 : Int) : Option (ByteArray × Int × Int) := (remoraref01_Get.f k l0 a1).bind fun bt260 => (if bt260.2.2 = 0 then ((remoraref01_held.f a2 0 4611686018427387903).bind fun t263 => (if bt260.1 > t263 then (some ((⟨#[]⟩ : ByteArray), 0, 7)) else (if bt260.1 > (wrap64 ((l0.length : Int) - bt260.2.1)) then (some ((⟨#[]⟩ : ByteArray), 0, 4)) else (if 0 ≤ bt260.2.1 then (if bt260.2.1 ≤ (wrap64 (bt260.2.1 + bt260.1)) then (if (wrap64 (bt260.2.1 + bt260.1)) ≤ (l0.length : Int) then (some (strOfNums ((l0.take ((wrap64 (bt260.2.1 + bt260.1)) : Int).toNat).drop (bt260.2.1 : Int).toNat), wrap64 (bt260.2.1 + bt260.1), 0)) else (none)) else (none)) else (none))))) else (some ((⟨#[]⟩ : ByteArray), 0, bt260.2.2)))
set_option maxHeartbeats 8000000 in
set_option maxRecDepth 100000 in
theorem remoraref01_GetText.calls (k : Nat) (A0 : Option Addr) (c0 : Nat) (l0 : List Int) (a1 : Int) (a2 : Int) (r1 : ByteArray) (r2 : Int) (r3 : Int) (w : World) (hr0 : Kd.C (Kd.int .u8) w A0 l0.length l0) (hc0 : l0.length ≤ c0) (h : remoraref01_GetText.f k l0 a1 a2 = some (r1, r2, r3)) :
    Calls Tryd.prog 68 #[.slice A0 l0.length c0, .int .i64 a1, .int .i64 a2] w fun e w' => e = .returned (.tuple #[.string r1, .int .i64 r2, .int .i64 r3]) ∧ Drawn0 w w' := by
  have HR0 := Aside0.mk hr0
  have HC0 := Aside0.mk hc0
  clear hr0 hc0
  have H : ((remoraref01_Get.f k l0 a1).bind fun bt260 => (if bt260.2.2 = 0 then ((remoraref01_held.f a2 0 4611686018427387903).bind fun t263 => (if bt260.1 > t263 then (some ((⟨#[]⟩ : ByteArray), 0, 7)) else (if bt260.1 > (wrap64 ((l0.length : Int) - bt260.2.1)) then (some ((⟨#[]⟩ : ByteArray), 0, 4)) else (if 0 ≤ bt260.2.1 then (if bt260.2.1 ≤ (wrap64 (bt260.2.1 + bt260.1)) then (if (wrap64 (bt260.2.1 + bt260.1)) ≤ (l0.length : Int) then (some (strOfNums ((l0.take ((wrap64 (bt260.2.1 + bt260.1)) : Int).toNat).drop (bt260.2.1 : Int).toNat), wrap64 (bt260.2.1 + bt260.1), 0)) else (none)) else (none)) else (none))))) else (some ((⟨#[]⟩ : ByteArray), 0, bt260.2.2)))) = some (r1, r2, r3) := h
  clear h
  replace H := Option.bind_eq_some_iff.mp H
  obtain ⟨⟨t260, t261, t262⟩, A40, H⟩ := H
  replace H : (if t262 = 0 then ((remoraref01_held.f a2 0 4611686018427387903).bind fun t263 => (if t260 > t263 then (some ((⟨#[]⟩ : ByteArray), 0, 7)) else (if t260 > (wrap64 ((l0.length : Int) - t261)) then (some ((⟨#[]⟩ : ByteArray), 0, 4)) else (if 0 ≤ t261 then (if t261 ≤ (wrap64 (t261 + t260)) then (if (wrap64 (t261 + t260)) ≤ (l0.length : Int) then (some (strOfNums ((l0.take ((wrap64 (t261 + t260)) : Int).toNat).drop (t261 : Int).toNat), wrap64 (t261 + t260), 0)) else (none)) else (none)) else (none))))) else (some ((⟨#[]⟩ : ByteArray), 0, t262))) = some (r1, r2, r3) := H
  have A4 := Aside0.mk A40
  clear A40
  by_cases c5 : t262 = 0
  · rw [if_pos c5] at H
    have c5b0 : (t262 == 0) = true := beq_iff_eq.mpr c5
    have c5b1 : (t262 != 0) = false := bne_eq_false_iff_eq.mpr c5
    clear c5
    replace H := Option.bind_eq_some_iff.mp H
    obtain ⟨t263, A60, H⟩ := H
    replace H : (if t260 > t263 then (some ((⟨#[]⟩ : ByteArray), 0, 7)) else (if t260 > (wrap64 ((l0.length : Int) - t261)) then (some ((⟨#[]⟩ : ByteArray), 0, 4)) else (if 0 ≤ t261 then (if t261 ≤ (wrap64 (t261 + t260)) then (if (wrap64 (t261 + t260)) ≤ (l0.length : Int) then (some (strOfNums ((l0.take ((wrap64 (t261 + t260)) : Int).toNat).drop (t261 : Int).toNat), wrap64 (t261 + t260), 0)) else (none)) else (none)) else (none)))) = some (r1, r2, r3) := H
    have A6 := Aside0.mk A60
    clear A60
    by_cases c7 : t260 > t263
    · rw [if_pos c7] at H
      have c7b0 : decide (t263 < t260) = true := decide_eq_true c7
      clear c7
      simp only [Option.some.injEq, Prod.mk.injEq] at H
      obtain ⟨rfl, rfl, rfl⟩ := H
      go_enter Tryd.func68, Tryd.ntmps68
      go_wp2_with (first | ((with_reducible refine gate_callee (f := 67) rfl ?_); refine goesL_ (some 15) rfl rfl Tryd.func67 (by kernel_rfl) rfl #[.slice A0 l0.length c0, .int .i64 a1] rfl (by (try simp only [List.map_toArray, List.map_cons, List.map_nil]); first | done | rfl | (simp only [List.length_drop, List.length_take]; rfl) | (simp; done) | (simp; (repeat' apply And.intro) <;> rfl)) ?_; (with_reducible refine (remoraref01_Get.calls k _ _ l0 a1 t260 t261 t262 _ ?side1 ?side2 A4.out).mono ?_); (case side1 => repeat (first | exact HR0.out | (with_reducible refine Kd.C_alloc ?_ _) | (with_reducible refine Kd.C_drewN ?_ _) | (with_reducible refine Kd.C_drew ?_))); (case side2 => exact HC0.out); rintro e w' ⟨rfl, ⟨nd, rfl⟩⟩; refine ⟨_, rfl, ?_⟩) | ((with_reducible refine gate_callee (f := 62) rfl ?_); refine goesL_ (some 24) rfl rfl Tryd.func62 (by kernel_rfl) rfl #[.int .i64 a2, .int .i64 0, .int .i64 4611686018427387903] rfl (by (try simp only [List.map_toArray, List.map_cons, List.map_nil]); first | done | rfl | (simp only [List.length_drop, List.length_take]; rfl) | (simp; done) | (simp; (repeat' apply And.intro) <;> rfl)) ?_; (with_reducible refine (remoraref01_held.calls a2 0 4611686018427387903 t263 _ A6.out).mono ?_); rintro e w' ⟨rfl, ⟨nd, rfl⟩⟩; refine ⟨_, rfl, ?_⟩))
      go_ret3
      exact ⟨by first | rfl | (simp; done) | (simp [*]; done), by repeat (first | exact Drawn0.refl _ | apply Drawn0.step)⟩
    · rw [if_neg c7] at H
      have c7b0 : decide (t263 < t260) = false := decide_eq_false c7
      clear c7
      by_cases c8 : t260 > (wrap64 ((l0.length : Int) - t261))
      · rw [if_pos c8] at H
        have c8b0 : decide ((wrap64 ((l0.length : Int) - t261)) < t260) = true := decide_eq_true c8
        clear c8
        simp only [Option.some.injEq, Prod.mk.injEq] at H
        obtain ⟨rfl, rfl, rfl⟩ := H
        go_enter Tryd.func68, Tryd.ntmps68
        go_wp2_with (first | ((with_reducible refine gate_callee (f := 67) rfl ?_); refine goesL_ (some 15) rfl rfl Tryd.func67 (by kernel_rfl) rfl #[.slice A0 l0.length c0, .int .i64 a1] rfl (by (try simp only [List.map_toArray, List.map_cons, List.map_nil]); first | done | rfl | (simp only [List.length_drop, List.length_take]; rfl) | (simp; done) | (simp; (repeat' apply And.intro) <;> rfl)) ?_; (with_reducible refine (remoraref01_Get.calls k _ _ l0 a1 t260 t261 t262 _ ?side1 ?side2 A4.out).mono ?_); (case side1 => repeat (first | exact HR0.out | (with_reducible refine Kd.C_alloc ?_ _) | (with_reducible refine Kd.C_drewN ?_ _) | (with_reducible refine Kd.C_drew ?_))); (case side2 => exact HC0.out); rintro e w' ⟨rfl, ⟨nd, rfl⟩⟩; refine ⟨_, rfl, ?_⟩) | ((with_reducible refine gate_callee (f := 62) rfl ?_); refine goesL_ (some 24) rfl rfl Tryd.func62 (by kernel_rfl) rfl #[.int .i64 a2, .int .i64 0, .int .i64 4611686018427387903] rfl (by (try simp only [List.map_toArray, List.map_cons, List.map_nil]); first | done | rfl | (simp only [List.length_drop, List.length_take]; rfl) | (simp; done) | (simp; (repeat' apply And.intro) <;> rfl)) ?_; (with_reducible refine (remoraref01_held.calls a2 0 4611686018427387903 t263 _ A6.out).mono ?_); rintro e w' ⟨rfl, ⟨nd, rfl⟩⟩; refine ⟨_, rfl, ?_⟩))
        go_ret3
        exact ⟨by first | rfl | (simp; done) | (simp [*]; done), by repeat (first | exact Drawn0.refl _ | apply Drawn0.step)⟩
      · rw [if_neg c8] at H
        have c8b0 : decide ((wrap64 ((l0.length : Int) - t261)) < t260) = false := decide_eq_false c8
        clear c8
        by_cases c9 : 0 ≤ t261
        · rw [if_pos c9] at H
          have c9b0 := eq_true c9
          have c9b1 : decide (0 ≤ t261) = true := decide_eq_true c9
          clear c9
          by_cases c10 : t261 ≤ (wrap64 (t261 + t260))
          · rw [if_pos c10] at H
            have c10b0 := eq_true c10
            have c10b1 : decide (t261 ≤ (wrap64 (t261 + t260))) = true := decide_eq_true c10
            by_cases c11 : (wrap64 (t261 + t260)) ≤ (l0.length : Int)
            · rw [if_pos c11] at H
              have c11b0 := eq_true c11
              have c11b1 : decide ((wrap64 (t261 + t260)) ≤ (l0.length : Int)) = true := decide_eq_true c11
              simp only [Option.some.injEq, Prod.mk.injEq] at H
              obtain ⟨rfl, rfl, rfl⟩ := H
              go_enter Tryd.func68, Tryd.ntmps68
              go_wp2_with (first | ((with_reducible refine gate_callee (f := 67) rfl ?_); refine goesL_ (some 15) rfl rfl Tryd.func67 (by kernel_rfl) rfl #[.slice A0 l0.length c0, .int .i64 a1] rfl (by (try simp only [List.map_toArray, List.map_cons, List.map_nil]); first | done | rfl | (simp only [List.length_drop, List.length_take]; rfl) | (simp; done) | (simp; (repeat' apply And.intro) <;> rfl)) ?_; (with_reducible refine (remoraref01_Get.calls k _ _ l0 a1 t260 t261 t262 _ ?side1 ?side2 A4.out).mono ?_); (case side1 => repeat (first | exact HR0.out | (with_reducible refine Kd.C_alloc ?_ _) | (with_reducible refine Kd.C_drewN ?_ _) | (with_reducible refine Kd.C_drew ?_))); (case side2 => exact HC0.out); rintro e w' ⟨rfl, ⟨nd, rfl⟩⟩; refine ⟨_, rfl, ?_⟩) | ((with_reducible refine gate_callee (f := 62) rfl ?_); refine goesL_ (some 24) rfl rfl Tryd.func62 (by kernel_rfl) rfl #[.int .i64 a2, .int .i64 0, .int .i64 4611686018427387903] rfl (by (try simp only [List.map_toArray, List.map_cons, List.map_nil]); first | done | rfl | (simp only [List.length_drop, List.length_take]; rfl) | (simp; done) | (simp; (repeat' apply And.intro) <;> rfl)) ?_; (with_reducible refine (remoraref01_held.calls a2 0 4611686018427387903 t263 _ A6.out).mono ?_); rintro e w' ⟨rfl, ⟨nd, rfl⟩⟩; refine ⟨_, rfl, ?_⟩; obtain ⟨i012, hi012, _, hsz12, _⟩ := info_parts info5; obtain ⟨A12, hcut12, hA12, hC12⟩ := print_mid_of (P := Tryd.prog) (Value.int .u8) 0 41 5 .i64 .i64 Tryd.underlying41 hi012 hsz12 A0 c0 l0 t261 (wrap64 (t261 + t260)) (of_decide_eq_true (by first | (with_reducible assumption) | assumption)) (by first | omega | exact of_decide_eq_true (by first | (with_reducible assumption) | assumption)) (of_decide_eq_true (by first | (with_reducible assumption) | assumption)) HC0.out; have HR264 := Aside0.mk (Kd.C_of_reads (h1 := fun _ => rfl) (hA12 _ (Kd.reads_of_C HR0.out))); have HC264 := Aside0.mk hC12; clear hA12 hC12 hi012 hsz12; have hcv13 := Kd.C_string (P := Tryd.prog) (A := A12) (c := (c0 - t261.toNat)) Tryd.underlying41 Tryd.underlying5 Tryd.underlying9 HR264.out; have hcw13 := fun (m_ : Nat) => Kd.C_string (P := Tryd.prog) (A := A12) (c := (c0 - t261.toNat)) Tryd.underlying41 Tryd.underlying5 Tryd.underlying9 (Kd.C_drewN HR264.out m_); have hcl13 : ((l0.take ((wrap64 (t261 + t260)) : Int).toNat).drop (t261 : Int).toNat).length = ((wrap64 (t261 + t260)).toNat - t261.toNat) := (by rw [List.length_drop, List.length_take]; have h_ : ((wrap64 (t261 + t260)) : Int) ≤ (l0.length : Int) := of_decide_eq_true (by first | (with_reducible assumption) | assumption); omega); (try rw [hcl13] at hcv13 hcw13); clear hcl13))
              go_ret3
              exact ⟨by first | rfl | (simp; done) | (simp [*]; done), by repeat (first | exact Drawn0.refl _ | apply Drawn0.step)⟩
            · rw [if_neg c11] at H
              exact absurd H (by simp)
          · rw [if_neg c10] at H
            exact absurd H (by simp)
        · rw [if_neg c9] at H
          exact absurd H (by simp)
  · rw [if_neg c5] at H
    have c5b0 : (t262 == 0) = false := beq_eq_false_iff_ne.mpr c5
    have c5b1 : (t262 != 0) = true := bne_iff_ne.mpr c5
    simp only [Option.some.injEq, Prod.mk.injEq] at H
    obtain ⟨rfl, rfl, rfl⟩ := H
    go_enter Tryd.func68, Tryd.ntmps68
    go_wp2_with (first | ((with_reducible refine gate_callee (f := 67) rfl ?_); refine goesL_ (some 15) rfl rfl Tryd.func67 (by kernel_rfl) rfl #[.slice A0 l0.length c0, .int .i64 a1] rfl (by (try simp only [List.map_toArray, List.map_cons, List.map_nil]); first | done | rfl | (simp only [List.length_drop, List.length_take]; rfl) | (simp; done) | (simp; (repeat' apply And.intro) <;> rfl)) ?_; (with_reducible refine (remoraref01_Get.calls k _ _ l0 a1 t260 t261 t262 _ ?side1 ?side2 A4.out).mono ?_); (case side1 => repeat (first | exact HR0.out | (with_reducible refine Kd.C_alloc ?_ _) | (with_reducible refine Kd.C_drewN ?_ _) | (with_reducible refine Kd.C_drew ?_))); (case side2 => exact HC0.out); rintro e w' ⟨rfl, ⟨nd, rfl⟩⟩; refine ⟨_, rfl, ?_⟩))
    go_ret3
    exact ⟨by first | rfl | (simp; done) | (simp [*]; done), by repeat (first | exact Drawn0.refl _ | apply Drawn0.step)⟩

/-! ### remoraref01_GetInt: function 47 -/
def remoraref01_GetInt.f (k : Nat) (l0 : List Int) (a1 : Int) : Option (Int × Int × Int) := (remoraref01_Get.f k l0 a1).bind fun bt270 => (if bt270.2.2 = 0 then (if (Int.tmod bt270.1 2) = 1 then (some (wrap64 ((wrap64 (-(wrap64 (Int.tdiv bt270.1 2)))) - 1), bt270.2.1, 0)) else (some (wrap64 (Int.tdiv bt270.1 2), bt270.2.1, 0))) else (some (0, 0, bt270.2.2)))
set_option maxHeartbeats 8000000 in
set_option maxRecDepth 100000 in
theorem remoraref01_GetInt.calls (k : Nat) (A0 : Option Addr) (c0 : Nat) (l0 : List Int) (a1 : Int) (r1 : Int) (r2 : Int) (r3 : Int) (w : World) (hr0 : Kd.C (Kd.int .u8) w A0 l0.length l0) (hc0 : l0.length ≤ c0) (h : remoraref01_GetInt.f k l0 a1 = some (r1, r2, r3)) :
    Calls Tryd.prog 47 #[.slice A0 l0.length c0, .int .i64 a1] w fun e w' => e = .returned (.tuple #[.int .i64 r1, .int .i64 r2, .int .i64 r3]) ∧ Drawn0 w w' := by
  have HR0 := Aside0.mk hr0
  have HC0 := Aside0.mk hc0
  clear hr0 hc0
  have H : ((remoraref01_Get.f k l0 a1).bind fun bt270 => (if bt270.2.2 = 0 then (if (Int.tmod bt270.1 2) = 1 then (some (wrap64 ((wrap64 (-(wrap64 (Int.tdiv bt270.1 2)))) - 1), bt270.2.1, 0)) else (some (wrap64 (Int.tdiv bt270.1 2), bt270.2.1, 0))) else (some (0, 0, bt270.2.2)))) = some (r1, r2, r3) := h
  clear h
  replace H := Option.bind_eq_some_iff.mp H
  obtain ⟨⟨t270, t271, t272⟩, A30, H⟩ := H
  replace H : (if t272 = 0 then (if (Int.tmod t270 2) = 1 then (some (wrap64 ((wrap64 (-(wrap64 (Int.tdiv t270 2)))) - 1), t271, 0)) else (some (wrap64 (Int.tdiv t270 2), t271, 0))) else (some (0, 0, t272))) = some (r1, r2, r3) := H
  have A3 := Aside0.mk A30
  clear A30
  by_cases c4 : t272 = 0
  · rw [if_pos c4] at H
    have c4b0 : (t272 == 0) = true := beq_iff_eq.mpr c4
    have c4b1 : (t272 != 0) = false := bne_eq_false_iff_eq.mpr c4
    clear c4
    by_cases c5 : (Int.tmod t270 2) = 1
    · rw [if_pos c5] at H
      have c5b0 : ((Int.tmod t270 2) == 1) = true := beq_iff_eq.mpr c5
      have c5b1 : ((Int.tmod t270 2) != 1) = false := bne_eq_false_iff_eq.mpr c5
      clear c5
      simp only [Option.some.injEq, Prod.mk.injEq] at H
      obtain ⟨rfl, rfl, rfl⟩ := H
      go_enter Tryd.func47, Tryd.ntmps47
      go_wp2_with (first | ((with_reducible refine gate_callee (f := 67) rfl ?_); refine goesL_ (some 13) rfl rfl Tryd.func67 (by kernel_rfl) rfl #[.slice A0 l0.length c0, .int .i64 a1] rfl (by (try simp only [List.map_toArray, List.map_cons, List.map_nil]); first | done | rfl | (simp only [List.length_drop, List.length_take]; rfl) | (simp; done) | (simp; (repeat' apply And.intro) <;> rfl)) ?_; (with_reducible refine (remoraref01_Get.calls k _ _ l0 a1 t270 t271 t272 _ ?side1 ?side2 A3.out).mono ?_); (case side1 => repeat (first | exact HR0.out | (with_reducible refine Kd.C_alloc ?_ _) | (with_reducible refine Kd.C_drewN ?_ _) | (with_reducible refine Kd.C_drew ?_))); (case side2 => exact HC0.out); rintro e w' ⟨rfl, ⟨nd, rfl⟩⟩; refine ⟨_, rfl, ?_⟩))
      go_ret3
      exact ⟨by first | rfl | (simp; done) | (simp [*]; done), by repeat (first | exact Drawn0.refl _ | apply Drawn0.step)⟩
    · rw [if_neg c5] at H
      have c5b0 : ((Int.tmod t270 2) == 1) = false := beq_eq_false_iff_ne.mpr c5
      have c5b1 : ((Int.tmod t270 2) != 1) = true := bne_iff_ne.mpr c5
      simp only [Option.some.injEq, Prod.mk.injEq] at H
      obtain ⟨rfl, rfl, rfl⟩ := H
      go_enter Tryd.func47, Tryd.ntmps47
      go_wp2_with (first | ((with_reducible refine gate_callee (f := 67) rfl ?_); refine goesL_ (some 13) rfl rfl Tryd.func67 (by kernel_rfl) rfl #[.slice A0 l0.length c0, .int .i64 a1] rfl (by (try simp only [List.map_toArray, List.map_cons, List.map_nil]); first | done | rfl | (simp only [List.length_drop, List.length_take]; rfl) | (simp; done) | (simp; (repeat' apply And.intro) <;> rfl)) ?_; (with_reducible refine (remoraref01_Get.calls k _ _ l0 a1 t270 t271 t272 _ ?side1 ?side2 A3.out).mono ?_); (case side1 => repeat (first | exact HR0.out | (with_reducible refine Kd.C_alloc ?_ _) | (with_reducible refine Kd.C_drewN ?_ _) | (with_reducible refine Kd.C_drew ?_))); (case side2 => exact HC0.out); rintro e w' ⟨rfl, ⟨nd, rfl⟩⟩; refine ⟨_, rfl, ?_⟩))
      go_ret3
      exact ⟨by first | rfl | (simp; done) | (simp [*]; done), by repeat (first | exact Drawn0.refl _ | apply Drawn0.step)⟩
  · rw [if_neg c4] at H
    have c4b0 : (t272 == 0) = false := beq_eq_false_iff_ne.mpr c4
    have c4b1 : (t272 != 0) = true := bne_iff_ne.mpr c4
    simp only [Option.some.injEq, Prod.mk.injEq] at H
    obtain ⟨rfl, rfl, rfl⟩ := H
    go_enter Tryd.func47, Tryd.ntmps47
    go_wp2_with (first | ((with_reducible refine gate_callee (f := 67) rfl ?_); refine goesL_ (some 13) rfl rfl Tryd.func67 (by kernel_rfl) rfl #[.slice A0 l0.length c0, .int .i64 a1] rfl (by (try simp only [List.map_toArray, List.map_cons, List.map_nil]); first | done | rfl | (simp only [List.length_drop, List.length_take]; rfl) | (simp; done) | (simp; (repeat' apply And.intro) <;> rfl)) ?_; (with_reducible refine (remoraref01_Get.calls k _ _ l0 a1 t270 t271 t272 _ ?side1 ?side2 A3.out).mono ?_); (case side1 => repeat (first | exact HR0.out | (with_reducible refine Kd.C_alloc ?_ _) | (with_reducible refine Kd.C_drewN ?_ _) | (with_reducible refine Kd.C_drew ?_))); (case side2 => exact HC0.out); rintro e w' ⟨rfl, ⟨nd, rfl⟩⟩; refine ⟨_, rfl, ?_⟩))
    go_ret3
    exact ⟨by first | rfl | (simp; done) | (simp [*]; done), by repeat (first | exact Drawn0.refl _ | apply Drawn0.step)⟩
/-! ### remoraref20_In_Some: function 48, a contract of my own -/
def failF (is : Bool) (x e : Int) : Int := if (is && e == 0) = true then x else e
theorem in_Fail.at_ (A : Option Addr) (m c p : Nat) (a e x : Int) (is : Bool) (w : World) (hP : w.heap[p]? = some (.cells #[.slice A m c, .int .i64 a, .int .i64 e] 86 (0, 0))) :
    Calls Tryd.prog 45 #[.pointer (some ⟨p, 0, none⟩), .bool is, .int .i64 x] w fun r w' => r = .returned (.tuple #[]) ∧ w'.heap[p]? = some (.cells #[.slice A m c, .int .i64 a, .int .i64 (failF is x e)] 86 (0, 0)) ∧ Bm p p w w' := by
  have HP := Aside0.mk hP
  obtain ⟨p0, p1, p2⟩ := rd_cells hP
  have qf := blk_frozen hP 2
  clear hP
  cases is with
  | false =>
    go_enter Tryd.func45, Tryd.ntmps45
    go_wp2
    refine bodyPost_end (results_none rfl _ _ _) rfl ?_
    exact ⟨rfl, HP.out, Bm.refl _ _ _⟩
  | true =>
    by_cases h0 : e = 0
    · have k1 : (e == 0) = true := beq_iff_eq.mpr h0
      have HF : Aside0 (failF true x e = x) := ⟨by unfold failF; rw [k1]; rfl⟩
      clear h0
      go_enter Tryd.func45, Tryd.ntmps45
      go_wp2
      refine bodyPost_end (results_none rfl _ _ _) rfl ?_
      rw [HF.out]
      exact ⟨rfl, blk_set HP.out 2 _, (Bm.refl _ _ _).setCell 2 _⟩
    · have k1 : (e == 0) = false := beq_eq_false_iff_ne.mpr h0
      have HF : Aside0 (failF true x e = e) := ⟨by unfold failF; rw [k1]; rfl⟩
      clear h0
      go_enter Tryd.func45, Tryd.ntmps45
      go_wp2
      refine bodyPost_end (results_none rfl _ _ _) rfl ?_
      rw [HF.out]
      exact ⟨rfl, HP.out, Bm.refl _ _ _⟩
/-- One step of the document's reader: at an error its place stays. -/
def stepR (G : Int → Int × Int × Int) (s : Int × Int) : Int × (Int × Int) := if s.2 = 0 then (if (G s.1).2.2 = 0 then ((G s.1).1, ((G s.1).2.1, 0)) else (0, (s.1, (G s.1).2.2))) else (0, s)
set_option maxHeartbeats 8000000 in
set_option maxRecDepth 20000 in
open Go.Proofs.YtniboafnkiijcaaDoor.Num in
theorem in_Num.at_ (A : Option Addr) (m c : Nat) (O : List Int) (p : Nat) (a e : Int) (w : World) (hH : GetHyp 67 (getS O) A m c O) (hC : Kd.C (Kd.int .u8) w A m O) (hP : w.heap[p]? = some (.cells #[.slice A m c, .int .i64 a, .int .i64 e] 86 (0, 0))) :
    Calls Tryd.prog 44 #[.pointer (some ⟨p, 0, none⟩)] w fun r w' => r = .returned (.int .i64 (stepR (getS O) (a, e)).1) ∧ w'.heap[p]? = some (.cells #[.slice A m c, .int .i64 (stepR (getS O) (a, e)).2.1, .int .i64 (stepR (getS O) (a, e)).2.2] 86 (0, 0)) ∧ Bm p p w w' := by
  have HP := Aside0.mk hP
  have HH := Aside0.mk (hH a w.drew (Kd.C_drew hC))
  obtain ⟨q0, q1, q2⟩ := rd_cells hP
  clear hP hC hH
  by_cases h0 : e = 0
  rotate_left
  · have k1 : (e != 0) = true := bne_iff_ne.mpr h0
    have HS : Aside0 (stepR (getS O) (a, e) = (0, (a, e))) := ⟨by unfold stepR; rw [if_neg h0]⟩
    clear h0
    go_enter Tryd.func44, Tryd.ntmps44
    go_wp2
    go_ret
    rw [HS.out]
    exact ⟨rfl, HP.out, Bm.refl _ _ _⟩
  have k1 : (e != 0) = false := bne_eq_false_iff_eq.mpr h0
  subst h0
  obtain ⟨g1, hg1⟩ : ∃ z, (getS O a).1 = z := ⟨_, rfl⟩
  obtain ⟨g2, hg2⟩ : ∃ z, (getS O a).2.1 = z := ⟨_, rfl⟩
  obtain ⟨g3, hg3⟩ : ∃ z, (getS O a).2.2 = z := ⟨_, rfl⟩
  have HGs := Aside0.mk (And.intro hg1 (And.intro hg2 hg3))
  rw [hg1, hg2, hg3] at HH
  clear hg1 hg2 hg3
  go_enter Tryd.func44, Tryd.ntmps44
  go_wp2_with fail
  refine start_ (n := 16) (S := fun w' => w'.cell? ⟨p, 0, none⟩ = some (.slice A m c) ∧ w'.cell? ⟨p, 1, none⟩ = some (.int .i64 a)) (ds := []) #[F_,F_,F_,F_,F_,F_,F_,F_,F_,F_,F_,F_,F_,F_,F_,F_] (by kernel_rfl) rfl rfl ⟨(rd_cells (w := w.drew) HP.out).1, (rd_cells (w := w.drew) HP.out).2.1⟩ (fun hHeld => ?_)
  refine pure_ (i := 0) (N := some 12) (v := ?_) (a' := ?_) #[T_,F_,F_,F_,F_,F_,F_,F_,F_,F_,F_,F_,F_,F_,F_,F_] rfl rfl (by kernel_rfl) (fun _ _ _ h => h) (Or.inl ⟨by rfl, ?_⟩) ?_ ?_
  rotate_left
  · intro w'
    go_simp
    with_reducible rfl
  rotate_left
  · simp only [Act.put, List.setIfInBounds_toArray, List.set_cons_zero, List.set_cons_succ, i64_w, i32_w]
    rfl
  refine pure_ (i := 1) (N := some 13) (v := ?_) (a' := ?_) #[T_,T_,F_,F_,F_,F_,F_,F_,F_,F_,F_,F_,F_,F_,F_,F_] rfl rfl (by kernel_rfl) (fun _ _ _ h => h) (Or.inl ⟨by rfl, ?_⟩) ?_ ?_
  rotate_left
  · intro w'
    go_simp
    with_reducible rfl
  rotate_left
  · simp only [Act.put, List.setIfInBounds_toArray, List.set_cons_zero, List.set_cons_succ, i64_w, i32_w]
    rfl
  refine pure_ (i := 2) (N := some 14) (v := ?_) (a' := ?_) #[T_,T_,T_,F_,F_,F_,F_,F_,F_,F_,F_,F_,F_,F_,F_,F_] rfl rfl (by kernel_rfl) (fun _ _ _ h => h) (Or.inl ⟨by rfl, ?_⟩) ?_ ?_
  rotate_left
  · intro w'
    go_simp
    with_reducible rfl
  rotate_left
  · simp only [Act.put, List.setIfInBounds_toArray, List.set_cons_zero, List.set_cons_succ, i64_w, i32_w]
    rfl
  refine pure_ (i := 4) (N := some 16) (v := ?_) (a' := ?_) #[T_,T_,T_,F_,T_,F_,F_,F_,F_,F_,F_,F_,F_,F_,F_,F_] rfl rfl (by kernel_rfl) (fun _ _ _ h => h) (Or.inl ⟨by rfl, ?_⟩) ?_ ?_
  rotate_left
  · intro w'
    go_simp
    with_reducible rfl
  rotate_left
  · simp only [Act.put, List.setIfInBounds_toArray, List.set_cons_zero, List.set_cons_succ, i64_w, i32_w]
    rfl
  refine pure_ (i := 5) (N := some 17) (v := ?_) (a' := ?_) #[T_,T_,T_,F_,T_,T_,F_,F_,F_,F_,F_,F_,F_,F_,F_,F_] rfl rfl (by kernel_rfl) (fun _ _ _ h => h) (Or.inl ⟨by rfl, ?_⟩) ?_ ?_
  rotate_left
  · intro w'
    go_simp
    with_reducible rfl
  rotate_left
  · simp only [Act.put, List.setIfInBounds_toArray, List.set_cons_zero, List.set_cons_succ, i64_w, i32_w]
    rfl
  refine pure_ (i := 6) (N := some 18) (v := ?_) (a' := ?_) #[T_,T_,T_,F_,T_,T_,T_,F_,F_,F_,F_,F_,F_,F_,F_,F_] rfl rfl (by kernel_rfl) (fun _ _ _ h => h) (Or.inl ⟨by rfl, ?_⟩) ?_ ?_
  rotate_left
  · intro w'
    go_simp
    with_reducible rfl
  rotate_left
  · simp only [Act.put, List.setIfInBounds_toArray, List.set_cons_zero, List.set_cons_succ, i64_w, i32_w]
    rfl
  refine take_ (i := 3) (N := some 15) (v := ?_) (a' := ?_) #[T_,T_,T_,T_,T_,T_,T_,F_,F_,F_,F_,F_,F_,F_,F_,F_] rfl rfl (by kernel_rfl) (fun _ _ _ h => h) (Or.inl ⟨by rfl, ?_⟩) hHeld ?_ ?_
  rotate_left
  · rintro w' ⟨s0, s1⟩
    go_simp
    with_reducible rfl
  rotate_left
  · simp only [Act.put, List.setIfInBounds_toArray, List.set_cons_zero, List.set_cons_succ, i64_w, i32_w]
    rfl
  refine take_ (i := 7) (N := some 19) (v := ?_) (a' := ?_) #[T_,T_,T_,T_,T_,T_,T_,T_,F_,F_,F_,F_,F_,F_,F_,F_] rfl rfl (by kernel_rfl) (fun _ _ _ h => h) (Or.inl ⟨by rfl, ?_⟩) hHeld ?_ ?_
  rotate_left
  · rintro w' ⟨s0, s1⟩
    go_simp
    with_reducible rfl
  rotate_left
  · simp only [Act.put, List.setIfInBounds_toArray, List.set_cons_zero, List.set_cons_succ, i64_w, i32_w]
    rfl
  refine one_ (i := 8) (N := some 20) #[T_,T_,T_,T_,T_,T_,T_,T_,T_,F_,F_,F_,F_,F_,F_,F_] rfl rfl (by kernel_rfl) (by decide) (fun K hK => ?_)
  refine goes_ Tryd.func67 (by kernel_rfl) rfl #[.slice A m c, .int .i64 a] (by rfl) rfl rfl (by simp only [List.map_toArray, List.map_cons, List.map_nil]; rfl) ?_
  with_reducible refine (HH.out).mono ?_
  rintro e5 w5 ⟨rfl, hb5⟩
  refine ⟨_, rfl, ?_⟩
  have HP5 := Aside0.mk (blk_below (w := w.drew) HP.out hb5)
  have HB5 := Aside0.mk (((Bm.refl p p w).below (below_drew (Below.refl _ _))).below (w1 := w.drew) hb5)
  clear hb5
  refine hK.out _ _ ⟨(rd_cells HP5.out).1, (rd_cells HP5.out).2.1⟩ (fun hHeld => ?_)
  clear hK K
  refine norm_ (a' := ?_) ?_ ?_
  rotate_left
  · show Act.put _ (some 20) _ = _
    simp only [Act.put, List.setIfInBounds_toArray, List.set_cons_zero, List.set_cons_succ, i64_w, i32_w]
    rfl
  refine pure_ (i := 9) (N := some 11) (v := ?_) (a' := ?_) #[T_,T_,T_,T_,T_,T_,T_,T_,T_,T_,F_,F_,F_,F_,F_,F_] rfl rfl (by kernel_rfl) (fun _ _ _ h => h) (Or.inl ⟨by rfl, ?_⟩) ?_ ?_
  rotate_left
  · intro w'
    go_simp
    with_reducible rfl
  rotate_left
  · simp only [Act.put, List.setIfInBounds_toArray, List.set_cons_zero, List.set_cons_succ, i64_w, i32_w]
    rfl
  refine pure_ (i := 10) (N := some 21) (v := ?_) (a' := ?_) #[T_,T_,T_,T_,T_,T_,T_,T_,T_,T_,T_,F_,F_,F_,F_,F_] rfl rfl (by kernel_rfl) (fun _ _ _ h => h) (Or.inl ⟨by rfl, ?_⟩) ?_ ?_
  rotate_left
  · intro w'
    go_simp
    with_reducible rfl
  rotate_left
  · simp only [Act.put, List.setIfInBounds_toArray, List.set_cons_zero, List.set_cons_succ, i64_w, i32_w]
    rfl
  refine pure_ (i := 11) (N := some 22) (v := ?_) (a' := ?_) #[T_,T_,T_,T_,T_,T_,T_,T_,T_,T_,T_,T_,F_,F_,F_,F_] rfl rfl (by kernel_rfl) (fun _ _ _ h => h) (Or.inl ⟨by rfl, ?_⟩) ?_ ?_
  rotate_left
  · intro w'
    go_simp
    with_reducible rfl
  rotate_left
  · simp only [Act.put, List.setIfInBounds_toArray, List.set_cons_zero, List.set_cons_succ, i64_w, i32_w]
    rfl
  refine pure_ (i := 12) (N := some 23) (v := ?_) (a' := ?_) #[T_,T_,T_,T_,T_,T_,T_,T_,T_,T_,T_,T_,T_,F_,F_,F_] rfl rfl (by kernel_rfl) (fun _ _ _ h => h) (Or.inl ⟨by rfl, ?_⟩) ?_ ?_
  rotate_left
  · intro w'
    go_simp
    with_reducible rfl
  rotate_left
  · simp only [Act.put, List.setIfInBounds_toArray, List.set_cons_zero, List.set_cons_succ, i64_w, i32_w]
    rfl
  refine pure_ (i := 13) (N := some 3) (v := ?_) (a' := ?_) #[T_,T_,T_,T_,T_,T_,T_,T_,T_,T_,T_,T_,T_,T_,F_,F_] rfl rfl (by kernel_rfl) (fun _ _ _ h => h) (Or.inl ⟨by rfl, ?_⟩) ?_ ?_
  rotate_left
  · intro w'
    go_simp
    with_reducible rfl
  rotate_left
  · simp only [Act.put, List.setIfInBounds_toArray, List.set_cons_zero, List.set_cons_succ, i64_w, i32_w]
    rfl
  refine pure_ (i := 14) (N := some 4) (v := ?_) (a' := ?_) #[T_,T_,T_,T_,T_,T_,T_,T_,T_,T_,T_,T_,T_,T_,T_,F_] rfl rfl (by kernel_rfl) (fun _ _ _ h => h) (Or.inl ⟨by rfl, ?_⟩) ?_ ?_
  rotate_left
  · intro w'
    go_simp
    with_reducible rfl
  rotate_left
  · simp only [Act.put, List.setIfInBounds_toArray, List.set_cons_zero, List.set_cons_succ, i64_w, i32_w]
    rfl
  refine pure_ (i := 15) (N := some 5) (v := ?_) (a' := ?_) #[T_,T_,T_,T_,T_,T_,T_,T_,T_,T_,T_,T_,T_,T_,T_,T_] rfl rfl (by kernel_rfl) (fun _ _ _ h => h) (Or.inl ⟨by rfl, ?_⟩) ?_ ?_
  rotate_left
  · intro w'
    go_simp
    with_reducible rfl
  rotate_left
  · simp only [Act.put, List.setIfInBounds_toArray, List.set_cons_zero, List.set_cons_succ, i64_w, i32_w]
    rfl
  refine done_ (by kernel_rfl) ?_
  clear hHeld q0 q1 q2
  go_wp2_with fail
  refine (in_Fail.at_ A m c p a 0 g3 true w5 HP5.out).mono ?_
  rintro e6 w6 ⟨rfl, hP6, hB6⟩
  have hff : failF true g3 0 = g3 := rfl
  rw [hff] at hP6
  have HP6 := Aside0.mk hP6
  have HB6 := Aside0.mk (HB5.out.trans hB6)
  have qf := blk_frozen hP6 1
  obtain ⟨q0, q1, q2⟩ := rd_cells hP6
  clear hP6 hB6 hff
  by_cases h3 : g3 = 0
  · have k3 : (g3 != 0) = false := bne_eq_false_iff_eq.mpr h3
    have HS : Aside0 (stepR (getS O) (a, 0) = (g1, (g2, 0))) := ⟨by unfold stepR; rw [if_pos rfl, if_pos (by rw [HGs.out.2.2]; exact h3), HGs.out.1, HGs.out.2.1]⟩
    have H3 := Aside0.mk h3
    clear h3
    go_wp2
    go_ret
    rw [HS.out]
    refine ⟨rfl, ?_, HB6.out.setCell 1 _⟩
    have := blk_set HP6.out 1 (.int .i64 g2)
    rw [H3.out] at this
    exact this
  · have k3 : (g3 != 0) = true := bne_iff_ne.mpr h3
    have HS : Aside0 (stepR (getS O) (a, 0) = (0, (a, g3))) := ⟨by unfold stepR; rw [if_pos rfl, if_neg (by rw [HGs.out.2.2]; exact h3), HGs.out.2.2]⟩
    clear h3
    go_wp2
    go_ret
    rw [HS.out]
    exact ⟨rfl, HP6.out, HB6.out⟩
def textR (O : List Int) (a e : Int) : ByteArray × (Int × Int) := if e = 0 then (if (rdA O a).2.2 = 0 then ((rdA O a).1, ((rdA O a).2.1, 0)) else (⟨#[]⟩, (a, (rdA O a).2.2))) else (⟨#[]⟩, (a, e))
set_option maxHeartbeats 8000000 in
set_option maxRecDepth 20000 in
open Go.Proofs.YtniboafnkiijcaaDoor.Num in
theorem in_Text.at_ (A : Option Addr) (m c : Nat) (O : List Int) (p : Nat) (a e : Int) (w : World) (hH : TextHyp 68 A m c O) (hC : Kd.C (Kd.int .u8) w A m O) (hP : w.heap[p]? = some (.cells #[.slice A m c, .int .i64 a, .int .i64 e] 86 (0, 0))) :
    Calls Tryd.prog 46 #[.pointer (some ⟨p, 0, none⟩), .int .i64 200] w fun r w' => r = .returned (.string (textR O a e).1) ∧ w'.heap[p]? = some (.cells #[.slice A m c, .int .i64 (textR O a e).2.1, .int .i64 (textR O a e).2.2] 86 (0, 0)) ∧ Bm p p w w' := by
  have HP := Aside0.mk hP
  have HH := Aside0.mk (hH a w.drew (Kd.C_drew hC))
  have hra : getTextS O a 200 = rdA O a := rfl
  rw [hra] at HH
  clear hra
  obtain ⟨q0, q1, q2⟩ := rd_cells hP
  clear hP hC hH
  by_cases h0 : e = 0
  rotate_left
  · have k1 : (e != 0) = true := bne_iff_ne.mpr h0
    have HS : Aside0 (textR O a e = (⟨#[]⟩, (a, e))) := ⟨by unfold textR; rw [if_neg h0]⟩
    clear h0
    go_enter Tryd.func46, Tryd.ntmps46
    go_wp2
    go_ret
    rw [HS.out]
    exact ⟨rfl, HP.out, Bm.refl _ _ _⟩
  have k1 : (e != 0) = false := bne_eq_false_iff_eq.mpr h0
  subst h0
  obtain ⟨g1, hg1⟩ : ∃ z, (rdA O a).1 = z := ⟨_, rfl⟩
  obtain ⟨g2, hg2⟩ : ∃ z, (rdA O a).2.1 = z := ⟨_, rfl⟩
  obtain ⟨g3, hg3⟩ : ∃ z, (rdA O a).2.2 = z := ⟨_, rfl⟩
  have HGs := Aside0.mk (And.intro hg1 (And.intro hg2 hg3))
  rw [hg1, hg2, hg3] at HH
  clear hg1 hg2 hg3
  go_enter Tryd.func46, Tryd.ntmps46
  go_wp2_with fail
  refine start_ (n := 17) (S := fun w' => w'.cell? ⟨p, 0, none⟩ = some (.slice A m c) ∧ w'.cell? ⟨p, 1, none⟩ = some (.int .i64 a)) (ds := []) #[F_,F_,F_,F_,F_,F_,F_,F_,F_,F_,F_,F_,F_,F_,F_,F_,F_] (by kernel_rfl) rfl rfl ⟨(rd_cells (w := w.drew) HP.out).1, (rd_cells (w := w.drew) HP.out).2.1⟩ (fun hHeld => ?_)
  refine pure_ (i := 0) (N := some 14) (v := ?_) (a' := ?_) #[T_,F_,F_,F_,F_,F_,F_,F_,F_,F_,F_,F_,F_,F_,F_,F_,F_] rfl rfl (by kernel_rfl) (fun _ _ _ h => h) (Or.inl ⟨by rfl, ?_⟩) ?_ ?_
  rotate_left
  · intro w'
    go_simp
    with_reducible rfl
  rotate_left
  · simp only [Act.put, List.setIfInBounds_toArray, List.set_cons_zero, List.set_cons_succ, i64_w, i32_w]
    rfl
  refine pure_ (i := 1) (N := some 15) (v := ?_) (a' := ?_) #[T_,T_,F_,F_,F_,F_,F_,F_,F_,F_,F_,F_,F_,F_,F_,F_,F_] rfl rfl (by kernel_rfl) (fun _ _ _ h => h) (Or.inl ⟨by rfl, ?_⟩) ?_ ?_
  rotate_left
  · intro w'
    go_simp
    with_reducible rfl
  rotate_left
  · simp only [Act.put, List.setIfInBounds_toArray, List.set_cons_zero, List.set_cons_succ, i64_w, i32_w]
    rfl
  refine pure_ (i := 2) (N := some 16) (v := ?_) (a' := ?_) #[T_,T_,T_,F_,F_,F_,F_,F_,F_,F_,F_,F_,F_,F_,F_,F_,F_] rfl rfl (by kernel_rfl) (fun _ _ _ h => h) (Or.inl ⟨by rfl, ?_⟩) ?_ ?_
  rotate_left
  · intro w'
    go_simp
    with_reducible rfl
  rotate_left
  · simp only [Act.put, List.setIfInBounds_toArray, List.set_cons_zero, List.set_cons_succ, i64_w, i32_w]
    rfl
  refine pure_ (i := 4) (N := some 18) (v := ?_) (a' := ?_) #[T_,T_,T_,F_,T_,F_,F_,F_,F_,F_,F_,F_,F_,F_,F_,F_,F_] rfl rfl (by kernel_rfl) (fun _ _ _ h => h) (Or.inl ⟨by rfl, ?_⟩) ?_ ?_
  rotate_left
  · intro w'
    go_simp
    with_reducible rfl
  rotate_left
  · simp only [Act.put, List.setIfInBounds_toArray, List.set_cons_zero, List.set_cons_succ, i64_w, i32_w]
    rfl
  refine pure_ (i := 5) (N := some 19) (v := ?_) (a' := ?_) #[T_,T_,T_,F_,T_,T_,F_,F_,F_,F_,F_,F_,F_,F_,F_,F_,F_] rfl rfl (by kernel_rfl) (fun _ _ _ h => h) (Or.inl ⟨by rfl, ?_⟩) ?_ ?_
  rotate_left
  · intro w'
    go_simp
    with_reducible rfl
  rotate_left
  · simp only [Act.put, List.setIfInBounds_toArray, List.set_cons_zero, List.set_cons_succ, i64_w, i32_w]
    rfl
  refine pure_ (i := 6) (N := some 20) (v := ?_) (a' := ?_) #[T_,T_,T_,F_,T_,T_,T_,F_,F_,F_,F_,F_,F_,F_,F_,F_,F_] rfl rfl (by kernel_rfl) (fun _ _ _ h => h) (Or.inl ⟨by rfl, ?_⟩) ?_ ?_
  rotate_left
  · intro w'
    go_simp
    with_reducible rfl
  rotate_left
  · simp only [Act.put, List.setIfInBounds_toArray, List.set_cons_zero, List.set_cons_succ, i64_w, i32_w]
    rfl
  refine pure_ (i := 8) (N := some 22) (v := ?_) (a' := ?_) #[T_,T_,T_,F_,T_,T_,T_,F_,T_,F_,F_,F_,F_,F_,F_,F_,F_] rfl rfl (by kernel_rfl) (fun _ _ _ h => h) (Or.inl ⟨by rfl, ?_⟩) ?_ ?_
  rotate_left
  · intro w'
    go_simp
    with_reducible rfl
  rotate_left
  · simp only [Act.put, List.setIfInBounds_toArray, List.set_cons_zero, List.set_cons_succ, i64_w, i32_w]
    rfl
  refine take_ (i := 3) (N := some 17) (v := ?_) (a' := ?_) #[T_,T_,T_,T_,T_,T_,T_,F_,T_,F_,F_,F_,F_,F_,F_,F_,F_] rfl rfl (by kernel_rfl) (fun _ _ _ h => h) (Or.inl ⟨by rfl, ?_⟩) hHeld ?_ ?_
  rotate_left
  · rintro w' ⟨s0, s1⟩
    go_simp
    with_reducible rfl
  rotate_left
  · simp only [Act.put, List.setIfInBounds_toArray, List.set_cons_zero, List.set_cons_succ, i64_w, i32_w]
    rfl
  refine take_ (i := 7) (N := some 21) (v := ?_) (a' := ?_) #[T_,T_,T_,T_,T_,T_,T_,T_,T_,F_,F_,F_,F_,F_,F_,F_,F_] rfl rfl (by kernel_rfl) (fun _ _ _ h => h) (Or.inl ⟨by rfl, ?_⟩) hHeld ?_ ?_
  rotate_left
  · rintro w' ⟨s0, s1⟩
    go_simp
    with_reducible rfl
  rotate_left
  · simp only [Act.put, List.setIfInBounds_toArray, List.set_cons_zero, List.set_cons_succ, i64_w, i32_w]
    rfl
  refine one_ (i := 9) (N := some 23) #[T_,T_,T_,T_,T_,T_,T_,T_,T_,T_,F_,F_,F_,F_,F_,F_,F_] rfl rfl (by kernel_rfl) (by decide) (fun K hK => ?_)
  refine goes_ Tryd.func68 (by kernel_rfl) rfl #[.slice A m c, .int .i64 a, .int .i64 200] (by rfl) rfl rfl (by simp only [List.map_toArray, List.map_cons, List.map_nil]; rfl) ?_
  with_reducible refine (HH.out).mono ?_
  rintro e5 w5 ⟨rfl, hb5⟩
  refine ⟨_, rfl, ?_⟩
  have HP5 := Aside0.mk (blk_below (w := w.drew) HP.out hb5)
  have HB5 := Aside0.mk (((Bm.refl p p w).below (below_drew (Below.refl _ _))).below (w1 := w.drew) hb5)
  clear hb5
  refine hK.out _ _ ⟨(rd_cells HP5.out).1, (rd_cells HP5.out).2.1⟩ (fun hHeld => ?_)
  clear hK K
  refine norm_ (a' := ?_) ?_ ?_
  rotate_left
  · show Act.put _ (some 23) _ = _
    simp only [Act.put, List.setIfInBounds_toArray, List.set_cons_zero, List.set_cons_succ, i64_w, i32_w]
    rfl
  refine pure_ (i := 10) (N := some 13) (v := ?_) (a' := ?_) #[T_,T_,T_,T_,T_,T_,T_,T_,T_,T_,T_,F_,F_,F_,F_,F_,F_] rfl rfl (by kernel_rfl) (fun _ _ _ h => h) (Or.inl ⟨by rfl, ?_⟩) ?_ ?_
  rotate_left
  · intro w'
    go_simp
    with_reducible rfl
  rotate_left
  · simp only [Act.put, List.setIfInBounds_toArray, List.set_cons_zero, List.set_cons_succ, i64_w, i32_w]
    rfl
  refine pure_ (i := 11) (N := some 24) (v := ?_) (a' := ?_) #[T_,T_,T_,T_,T_,T_,T_,T_,T_,T_,T_,T_,F_,F_,F_,F_,F_] rfl rfl (by kernel_rfl) (fun _ _ _ h => h) (Or.inl ⟨by rfl, ?_⟩) ?_ ?_
  rotate_left
  · intro w'
    go_simp
    with_reducible rfl
  rotate_left
  · simp only [Act.put, List.setIfInBounds_toArray, List.set_cons_zero, List.set_cons_succ, i64_w, i32_w]
    rfl
  refine pure_ (i := 12) (N := some 25) (v := ?_) (a' := ?_) #[T_,T_,T_,T_,T_,T_,T_,T_,T_,T_,T_,T_,T_,F_,F_,F_,F_] rfl rfl (by kernel_rfl) (fun _ _ _ h => h) (Or.inl ⟨by rfl, ?_⟩) ?_ ?_
  rotate_left
  · intro w'
    go_simp
    with_reducible rfl
  rotate_left
  · simp only [Act.put, List.setIfInBounds_toArray, List.set_cons_zero, List.set_cons_succ, i64_w, i32_w]
    rfl
  refine pure_ (i := 13) (N := some 26) (v := ?_) (a' := ?_) #[T_,T_,T_,T_,T_,T_,T_,T_,T_,T_,T_,T_,T_,T_,F_,F_,F_] rfl rfl (by kernel_rfl) (fun _ _ _ h => h) (Or.inl ⟨by rfl, ?_⟩) ?_ ?_
  rotate_left
  · intro w'
    go_simp
    with_reducible rfl
  rotate_left
  · simp only [Act.put, List.setIfInBounds_toArray, List.set_cons_zero, List.set_cons_succ, i64_w, i32_w]
    rfl
  refine pure_ (i := 14) (N := some 5) (v := ?_) (a' := ?_) #[T_,T_,T_,T_,T_,T_,T_,T_,T_,T_,T_,T_,T_,T_,T_,F_,F_] rfl rfl (by kernel_rfl) (fun _ _ _ h => h) (Or.inl ⟨by rfl, ?_⟩) ?_ ?_
  rotate_left
  · intro w'
    go_simp
    with_reducible rfl
  rotate_left
  · simp only [Act.put, List.setIfInBounds_toArray, List.set_cons_zero, List.set_cons_succ, i64_w, i32_w]
    rfl
  refine pure_ (i := 15) (N := some 6) (v := ?_) (a' := ?_) #[T_,T_,T_,T_,T_,T_,T_,T_,T_,T_,T_,T_,T_,T_,T_,T_,F_] rfl rfl (by kernel_rfl) (fun _ _ _ h => h) (Or.inl ⟨by rfl, ?_⟩) ?_ ?_
  rotate_left
  · intro w'
    go_simp
    with_reducible rfl
  rotate_left
  · simp only [Act.put, List.setIfInBounds_toArray, List.set_cons_zero, List.set_cons_succ, i64_w, i32_w]
    rfl
  refine pure_ (i := 16) (N := some 7) (v := ?_) (a' := ?_) #[T_,T_,T_,T_,T_,T_,T_,T_,T_,T_,T_,T_,T_,T_,T_,T_,T_] rfl rfl (by kernel_rfl) (fun _ _ _ h => h) (Or.inl ⟨by rfl, ?_⟩) ?_ ?_
  rotate_left
  · intro w'
    go_simp
    with_reducible rfl
  rotate_left
  · simp only [Act.put, List.setIfInBounds_toArray, List.set_cons_zero, List.set_cons_succ, i64_w, i32_w]
    rfl
  refine done_ (by kernel_rfl) ?_
  clear hHeld q0 q1 q2
  go_wp2_with fail
  refine (in_Fail.at_ A m c p a 0 g3 true w5 HP5.out).mono ?_
  rintro e6 w6 ⟨rfl, hP6, hB6⟩
  have hff : failF true g3 0 = g3 := rfl
  rw [hff] at hP6
  have HP6 := Aside0.mk hP6
  have HB6 := Aside0.mk (HB5.out.trans hB6)
  have qf := blk_frozen hP6 1
  obtain ⟨q0, q1, q2⟩ := rd_cells hP6
  clear hP6 hB6 hff
  by_cases h3 : g3 = 0
  · have k3 : (g3 != 0) = false := bne_eq_false_iff_eq.mpr h3
    have HS : Aside0 (textR O a 0 = (g1, (g2, 0))) := ⟨by unfold textR; rw [if_pos rfl, if_pos (by rw [HGs.out.2.2]; exact h3), HGs.out.1, HGs.out.2.1]⟩
    have H3 := Aside0.mk h3
    clear h3
    go_wp2
    go_ret
    rw [HS.out]
    refine ⟨rfl, ?_, HB6.out.setCell 1 _⟩
    have := blk_set HP6.out 1 (.int .i64 g2)
    rw [H3.out] at this
    exact this
  · have k3 : (g3 != 0) = true := bne_iff_ne.mpr h3
    have HS : Aside0 (textR O a 0 = (⟨#[]⟩, (a, g3))) := ⟨by unfold textR; rw [if_pos rfl, if_neg (by rw [HGs.out.2.2]; exact h3), HGs.out.2.2]⟩
    clear h3
    go_wp2
    go_ret
    rw [HS.out]
    exact ⟨rfl, HP6.out, HB6.out⟩
set_option maxHeartbeats 16000000 in
set_option maxRecDepth 100000 in
theorem in_Some.at_ (A : Option Addr) (m c : Nat) (O : List Int) (p : Nat) (a e : Int) (w : World) (hm : O.length = m) (hmc : m ≤ c) (hmx : m ≤ 1000000) (h0 : 0 ≤ a) (h1 : a ≤ (m : Int)) (hCH : ∀ w', Bm p p w w' → Kd.C (Kd.int .u8) w' A m O) (hP : w.heap[p]? = some (.cells #[.slice A m c, .int .i64 a, .int .i64 e] 86 (0, 0))) :
    Calls Tryd.prog 48 #[.pointer (some ⟨p, 0, none⟩), .int .i64 32] w fun r w' => Bm p p w w' ∧
      ((failF (decide ((m : Int) - a < 32)) 4 e ≠ 0 ∧ r = .returned (.string ⟨#[]⟩) ∧ w'.heap[p]? = some (.cells #[.slice A m c, .int .i64 a, .int .i64 (failF (decide ((m : Int) - a < 32)) 4 e)] 86 (0, 0))) ∨
       (failF (decide ((m : Int) - a < 32)) 4 e = 0 ∧ r = .returned (.string (strOfNums ((O.take (a + 32).toNat).drop a.toNat))) ∧ w'.heap[p]? = some (.cells #[.slice A m c, .int .i64 (a + 32), .int .i64 0] 86 (0, 0)))) := by
  have HP := Aside0.mk hP
  have HCH := Aside0.mk hCH
  obtain ⟨q0, q1, q2⟩ := rd_cells hP
  have HM := Aside0.mk (And.intro hm (And.intro hmc hmx))
  have HA := Aside0.mk (And.intro h0 h1)
  have hw1 : wrap64 ((m : Int) - a) = (m : Int) - a := by unfold wrap64; omega
  have hw2 : IntKind.i64.wrap ((m : Int) - a) = (m : Int) - a := by rw [IntKind.wrap_i64]; omega
  obtain ⟨b, hb⟩ : ∃ b, decide ((m : Int) - a < 32) = b := ⟨_, rfl⟩
  rw [hb]
  have HBB := Aside0.mk hb
  have hFl := in_Fail.at_ A m c p a e 4 b w.drew (show w.drew.heap[p]? = _ from hP)
  obtain ⟨e6, he6⟩ : ∃ z, failF b 4 e = z := ⟨_, rfl⟩
  rw [he6] at hFl ⊢
  obtain ⟨sm, hsm⟩ : ∃ z, strOfNums ((O.take (a + 32).toNat).drop a.toNat) = z := ⟨_, rfl⟩
  rw [hsm]
  have HSM := Aside0.mk hsm
  have HE6 := Aside0.mk he6
  have HFl := Aside0.mk hFl
  clear he6 hFl hsm hP hCH hm hmc hmx h0 h1
  go_enter Tryd.func48, Tryd.ntmps48
  go_wp2_with fail
  refine start_ (n := 14) (S := fun w' => w'.cell? ⟨p, 0, none⟩ = some (.slice A m c) ∧ w'.cell? ⟨p, 1, none⟩ = some (.int .i64 a)) (ds := []) #[F_,F_,F_,F_,F_,F_,F_,F_,F_,F_,F_,F_,F_,F_] (by kernel_rfl) rfl rfl ⟨(rd_cells (w := w.drew) HP.out).1, (rd_cells (w := w.drew) HP.out).2.1⟩ (fun hHeld => ?_)
  refine pure_ (i := 0) (N := some 5) (v := ?_) (a' := ?_) #[T_,F_,F_,F_,F_,F_,F_,F_,F_,F_,F_,F_,F_,F_] rfl rfl (by kernel_rfl) (fun _ _ _ h => h) (Or.inl ⟨by rfl, ?_⟩) ?_ ?_
  rotate_left
  · intro w'
    go_simp
    with_reducible rfl
  rotate_left
  · simp only [Act.put, List.setIfInBounds_toArray, List.set_cons_zero, List.set_cons_succ, i64_w, i32_w]
    rfl
  refine pure_ (i := 1) (N := some 6) (v := ?_) (a' := ?_) #[T_,T_,F_,F_,F_,F_,F_,F_,F_,F_,F_,F_,F_,F_] rfl rfl (by kernel_rfl) (fun _ _ _ h => h) (Or.inl ⟨by rfl, ?_⟩) ?_ ?_
  rotate_left
  · intro w'
    go_simp
    with_reducible rfl
  rotate_left
  · simp only [Act.put, List.setIfInBounds_toArray, List.set_cons_zero, List.set_cons_succ, i64_w, i32_w]
    rfl
  refine pure_ (i := 2) (N := some 7) (v := ?_) (a' := ?_) #[T_,T_,T_,F_,F_,F_,F_,F_,F_,F_,F_,F_,F_,F_] rfl rfl (by kernel_rfl) (fun _ _ _ h => h) (Or.inl ⟨by rfl, ?_⟩) ?_ ?_
  rotate_left
  · intro w'
    go_simp
    with_reducible rfl
  rotate_left
  · simp only [Act.put, List.setIfInBounds_toArray, List.set_cons_zero, List.set_cons_succ, i64_w, i32_w]
    rfl
  refine pure_ (i := 3) (N := some 8) (v := ?_) (a' := ?_) #[T_,T_,T_,T_,F_,F_,F_,F_,F_,F_,F_,F_,F_,F_] rfl rfl (by kernel_rfl) (fun _ _ _ h => h) (Or.inl ⟨by rfl, ?_⟩) ?_ ?_
  rotate_left
  · intro w'
    go_simp
    with_reducible rfl
  rotate_left
  · simp only [Act.put, List.setIfInBounds_toArray, List.set_cons_zero, List.set_cons_succ, i64_w, i32_w]
    rfl
  refine pure_ (i := 6) (N := some 11) (v := ?_) (a' := ?_) #[T_,T_,T_,T_,F_,F_,T_,F_,F_,F_,F_,F_,F_,F_] rfl rfl (by kernel_rfl) (fun _ _ _ h => h) (Or.inl ⟨by rfl, ?_⟩) ?_ ?_
  rotate_left
  · intro w'
    go_simp
    with_reducible rfl
  rotate_left
  · simp only [Act.put, List.setIfInBounds_toArray, List.set_cons_zero, List.set_cons_succ, i64_w, i32_w]
    rfl
  refine pure_ (i := 7) (N := some 12) (v := ?_) (a' := ?_) #[T_,T_,T_,T_,F_,F_,T_,T_,F_,F_,F_,F_,F_,F_] rfl rfl (by kernel_rfl) (fun _ _ _ h => h) (Or.inl ⟨by rfl, ?_⟩) ?_ ?_
  rotate_left
  · intro w'
    go_simp
    with_reducible rfl
  rotate_left
  · simp only [Act.put, List.setIfInBounds_toArray, List.set_cons_zero, List.set_cons_succ, i64_w, i32_w]
    rfl
  refine pure_ (i := 8) (N := some 13) (v := ?_) (a' := ?_) #[T_,T_,T_,T_,F_,F_,T_,T_,T_,F_,F_,F_,F_,F_] rfl rfl (by kernel_rfl) (fun _ _ _ h => h) (Or.inl ⟨by rfl, ?_⟩) ?_ ?_
  rotate_left
  · intro w'
    go_simp
    with_reducible rfl
  rotate_left
  · simp only [Act.put, List.setIfInBounds_toArray, List.set_cons_zero, List.set_cons_succ, i64_w, i32_w]
    rfl
  refine pure_ (i := 11) (N := some 16) (v := ?_) (a' := ?_) #[T_,T_,T_,T_,F_,F_,T_,T_,T_,F_,F_,T_,F_,F_] rfl rfl (by kernel_rfl) (fun _ _ _ h => h) (Or.inl ⟨by rfl, ?_⟩) ?_ ?_
  rotate_left
  · intro w'
    go_simp
    with_reducible rfl
  rotate_left
  · simp only [Act.put, List.setIfInBounds_toArray, List.set_cons_zero, List.set_cons_succ, i64_w, i32_w]
    rfl
  refine take_ (i := 4) (N := some 9) (v := ?_) (a' := ?_) #[T_,T_,T_,T_,T_,F_,T_,T_,T_,F_,F_,T_,F_,F_] rfl rfl (by kernel_rfl) (fun _ _ _ h => h) (Or.inl ⟨by rfl, ?_⟩) hHeld ?_ ?_
  rotate_left
  · rintro w' ⟨s0, s1⟩
    go_simp
    with_reducible rfl
  rotate_left
  · simp only [Act.put, List.setIfInBounds_toArray, List.set_cons_zero, List.set_cons_succ, i64_w, i32_w]
    rfl
  refine pure_ (i := 5) (N := some 10) (v := ?_) (a' := ?_) #[T_,T_,T_,T_,T_,T_,T_,T_,T_,F_,F_,T_,F_,F_] rfl rfl (by kernel_rfl) (fun _ _ _ h => h) (Or.inl ⟨by rfl, ?_⟩) ?_ ?_
  rotate_left
  · intro w'
    go_simp
    with_reducible rfl
  rotate_left
  · simp only [Act.put, List.setIfInBounds_toArray, List.set_cons_zero, List.set_cons_succ, i64_w, i32_w]
    rfl
  refine take_ (i := 9) (N := some 14) (v := ?_) (a' := ?_) #[T_,T_,T_,T_,T_,T_,T_,T_,T_,T_,F_,T_,F_,F_] rfl rfl (by kernel_rfl) (fun _ _ _ h => h) (Or.inl ⟨by rfl, ?_⟩) hHeld ?_ ?_
  rotate_left
  · rintro w' ⟨s0, s1⟩
    go_simp
    with_reducible rfl
  rotate_left
  · simp only [Act.put, List.setIfInBounds_toArray, List.set_cons_zero, List.set_cons_succ, i64_w, i32_w]
    rfl
  refine pure_ (i := 10) (N := some 15) (v := ?_) (a' := ?_) #[T_,T_,T_,T_,T_,T_,T_,T_,T_,T_,T_,T_,F_,F_] rfl rfl (by kernel_rfl) (fun _ _ _ h => h) (Or.inl ⟨by rfl, ?_⟩) ?_ ?_
  rotate_left
  · intro w'
    go_simp
    with_reducible rfl
  rotate_left
  · simp only [Act.put, List.setIfInBounds_toArray, List.set_cons_zero, List.set_cons_succ, i64_w, i32_w]
    rfl
  refine pure_ (i := 12) (N := some 17) (v := ?_) (a' := ?_) #[T_,T_,T_,T_,T_,T_,T_,T_,T_,T_,T_,T_,T_,F_] rfl rfl (by kernel_rfl) (fun _ _ _ h => h) (Or.inl ⟨by rfl, ?_⟩) ?_ ?_
  rotate_left
  · intro w'
    go_simp
    with_reducible rfl
  rotate_left
  · simp only [Act.put, List.setIfInBounds_toArray, List.set_cons_zero, List.set_cons_succ, i64_w, i32_w]
    rfl
  refine one_ (i := 13) (N := some 18) #[T_,T_,T_,T_,T_,T_,T_,T_,T_,T_,T_,T_,T_,T_] rfl rfl (by kernel_rfl) (by decide) (fun K hK => ?_)
  refine goes_ Tryd.func45 (by kernel_rfl) rfl #[.pointer (some ⟨p, 0, none⟩), .bool b, .int .i64 4] (by rfl) rfl rfl (by simp only [List.map_toArray, List.map_cons, List.map_nil]; rfl) ?_
  with_reducible refine (HFl.out).mono ?_
  rintro e5 w5 ⟨rfl, hP5, hB5⟩
  refine ⟨_, rfl, ?_⟩
  have HP5 := Aside0.mk hP5
  have HB5 := Aside0.mk (((Bm.refl p p w).below (below_drew (Below.refl _ _))).trans hB5)
  clear hP5 hB5
  refine hK.out _ _ ⟨(rd_cells HP5.out).1, (rd_cells HP5.out).2.1⟩ (fun hHeld => ?_)
  clear hK K
  refine norm_ (a' := ?_) ?_ ?_
  rotate_left
  · show Act.put _ (some 18) _ = _
    simp only [Act.put, List.setIfInBounds_toArray, List.set_cons_zero, List.set_cons_succ, i64_w, i32_w]
    rfl
  refine done_ (by kernel_rfl) ?_
  clear hHeld q0 q1 q2 hb hw1 hw2
  obtain ⟨q0, q1, q2⟩ := rd_cells HP5.out
  by_cases k0 : e6 = 0
  rotate_left
  · have k1 : (e6 != 0) = true := bne_iff_ne.mpr k0
    have K0 := Aside0.mk k0
    clear k0
    go_wp2
    go_ret
    exact ⟨HB5.out, .inl ⟨K0.out, rfl, HP5.out⟩⟩
  subst k0
  have k1 : ((0 : Int) != 0) = false := rfl
  have hlt : ¬ (m : Int) - a < 32 := fun h => by
    have hbt : b = true := by rw [← HBB.out]; exact decide_eq_true h
    have h3 := HE6.out
    unfold failF at h3
    rw [hbt] at h3
    by_cases he : e = 0
    · rw [he] at h3; simp at h3
    · have : (e == 0) = false := beq_eq_false_iff_ne.mpr he
      rw [this] at h3
      exact he (by simpa using h3)
  obtain ⟨i0, hi0, hz0⟩ := Option.map_eq_some_iff.1 info_u8
  simp only [Prod.mk.injEq] at hz0
  obtain ⟨n5, hn5⟩ : ∃ z, (a + 32).toNat - a.toNat = z := ⟨_, rfl⟩
  obtain ⟨A5, hA5⟩ : ∃ z, (if c = a.toNat then A else A.map (·.add (a.toNat * 1))) = z := ⟨_, rfl⟩
  have hcut := cut_mid (P := Tryd.prog) 41 5 .i64 .i64 Tryd.underlying41 hi0 1 hz0.2.1 A m c a (a + 32) HA.out.1 (by omega) (by omega) HM.out.2.1
  rw [hn5, hA5] at hcut
  have HCV : Aside0 (∀ W : World, Bm p p w W → (convert 41 9 (.slice A5 n5 (c - a.toNat))).run Tryd.prog W = .ok (.string sm) W) := ⟨fun W hB => by
    have h3 := HCH.out W hB
    rw [← HM.out.1] at h3
    have h4 := Kd.C_mid (c := c) (lo := a.toNat) (hi := (a + 32).toNat) h3 (by omega) (by have := HM.out.1; have := HA.out; omega) (by have := HM.out; omega)
    have hl : ((O.take (a + 32).toNat).drop a.toNat).length = n5 := by rw [List.length_drop, List.length_take, ← hn5]; have := HM.out.1; have := HA.out; omega
    rw [hl, show (Kd.int .u8).sz = 1 from rfl, hA5] at h4
    rw [← HSM.out]
    exact C_str33 h4⟩
  have hs1 : wrap64 (a + 32) = a + 32 := by have := HM.out; have := HA.out; unfold wrap64; omega
  have hs2 : wrap64 (a + 32 - 32) = a := by have := HM.out; have := HA.out; unfold wrap64; omega
  have hs3 : IntKind.i64.wrap (a + 32 - 32) = a := by have := HM.out; have := HA.out; rw [IntKind.wrap_i64]; omega
  have hs4 : wrap64 a = a := by have := HM.out; have := HA.out; unfold wrap64; omega
  have hs5 : IntKind.i64.wrap a = a := by have := HM.out; have := HA.out; rw [IntKind.wrap_i64]; omega
  have HP7 := Aside0.mk (blk_set HP5.out 1 (.int .i64 (a + 32)))
  obtain ⟨w7, hw7⟩ : ∃ z, w5.setCell ⟨p, 1, none⟩ (.int .i64 (a + 32)) = z := ⟨_, rfl⟩
  have HB7 : Aside0 (Bm p p w w7) := ⟨by rw [← hw7]; exact HB5.out.setCell 1 _⟩
  rw [hw7] at HP7
  have HW7 := Aside0.mk hw7
  have qf := blk_frozen HP5.out 1
  clear hw7 hlt hi0 hz0 hn5 hA5
  go_wp2_with fail
  rw [HW7.out]
  have CVd : (convert 41 9 (.slice A5 n5 (c - a.toNat))).run Tryd.prog w7.drew = .ok (.string sm) w7.drew := HCV.out _ (HB7.out.below (below_drew (Below.refl _ _)))
  refine start_ (n := 17) (S := fun w' => w'.cell? ⟨p, 0, none⟩ = some (.slice A m c) ∧ w'.cell? ⟨p, 1, none⟩ = some (.int .i64 (a + 32)) ∧ (convert 41 9 (.slice A5 n5 (c - a.toNat))).run Tryd.prog w' = .ok (.string sm) w') (ds := []) #[F_,F_,F_,F_,F_,F_,F_,F_,F_,F_,F_,F_,F_,F_,F_,F_,F_] (by kernel_rfl) rfl rfl ⟨(rd_cells (w := w7.drew) HP7.out).1, (rd_cells (w := w7.drew) HP7.out).2.1, CVd⟩ (fun hHeld => ?_)
  refine pure_ (i := 0) (N := some 33) (v := ?_) (a' := ?_) #[T_,F_,F_,F_,F_,F_,F_,F_,F_,F_,F_,F_,F_,F_,F_,F_,F_] rfl rfl (by kernel_rfl) (fun _ _ _ h => h) (Or.inl ⟨by rfl, ?_⟩) ?_ ?_
  rotate_left
  · intro w'
    go_simp
    with_reducible rfl
  rotate_left
  · simp only [Act.put, List.setIfInBounds_toArray, List.set_cons_zero, List.set_cons_succ, i64_w, i32_w]
    rfl
  refine pure_ (i := 1) (N := some 34) (v := ?_) (a' := ?_) #[T_,T_,F_,F_,F_,F_,F_,F_,F_,F_,F_,F_,F_,F_,F_,F_,F_] rfl rfl (by kernel_rfl) (fun _ _ _ h => h) (Or.inl ⟨by rfl, ?_⟩) ?_ ?_
  rotate_left
  · intro w'
    go_simp
    with_reducible rfl
  rotate_left
  · simp only [Act.put, List.setIfInBounds_toArray, List.set_cons_zero, List.set_cons_succ, i64_w, i32_w]
    rfl
  refine pure_ (i := 2) (N := some 35) (v := ?_) (a' := ?_) #[T_,T_,T_,F_,F_,F_,F_,F_,F_,F_,F_,F_,F_,F_,F_,F_,F_] rfl rfl (by kernel_rfl) (fun _ _ _ h => h) (Or.inl ⟨by rfl, ?_⟩) ?_ ?_
  rotate_left
  · intro w'
    go_simp
    with_reducible rfl
  rotate_left
  · simp only [Act.put, List.setIfInBounds_toArray, List.set_cons_zero, List.set_cons_succ, i64_w, i32_w]
    rfl
  refine pure_ (i := 4) (N := some 37) (v := ?_) (a' := ?_) #[T_,T_,T_,F_,T_,F_,F_,F_,F_,F_,F_,F_,F_,F_,F_,F_,F_] rfl rfl (by kernel_rfl) (fun _ _ _ h => h) (Or.inl ⟨by rfl, ?_⟩) ?_ ?_
  rotate_left
  · intro w'
    go_simp
    with_reducible rfl
  rotate_left
  · simp only [Act.put, List.setIfInBounds_toArray, List.set_cons_zero, List.set_cons_succ, i64_w, i32_w]
    rfl
  refine pure_ (i := 5) (N := some 38) (v := ?_) (a' := ?_) #[T_,T_,T_,F_,T_,T_,F_,F_,F_,F_,F_,F_,F_,F_,F_,F_,F_] rfl rfl (by kernel_rfl) (fun _ _ _ h => h) (Or.inl ⟨by rfl, ?_⟩) ?_ ?_
  rotate_left
  · intro w'
    go_simp
    with_reducible rfl
  rotate_left
  · simp only [Act.put, List.setIfInBounds_toArray, List.set_cons_zero, List.set_cons_succ, i64_w, i32_w]
    rfl
  refine pure_ (i := 6) (N := some 39) (v := ?_) (a' := ?_) #[T_,T_,T_,F_,T_,T_,T_,F_,F_,F_,F_,F_,F_,F_,F_,F_,F_] rfl rfl (by kernel_rfl) (fun _ _ _ h => h) (Or.inl ⟨by rfl, ?_⟩) ?_ ?_
  rotate_left
  · intro w'
    go_simp
    with_reducible rfl
  rotate_left
  · simp only [Act.put, List.setIfInBounds_toArray, List.set_cons_zero, List.set_cons_succ, i64_w, i32_w]
    rfl
  refine pure_ (i := 8) (N := some 41) (v := ?_) (a' := ?_) #[T_,T_,T_,F_,T_,T_,T_,F_,T_,F_,F_,F_,F_,F_,F_,F_,F_] rfl rfl (by kernel_rfl) (fun _ _ _ h => h) (Or.inl ⟨by rfl, ?_⟩) ?_ ?_
  rotate_left
  · intro w'
    go_simp
    with_reducible rfl
  rotate_left
  · simp only [Act.put, List.setIfInBounds_toArray, List.set_cons_zero, List.set_cons_succ, i64_w, i32_w]
    rfl
  refine pure_ (i := 10) (N := some 43) (v := ?_) (a' := ?_) #[T_,T_,T_,F_,T_,T_,T_,F_,T_,F_,T_,F_,F_,F_,F_,F_,F_] rfl rfl (by kernel_rfl) (fun _ _ _ h => h) (Or.inl ⟨by rfl, ?_⟩) ?_ ?_
  rotate_left
  · intro w'
    go_simp
    with_reducible rfl
  rotate_left
  · simp only [Act.put, List.setIfInBounds_toArray, List.set_cons_zero, List.set_cons_succ, i64_w, i32_w]
    rfl
  refine pure_ (i := 11) (N := some 44) (v := ?_) (a' := ?_) #[T_,T_,T_,F_,T_,T_,T_,F_,T_,F_,T_,T_,F_,F_,F_,F_,F_] rfl rfl (by kernel_rfl) (fun _ _ _ h => h) (Or.inl ⟨by rfl, ?_⟩) ?_ ?_
  rotate_left
  · intro w'
    go_simp
    with_reducible rfl
  rotate_left
  · simp only [Act.put, List.setIfInBounds_toArray, List.set_cons_zero, List.set_cons_succ, i64_w, i32_w]
    rfl
  refine pure_ (i := 12) (N := some 45) (v := ?_) (a' := ?_) #[T_,T_,T_,F_,T_,T_,T_,F_,T_,F_,T_,T_,T_,F_,F_,F_,F_] rfl rfl (by kernel_rfl) (fun _ _ _ h => h) (Or.inl ⟨by rfl, ?_⟩) ?_ ?_
  rotate_left
  · intro w'
    go_simp
    with_reducible rfl
  rotate_left
  · simp only [Act.put, List.setIfInBounds_toArray, List.set_cons_zero, List.set_cons_succ, i64_w, i32_w]
    rfl
  refine take_ (i := 3) (N := some 36) (v := ?_) (a' := ?_) #[T_,T_,T_,T_,T_,T_,T_,F_,T_,F_,T_,T_,T_,F_,F_,F_,F_] rfl rfl (by kernel_rfl) (fun _ _ _ h => h) (Or.inl ⟨by rfl, ?_⟩) hHeld ?_ ?_
  rotate_left
  · rintro w' ⟨s0, s1, s2⟩
    go_simp
    with_reducible rfl
  rotate_left
  · simp only [Act.put, List.setIfInBounds_toArray, List.set_cons_zero, List.set_cons_succ, i64_w, i32_w]
    rfl
  refine take_ (i := 7) (N := some 40) (v := ?_) (a' := ?_) #[T_,T_,T_,T_,T_,T_,T_,T_,T_,F_,T_,T_,T_,F_,F_,F_,F_] rfl rfl (by kernel_rfl) (fun _ _ _ h => h) (Or.inl ⟨by rfl, ?_⟩) hHeld ?_ ?_
  rotate_left
  · rintro w' ⟨s0, s1, s2⟩
    go_simp
    with_reducible rfl
  rotate_left
  · simp only [Act.put, List.setIfInBounds_toArray, List.set_cons_zero, List.set_cons_succ, i64_w, i32_w]
    rfl
  refine pure_ (i := 9) (N := some 42) (v := ?_) (a' := ?_) #[T_,T_,T_,T_,T_,T_,T_,T_,T_,T_,T_,T_,T_,F_,F_,F_,F_] rfl rfl (by kernel_rfl) (fun _ _ _ h => h) (Or.inl ⟨by rfl, ?_⟩) ?_ ?_
  rotate_left
  · intro w'
    go_simp
    with_reducible rfl
  rotate_left
  · simp only [Act.put, List.setIfInBounds_toArray, List.set_cons_zero, List.set_cons_succ, i64_w, i32_w]
    rfl
  refine take_ (i := 13) (N := some 46) (v := ?_) (a' := ?_) #[T_,T_,T_,T_,T_,T_,T_,T_,T_,T_,T_,T_,T_,T_,F_,F_,F_] rfl rfl (by kernel_rfl) (fun _ _ _ h => h) (Or.inl ⟨by rfl, ?_⟩) hHeld ?_ ?_
  rotate_left
  · rintro w' ⟨s0, s1, s2⟩
    go_simp
    with_reducible rfl
  rotate_left
  · simp only [Act.put, List.setIfInBounds_toArray, List.set_cons_zero, List.set_cons_succ, i64_w, i32_w]
    rfl
  refine pure_ (i := 14) (N := some 47) (v := ?_) (a' := ?_) #[T_,T_,T_,T_,T_,T_,T_,T_,T_,T_,T_,T_,T_,T_,T_,F_,F_] rfl rfl (by kernel_rfl) (fun _ _ _ h => h) (Or.inl ⟨by rfl, ?_⟩) ?_ ?_
  rotate_left
  · intro w'
    go_simp
    with_reducible rfl
  rotate_left
  · simp only [Act.put, List.setIfInBounds_toArray, List.set_cons_zero, List.set_cons_succ, i64_w, i32_w]
    rfl
  refine take_ (i := 15) (N := some 48) (v := ?_) (a' := ?_) #[T_,T_,T_,T_,T_,T_,T_,T_,T_,T_,T_,T_,T_,T_,T_,T_,F_] rfl rfl (by kernel_rfl) (fun _ _ _ h => h) (Or.inl ⟨by rfl, ?_⟩) hHeld ?_ ?_
  rotate_left
  · rintro w' ⟨s0, s1, s2⟩
    go_simp
    with_reducible rfl
  rotate_left
  · simp only [Act.put, List.setIfInBounds_toArray, List.set_cons_zero, List.set_cons_succ, i64_w, i32_w]
    rfl
  refine pure_ (i := 16) (N := some 4) (v := ?_) (a' := ?_) #[T_,T_,T_,T_,T_,T_,T_,T_,T_,T_,T_,T_,T_,T_,T_,T_,T_] rfl rfl (by kernel_rfl) (fun _ _ _ h => h) (Or.inl ⟨by rfl, ?_⟩) ?_ ?_
  rotate_left
  · intro w'
    go_simp
    with_reducible rfl
  rotate_left
  · simp only [Act.put, List.setIfInBounds_toArray, List.set_cons_zero, List.set_cons_succ, i64_w, i32_w]
    rfl
  refine done_ (by kernel_rfl) ?_
  clear hHeld
  go_wp2
  go_ret
  first | exact ⟨HB7.out.below (below_drew (Below.refl _ _)), .inr ⟨rfl, rfl, HP7.out⟩⟩ | exact ⟨HB7.out.below (below_drew (Below.refl _ _)), rfl, HP7.out⟩
/-! ### remoraref33_Read: function 22, a contract of my own -/
def someR (O : List Int) (a e : Int) : ByteArray × (Int × Int) :=
  if failF (decide ((O.length : Int) - a < 32)) 4 e = 0 then (strOfNums ((O.take (a + 32).toNat).drop a.toNat), (a + 32, 0)) else (⟨#[]⟩, (a, failF (decide ((O.length : Int) - a < 32)) 4 e))
theorem failF_true (x e : Int) : failF true x e = if e = 0 then x else e := by
  unfold failF
  by_cases h : e = 0
  · rw [if_pos h, if_pos (by rw [h]; rfl)]
  · rw [if_neg h, if_neg (by simpa using h)]
theorem failF_dec (P : Prop) [Decidable P] (x e : Int) : failF (decide P) x e = if e = 0 then (if P then x else 0) else e := by
  unfold failF
  by_cases h : e = 0
  · rw [if_pos h]
    by_cases hP : P
    · rw [if_pos hP, if_pos (by rw [decide_eq_true hP, h]; rfl)]
    · rw [if_neg hP, if_neg (by rw [decide_eq_false hP]; simp), h]
  · rw [if_neg h, if_neg (by simp [h])]
theorem stepR_G {G : Int → Int × Int × Int} (hG : ∀ a, (G a).2.2 ≠ 0 → (G a).1 = 0) {s t : Int × Int} (h1 : s.2 = t.2) (h2 : s.2 = 0 → s.1 = t.1) :
    (stepR G s).1 = (stepG G t).1 ∧ (stepR G s).2.2 = (stepG G t).2.2 ∧ ((stepR G s).2.2 = 0 → (stepR G s).2.1 = (stepG G t).2.1) := by
  unfold stepR stepG
  rw [← h1]
  by_cases h : s.2 = 0
  · rw [if_pos h, if_pos h, ← h2 h]
    by_cases h3 : (G s.1).2.2 = 0
    · rw [if_pos h3]; exact ⟨rfl, h3.symm, fun _ => rfl⟩
    · rw [if_neg h3]; exact ⟨(hG _ h3).symm, rfl, fun h4 => absurd h4 h3⟩
  · rw [if_neg h, if_neg h]; exact ⟨rfl, h1, fun h4 => absurd h4 h⟩
theorem stepR_bd {G : Int → Int × Int × Int} {n : Nat} (hG : ∀ a, (G a).2.2 = 0 → 0 ≤ (G a).2.1 ∧ (G a).2.1 ≤ (n : Int)) {s : Int × Int} (h : 0 ≤ s.1 ∧ s.1 ≤ (n : Int)) : 0 ≤ (stepR G s).2.1 ∧ (stepR G s).2.1 ≤ (n : Int) := by
  unfold stepR
  split
  · split
    · exact hG _ (by assumption)
    · exact h
  · exact h
open Go.Proofs.YtniboafnkiijcaaDoor.Num in
theorem getS_no {O : List Int} (a : Int) (h : (getS O a).2.2 ≠ 0) : (getS O a).1 = 0 := by
  unfold getS at h ⊢
  split
  · rfl
  · rename_i h1
    rw [if_neg h1] at h
    unfold res at h ⊢
    split
    · rename_i h2
      rw [if_pos h2] at h
      exact absurd rfl h
    · rfl
open Go.Proofs.YtniboafnkiijcaaDoor.Num in
theorem getIntS_no {O : List Int} (a : Int) (h : (getIntS O a).2.2 ≠ 0) : (getIntS O a).1 = 0 := by
  unfold getIntS at h ⊢
  split
  · rename_i h2
    rw [if_pos h2] at h
    exact absurd rfl h
  · rfl
open Go.Proofs.YtniboafnkiijcaaDoor.Num in
theorem getIntS_bd {O : List Int} (hb : Byt O) (a : Int) (h : (getIntS O a).2.2 = 0) : 0 ≤ (getIntS O a).2.1 ∧ (getIntS O a).2.1 ≤ O.length := by
  unfold getIntS at h ⊢
  split
  · rename_i h2
    exact getS_bd hb a h2
  · rename_i h2
    rw [if_neg h2] at h
    exact absurd h h2
open Go.Proofs.YtniboafnkiijcaaDoor.Num in
theorem rdA_no {O : List Int} (a : Int) (h : (rdA O a).2.2 ≠ 0) : (rdA O a).1 = ⟨#[]⟩ := by
  unfold rdA getTextS at h ⊢
  split
  · rename_i h1
    split
    · rfl
    · split
      · rfl
      · rename_i h2 h3
        rw [if_pos h1, if_neg h2, if_neg h3] at h
        exact absurd rfl h
  · rfl
open Go.Proofs.YtniboafnkiijcaaDoor.Num in
theorem rdA_bd {O : List Int} (hb : Byt O) (a : Int) (h : (rdA O a).2.2 = 0) : 0 ≤ (rdA O a).2.1 ∧ (rdA O a).2.1 ≤ (O.length : Int) := by
  unfold rdA getTextS at h ⊢
  split
  · rename_i h1
    rw [if_pos h1] at h
    have hbd := getS_bd hb a h1
    rcases getS_range O a hb with ⟨h4, _⟩ | ⟨_, x, hx, _⟩
    · exact absurd h1 h4
    split
    · exact ⟨Int.le_refl _, Int.natCast_nonneg _⟩
    · split
      · exact ⟨Int.le_refl _, Int.natCast_nonneg _⟩
      · show 0 ≤ (getS O a).2.1 + (getS O a).1 ∧ (getS O a).2.1 + (getS O a).1 ≤ (O.length : Int)
        omega
  · exact ⟨Int.le_refl _, Int.natCast_nonneg _⟩
theorem textR_A (O : List Int) (a : Int) : (textR O a 0).1 = (rdA O a).1 ∧ (textR O a 0).2.2 = (rdA O a).2.2 ∧ ((textR O a 0).2.2 = 0 → (textR O a 0).2.1 = (rdA O a).2.1) := by
  unfold textR
  rw [if_pos rfl]
  by_cases h : (rdA O a).2.2 = 0
  · rw [if_pos h]; exact ⟨rfl, h.symm, fun _ => rfl⟩
  · rw [if_neg h]; exact ⟨(rdA_no a h).symm, rfl, fun h2 => absurd h2 h⟩
open Go.Proofs.YtniboafnkiijcaaDoor.Num in
/-- The line as the document's reader has it. -/
def qs1 (O : List Int) (a : Int) : Int × (Int × Int) := stepR (getS O) (textR O a 0).2
open Go.Proofs.YtniboafnkiijcaaDoor.Num in
def qs2 (O : List Int) (a : Int) : Int × (Int × Int) := stepR (getS O) (qs1 O a).2
open Go.Proofs.YtniboafnkiijcaaDoor.Num in
def qs3 (O : List Int) (a : Int) : Int × (Int × Int) := stepR (getIntS O) (qs2 O a).2
open Go.Proofs.YtniboafnkiijcaaDoor.Num in
def qs4 (O : List Int) (a : Int) : Int × (Int × Int) := stepR (getS O) (qs3 O a).2
def qs5 (O : List Int) (a : Int) : ByteArray × (Int × Int) := someR O (qs4 O a).2.1 (qs4 O a).2.2
def qsY (O : List Int) (a : Int) : Ln := ⟨(textR O a 0).1, (qs1 O a).1, (qs2 O a).1, (qs3 O a).1, (qs4 O a).1, (qs5 O a).1⟩
open Go.Proofs.YtniboafnkiijcaaDoor.Num in
theorem qs_bd {O : List Int} (hb : Byt O) {a : Int} (h : 0 ≤ a ∧ a ≤ (O.length : Int)) : (0 ≤ (qs4 O a).2.1 ∧ (qs4 O a).2.1 ≤ (O.length : Int)) ∧ (0 ≤ (qs5 O a).2.1 ∧ (qs5 O a).2.1 ≤ (O.length : Int)) := by
  have h0 : 0 ≤ (textR O a 0).2.1 ∧ (textR O a 0).2.1 ≤ (O.length : Int) := by
    unfold textR
    rw [if_pos rfl]
    split
    · exact rdA_bd hb a (by assumption)
    · exact h
  have h4 : 0 ≤ (qs4 O a).2.1 ∧ (qs4 O a).2.1 ≤ (O.length : Int) := stepR_bd (fun z => getS_bd hb z) (stepR_bd (fun z => getIntS_bd hb z) (stepR_bd (fun z => getS_bd hb z) (stepR_bd (fun z => getS_bd hb z) h0)))
  refine ⟨h4, ?_⟩
  unfold qs5 someR
  by_cases h5 : failF (decide ((O.length : Int) - (qs4 O a).2.1 < 32)) 4 (qs4 O a).2.2 = 0
  · rw [if_pos h5]
    rw [failF_dec] at h5
    show 0 ≤ (qs4 O a).2.1 + 32 ∧ (qs4 O a).2.1 + 32 ≤ (O.length : Int)
    by_cases h6 : (qs4 O a).2.2 = 0
    · rw [if_pos h6] at h5
      by_cases h7 : (O.length : Int) - (qs4 O a).2.1 < 32
      · rw [if_pos h7] at h5; omega
      · omega
    · rw [if_neg h6] at h5; exact absurd h5 h6
  · rw [if_neg h5]; exact h4
open Go.Proofs.YtniboafnkiijcaaDoor.Num in
theorem qs_line (O : List Int) (a : Int) : qsY O a = (rdLine O a).1 ∧ failF true (mayF (qsY O a)) (qs5 O a).2.2 = (rdLine O a).2.2 ∧ ((rdLine O a).2.2 = 0 → (qs5 O a).2.1 = (rdLine O a).2.1) := by
  obtain ⟨t1, t2, t3⟩ := textR_A O a
  obtain ⟨a1, a2, a3⟩ := stepR_G (G := getS O) (fun z h => getS_no z h) (s := (textR O a 0).2) (t := (rdA O a).2) t2 t3
  obtain ⟨b1, b2, b3⟩ := stepR_G (G := getS O) (fun z h => getS_no z h) (s := (qs1 O a).2) (t := (rd1 O a).2) a2 a3
  obtain ⟨c1, c2, c3⟩ := stepR_G (G := getIntS O) (fun z h => getIntS_no z h) (s := (qs2 O a).2) (t := (rd2 O a).2) b2 b3
  obtain ⟨d1, d2, d3⟩ := stepR_G (G := getS O) (fun z h => getS_no z h) (s := (qs3 O a).2) (t := (rd3 O a).2) c2 c3
  have e2 : (qs4 O a).2.2 = (rd4 O a).2.2 := d2
  have e3 : (qs4 O a).2.2 = 0 → (qs4 O a).2.1 = (rd4 O a).2.1 := d3
  have hE : failF (decide ((O.length : Int) - (qs4 O a).2.1 < 32)) 4 (qs4 O a).2.2 = rdE O a := by
    rw [failF_dec]
    unfold rdE
    by_cases h : (qs4 O a).2.2 = 0
    · rw [if_pos h, if_pos (show (rd4 O a).2.2 = 0 from by rw [← e2]; exact h), e3 h]
    · rw [if_neg h, if_neg (show ¬ (rd4 O a).2.2 = 0 from by rw [← e2]; exact h), e2]
  have hY : ∀ sm, (⟨(textR O a 0).1, (qs1 O a).1, (qs2 O a).1, (qs3 O a).1, (qs4 O a).1, sm⟩ : Ln) = rdX O a sm := fun sm => by
    unfold rdX
    rw [t1, show (qs1 O a).1 = (rd1 O a).1 from a1, show (qs2 O a).1 = (rd2 O a).1 from b1, show (qs3 O a).1 = (rd3 O a).1 from c1, show (qs4 O a).1 = (rd4 O a).1 from d1]
  by_cases h : rdE O a = 0
  · have h4 : (qs4 O a).2.2 = 0 := by
      have h5 := h
      rw [← hE, failF_dec] at h5
      by_cases h6 : (qs4 O a).2.2 = 0
      · exact h6
      · rw [if_neg h6] at h5; exact h5
    have hs : qs5 O a = (rdSm O a, ((rd4 O a).2.1 + 32, 0)) := by
      unfold qs5 someR
      rw [if_pos (by rw [hE]; exact h), e3 h4]
      rfl
    have hq : qsY O a = rdX O a (rdSm O a) := by unfold qsY; rw [hs]; exact hY _
    unfold rdLine
    rw [if_pos h, hq, hs]
    exact ⟨rfl, by rw [failF_true, if_pos rfl], fun _ => rfl⟩
  · have hs : qs5 O a = (⟨#[]⟩, ((qs4 O a).2.1, rdE O a)) := by
      unfold qs5 someR
      rw [if_neg (by rw [hE]; exact h), hE]
    have hq : qsY O a = rdX O a ⟨#[]⟩ := by unfold qsY; rw [hs]; exact hY _
    unfold rdLine
    rw [if_neg h, hq, hs]
    exact ⟨rfl, by rw [failF_true, if_neg h], fun h2 => absurd h2 h⟩
theorem Rl.bm1 {b0 p q ty : Nat} {room : Int} {v : Value} {S : List Ln} {w w' : World} {cs : Array Value} (h : Rl b0 p room v S w) (hb : Bm q q w w') (hq : w.heap[q]? = some (.cells cs ty (0, 0))) (ht : ty ≠ 60 ∧ ty ≠ 71) : Rl b0 p room v S w' := by
  have hp : p ≠ q := fun e => by
    have h1 := h.hP
    rw [e, hq] at h1
    injection h1 with h1
    injection h1 with _ h1
    exact ht.1 h1
  refine ⟨(hb.block p (blk_lt h.hP) hp hp).trans h.hP, ?_, h.hp0, h.hl⟩
  have hE : k71.E = [] := by rfl
  have h2 := Kd.R_types h.hR hq (fun z hz => by rw [hE] at hz; rw [List.mem_singleton.1 hz]; exact Ne.symm ht.2)
  exact Kd.R_mono (Kd.R_step h2 (fun k hk hlt => hb.block k hlt hk.2 hk.2)) (fun k hk => hk.1)
theorem Rl.far {b0 p g : Nat} {room : Int} {v : Value} {S : List Ln} {w : World} (h : Rl b0 p room v S w) (hg : g ≠ p) (hv : v.ownBlock ≠ some g) (i : Nat) (u : Value) : Rl b0 p room v S (w.setCell ⟨g, i, none⟩ u) := by
  refine ⟨blk_far (p := ⟨g, i, none⟩) h.hP (Ne.symm hg) u, ?_, h.hp0, h.hl⟩
  have h2 := Kd.R_tight rfl h.hR
  exact Kd.R_mono (Kd.R_far h2 (p := ⟨g, i, none⟩) (fun k hk e => hv (by rw [← hk]; exact congrArg some e)) u) (fun k hk => h.hR.1 k hk.symm)
theorem Rl.farP {b0 p g ty : Nat} {room : Int} {v : Value} {S : List Ln} {w : World} {cs : Array Value} (h : Rl b0 p room v S w) (hq : w.heap[g]? = some (.cells cs ty (0, 0))) (ht : ty ≠ 60 ∧ ty ≠ 71) (i : Nat) (u : Value) : Rl b0 p room v S (w.setCell ⟨g, i, none⟩ u) :=
  h.bm1 ((Bm.refl g g w).setCell i u) hq ht
theorem lx_cells' {w : World} {g : Nat} {a b c d e f : Value} {ty : Nat} (h : w.heap[g]? = some (.cells #[a, b, c, d, e, f] ty (0, 0))) : w.cell? ⟨g, 0, none⟩ = some a ∧ w.cell? ⟨g, 1, none⟩ = some b ∧ w.cell? ⟨g, 2, none⟩ = some c ∧ w.cell? ⟨g, 3, none⟩ = some d ∧ w.cell? ⟨g, 4, none⟩ = some e ∧ w.cell? ⟨g, 5, none⟩ = some f := lnz_cells h
theorem in_Some.one (A : Option Addr) (m c : Nat) (O : List Int) (p : Nat) (a e : Int) (w : World) (hm : O.length = m) (hmc : m ≤ c) (hmx : m ≤ 1000000) (h0 : 0 ≤ a) (h1 : a ≤ (m : Int)) (hCH : ∀ w', Bm p p w w' → Kd.C (Kd.int .u8) w' A m O) (hP : w.heap[p]? = some (.cells #[.slice A m c, .int .i64 a, .int .i64 e] 86 (0, 0))) :
    Calls Tryd.prog 48 #[.pointer (some ⟨p, 0, none⟩), .int .i64 32] w fun r w' => r = .returned (.string (someR O a e).1) ∧ w'.heap[p]? = some (.cells #[.slice A m c, .int .i64 (someR O a e).2.1, .int .i64 (someR O a e).2.2] 86 (0, 0)) ∧ Bm p p w w' := by
  refine (in_Some.at_ A m c O p a e w hm hmc hmx h0 h1 hCH hP).mono ?_
  rintro r w' ⟨hB, ⟨h2, rfl, hP2⟩ | ⟨h2, rfl, hP2⟩⟩
  · have hs : someR O a e = (⟨#[]⟩, (a, failF (decide ((m : Int) - a < 32)) 4 e)) := by unfold someR; rw [hm, if_neg h2]
    rw [hs]
    exact ⟨rfl, hP2, hB⟩
  · have hs : someR O a e = (strOfNums ((O.take (a + 32).toNat).drop a.toNat), (a + 32, 0)) := by unfold someR; rw [hm, if_pos h2]
    rw [hs]
    exact ⟨rfl, hP2, hB⟩
theorem ref_Read.bad (A : Option Addr) (m c : Nat) (room : Int) (w : World) (h : (decide (room < 1) || decide (room > 4096)) = true) :
    Calls Tryd.prog 22 #[.slice A m c, .int .i64 room] w fun e w' => e = .returned (.tuple #[.pointer none, .int .i64 2]) ∧ Below w.heap.size w w' := by
  have HN := Aside0.mk (ref_New.bad room w h)
  clear h
  go_enter Tryd.func22, Tryd.ntmps22
  go_wp2_with fail
  refine HN.out.mono ?_
  rintro e w1 ⟨rfl, rfl⟩
  go_wp2
  go_ret2
  exact ⟨rfl, Below.refl _ _⟩
theorem ref_Read.shut (k : Nat) (A : Option Addr) (c : Nat) (l O : List Int) (eo : Int) (room : Int) (w : World) (hr : Kd.C (Kd.int .u8) w A l.length l) (hc : l.length ≤ c) (ho : remoraref02_Open.f k l = some (O, eo)) (he : eo ≠ 0) (h : (decide (room < 1) || decide (room > 4096)) = false) :
    Calls Tryd.prog 22 #[.slice A l.length c, .int .i64 room] w fun e w' => e = .returned (.tuple #[.pointer none, .int .i64 eo]) ∧ Below w.heap.size w w' := by
  have HN := Aside0.mk (ref_New.at_ room w h)
  have HO := Aside0.mk (fun (w1 : World) (hC : Kd.C (Kd.int .u8) w1 A l.length l) => remoraref02_Open.calls k A c l O eo w1 hC hc ho)
  have HC := Aside0.mk hr
  have e1 : (eo != 0) = true := bne_iff_ne.mpr he
  clear h hr hc ho he
  go_enter Tryd.func22, Tryd.ntmps22
  go_wp2_with fail
  refine HN.out.mono ?_
  rintro e w1 ⟨p, rfl, hL, hB⟩
  have HB := Aside0.mk hB
  clear hL hB HN
  go_wp2_with fail
  refine (HO.out w1 (Kd.C_below HC.out HB.out)).mono ?_
  rintro e w2 ⟨v, rfl, hR, hb⟩
  have HB2 := Aside0.mk (ld_step HB.out hb)
  clear hR hb HO
  go_wp2
  go_ret2
  exact ⟨rfl, HB2.out⟩
def RefPost (w : World) (room : Int) (r : Int × List Ln) (e : Ending) (w' : World) : Prop :=
  Below w.heap.size w w' ∧ ((r.1 ≠ 0 ∧ e = .returned (.tuple #[.pointer none, .int .i64 r.1])) ∨
    (r.1 = 0 ∧ ∃ p v, e = .returned (.tuple #[.pointer (some ⟨p, 0, none⟩), .int .i64 0]) ∧ Rl w.heap.size p room v r.2 w'))
set_option maxHeartbeats 32000000 in
set_option maxRecDepth 100000 in
open Go.Proofs.YtniboafnkiijcaaDoor.Num in
theorem ref_Read.at_ (ko : Nat) (A0 : Option Addr) (c0 : Nat) (l O : List Int) (room : Int) (w : World) (hr : Kd.C (Kd.int .u8) w A0 l.length l) (hc0 : l.length ≤ c0) (ho : remoraref02_Open.f ko l = some (O, 0)) (h : (decide (room < 1) || decide (room > 4096)) = false) (hb : Byt O) (hmx : O.length ≤ 1000000)
    (hH1 : ∀ A c, O.length ≤ c → GetHyp 67 (getS O) A O.length c O) (hH2 : ∀ A c, O.length ≤ c → GetHyp 47 (getIntS O) A O.length c O) (hH3 : ∀ A c, O.length ≤ c → TextHyp 68 A O.length c O) :
    Calls Tryd.prog 22 #[.slice A0 l.length c0, .int .i64 room] w (RefPost w room (rdTop O room)) := by
  have HRoom : Aside0 (1 ≤ room ∧ room ≤ 4096) := ⟨by
    obtain ⟨h1, h2⟩ := Bool.or_eq_false_iff.1 h
    have h1 := of_decide_eq_false h1
    have h2 := of_decide_eq_false h2
    omega⟩
  have HN := Aside0.mk (ref_New.at_ room w h)
  have HO := Aside0.mk (fun (w1 : World) (hC : Kd.C (Kd.int .u8) w1 A0 l.length l) => remoraref02_Open.calls ko A0 c0 l O 0 w1 hC hc0 ho)
  have HC := Aside0.mk hr
  have HBY := Aside0.mk hb
  have HMX := Aside0.mk hmx
  have HH1 := Aside0.mk hH1
  have HH2 := Aside0.mk hH2
  have HH3 := Aside0.mk hH3
  clear h hr hc0 ho hb hmx hH1 hH2 hH3
  go_enter Tryd.func22, Tryd.ntmps22
  go_wp2_with fail
  refine HN.out.mono ?_
  rintro e w1 ⟨p, rfl, hL, hB⟩
  have HB1 := Aside0.mk hB
  have HL1 := Aside0.mk hL
  clear hL hB HN
  go_wp2_with fail
  refine (HO.out w1 (Kd.C_below HC.out HB1.out)).mono ?_
  rintro e w2 ⟨v, rfl, hR, hb⟩
  have HB2 := Aside0.mk (ld_step HB1.out hb)
  have HL2 := Aside0.mk (HL1.out.below hb)
  obtain ⟨A, c, rfl⟩ := Kd.R_slice hR
  obtain ⟨hcl, -⟩ := (Kd.R_reads' hR).2
  obtain ⟨m, hm⟩ : ∃ m, O.length = m := ⟨_, rfl⟩
  rw [hm] at hR hcl ⊢
  have HM := Aside0.mk (And.intro hm hcl)
  have H1 := Aside0.mk (HH1.out A c (by rw [hm]; exact hcl))
  have H2 := Aside0.mk (HH2.out A c (by rw [hm]; exact hcl))
  have H3 := Aside0.mk (HH3.out A c (by rw [hm]; exact hcl))
  rw [hm] at H1 H2 H3
  obtain ⟨pr, hpr⟩ : ∃ z, w2.heap.size = z := ⟨_, rfl⟩
  obtain ⟨w3, hw3⟩ : ∃ z, w2.alloc (.cells #[.slice A m c, .int .i64 0, .int .i64 0] 86) = z := ⟨_, rfl⟩
  have HB23 : Below w2.heap.size w2 w3 := by rw [← hw3]; exact below_alloc (Below.refl _ _) _
  have HP3 : Aside0 (w3.heap[pr]? = some (.cells #[.slice A m c, .int .i64 0, .int .i64 0] 86 (0, 0))) := ⟨by rw [← hw3, ← hpr]; exact blk_new w2 _⟩
  have HL3 := Aside0.mk (HL2.out.below HB23)
  have HB3 := Aside0.mk (ld_step HB2.out HB23)
  obtain ⟨n0, hn0⟩ : ∃ z, w3.heap.size = z := ⟨_, rfl⟩
  have HNE : Aside0 (pr ≠ p ∧ w.heap.size ≤ pr ∧ w.heap.size ≤ p ∧ w.heap.size ≤ n0 ∧ p < n0 ∧ pr < n0) := ⟨by have h1 := blk_lt HL2.out.hP; have h3 := HB2.out.size; have h4 := blk_lt HP3.out; have h5 := HB23.size; exact ⟨by omega, by omega, HL2.out.hp0, by omega, by omega, by omega⟩⟩
  have HS3 : Aside0 (Src (fun k => k = pr ∨ k = p ∨ n0 ≤ k) A m O w3) := ⟨by
    refine (Src.of (X := (fun k => k = pr ∨ k = p ∨ n0 ≤ k)) hR hm ?_).below HB23
    rintro k cells (rfl | rfl | hk0) hk hc
    · omega
    · rw [HL2.out.hP] at hc
      injection hc with hc
      injection hc with _ hc
      exact absurd hc (by decide)
    · have := HB23.size; omega⟩
  have HN0 : Aside0 (n0 ≤ w3.heap.size) := ⟨by rw [hn0]; exact Nat.le_refl _⟩
  clear hR hb hcl hm HB23 HL1 HL2 HB1 HB2 HO hn0
  go_wp2_with fail
  refine (in_Num.at_ A m c O pr 0 0 w3 H1.out HS3.out.now HP3.out).mono ?_
  rintro e w4 ⟨rfl, hP4, hB4⟩
  have HL4 : Aside0 (Rl w.heap.size p room (.slice none 0 0) [] w4) := ⟨HL3.out.bm1 hB4 HP3.out (by decide)⟩
  have HS4 := Aside0.mk (HS3.out.bm hB4 (.inl rfl) (.inl rfl))
  have HN4 : Aside0 (n0 ≤ w4.heap.size) := ⟨Nat.le_trans HN0.out hB4.size⟩
  have HB4 := Aside0.mk (Bm.to hB4 HB3.out (Nat.le_refl _) HNE.out.2.1 HNE.out.2.1)
  have HP4 := Aside0.mk hP4
  clear hP4 hB4 HL3 HS3 HB3 HP3 hw3 hpr HN0
  obtain ⟨N, hN⟩ : ∃ N : Nat, (stepR (getS O) (0, 0)).1 = (N : Int) := by
    unfold stepR
    rw [if_pos rfl]
    rcases getS_range O 0 HBY.out with ⟨h, _⟩ | ⟨h, x, hx, _⟩
    · exact ⟨0, by rw [if_neg h]; rfl⟩
    · exact ⟨x, by rw [if_pos h]; exact hx⟩
  have hab : 0 ≤ (stepR (getS O) (0, 0)).2.1 ∧ (stepR (getS O) (0, 0)).2.1 ≤ (m : Int) := by
    have := stepR_bd (n := O.length) (G := getS O) (fun z h => getS_bd HBY.out z h) (s := (0, 0)) ⟨Int.le_refl _, Int.natCast_nonneg _⟩
    rw [HM.out.1] at this
    exact this
  obtain ⟨a1, ha1⟩ : ∃ z, (stepR (getS O) (0, 0)).2.1 = z := ⟨_, rfl⟩
  obtain ⟨e0, he0⟩ : ∃ z, (stepR (getS O) (0, 0)).2.2 = z := ⟨_, rfl⟩
  rw [ha1] at hab
  rw [ha1, he0] at HP4
  rw [hN]
  obtain ⟨e5, he5⟩ : ∃ z, failF (decide ((N : Int) > room)) 7 e0 = z := ⟨_, rfl⟩
  obtain ⟨RT, hRT⟩ : ∃ z, rdTop O room = z := ⟨_, rfl⟩
  have HRT := Aside0.mk hRT
  have HE : Aside0 ((e5 = 0 → (N : Int) ≤ room ∧ RT = finR m (rdLines O N a1 [])) ∧ (e5 ≠ 0 → RT = (e5, []))) := ⟨by
    rw [failF_dec] at he5
    unfold stepR at hN ha1 he0
    rw [if_pos rfl] at hN ha1 he0
    by_cases hz : (getS O 0).2.2 = 0
    · rw [if_pos hz] at hN ha1 he0
      dsimp only at hN ha1 he0
      rw [if_pos he0.symm] at he5
      by_cases hg : (N : Int) > room
      · rw [if_pos hg] at he5
        exact ⟨fun h => by omega, fun _ => by rw [← hRT, ← he5]; unfold rdTop; rw [if_neg (by rw [hz]; decide), if_pos (by rw [hN]; exact hg)]⟩
      · rw [if_neg hg] at he5
        exact ⟨fun _ => ⟨by omega, by rw [← hRT, rdTop_fin hz (by rw [hN]; exact hg), HM.out.1, hN, ha1, Int.toNat_natCast]⟩, fun h => absurd he5.symm h⟩
    · rw [if_neg hz] at hN ha1 he0
      dsimp only at hN ha1 he0
      rw [he0] at hz
      rw [if_neg hz] at he5
      exact ⟨fun h => absurd (he5.trans h) hz, fun _ => by rw [← hRT, ← he5]; unfold rdTop; rw [he0, if_pos hz]⟩⟩
  have HAB := Aside0.mk hab
  have hFl := in_Fail.at_ A m c pr a1 e0 7 (decide ((N : Int) > room)) w4 HP4.out
  rw [he5] at hFl
  have HFl := Aside0.mk hFl
  clear hN ha1 he0 he5 hRT hab hFl
  go_wp2_with fail
  refine HFl.out.mono ?_
  rintro e w5 ⟨rfl, hP5, hB5⟩
  have HL5 : Aside0 (Rl w.heap.size p room (.slice none 0 0) [] w5) := ⟨HL4.out.bm1 hB5 HP4.out (by decide)⟩
  have HS5 := Aside0.mk (HS4.out.bm hB5 (.inl rfl) (.inl rfl))
  have HN5 : Aside0 (n0 ≤ w5.heap.size) := ⟨Nat.le_trans HN4.out hB5.size⟩
  have HB5 := Aside0.mk (Bm.to hB5 HB4.out (Nat.le_refl _) HNE.out.2.1 HNE.out.2.1)
  have HP5 := Aside0.mk hP5
  clear hP5 hB5 HL4 HS4 HB4 HP4 HN4 HFl
  go_wp2
  go_loopg [11, 12, 13, 14, 15] N (fun g v11 v12 v13 v14 v15 w' => ∃ (i : Nat) (a e : Int) (v : Value) (S : List Ln), g = N - i ∧ v11 = .int .i64 i ∧ Aside0 (i ≤ N ∧ S.length ≤ i ∧ 0 ≤ a ∧ a ≤ (m : Int)) ∧ Aside0 ((e = 0 → (N : Int) ≤ room ∧ RT = finR m (rdLines O (N - i) a S)) ∧ (e ≠ 0 → RT = (e, []))) ∧ Aside0 (Rl w.heap.size p room v S w') ∧ Aside0 (∀ j, v.ownBlock = some j → n0 ≤ j) ∧ Aside0 (w'.heap[pr]? = some (.cells #[.slice A m c, .int .i64 a, .int .i64 e] 86 (0, 0))) ∧ Aside0 (Src (fun k => k = pr ∨ k = p ∨ n0 ≤ k) A m O w') ∧ Aside0 (n0 ≤ w'.heap.size) ∧ Aside0 (Below w.heap.size w w'))
  case atStart => exact ⟨0, a1, e5, _, [], rfl, rfl, ⟨Nat.zero_le _, Nat.zero_le _, HAB.out.1, HAB.out.2⟩, HE, HL5, ⟨fun j hj => by simp [Value.ownBlock] at hj⟩, HP5, HS5, HN5, HB5⟩
  case round =>
    clear HE HL5 HP5 HS5 HB5 HN5 HAB
    obtain ⟨i, a, e, v, S, rfl, rfl, HI, HE, HL, HV, HP, HS, HNw, HB⟩ := hrel
    obtain ⟨p0, p1, p2⟩ := rd_cells HP.out
    by_cases h0 : e = 0
    rotate_left
    · have k1 : (e == 0) = false := beq_eq_false_iff_ne.mpr h0
      obtain ⟨e6, he6⟩ : ∃ z, failF (decide (a < (m : Int))) 5 e = z := ⟨_, rfl⟩
      have HX : Aside0 ((e6 ≠ 0 → RT = (e6, [])) ∧ (e6 = 0 → RT = (0, S))) := ⟨by
        rw [failF_dec, if_neg h0] at he6
        exact ⟨fun _ => by rw [← he6]; exact HE.out.2 h0, fun h => absurd (he6.trans h) h0⟩⟩
      have hFl := in_Fail.at_ A m c pr a e 5 (decide (a < (m : Int))) wr.drew (show wr.drew.heap[pr]? = _ from HP.out)
      rw [he6] at hFl
      have HFl := Aside0.mk hFl
      clear h0 HE he6 hFl
      by_cases c1 : i < N
      · have e1_ : decide ((i : Int) < (N : Int)) = true := decide_eq_true (by omega)
        have e1' : decide (i < N) = true := decide_eq_true c1
        clear c1
        go_wp2_with fail
        refine start_ (n := 12) (S := fun w' => w'.cell? ⟨pr, 0, none⟩ = some (.slice A m c) ∧ w'.cell? ⟨pr, 1, none⟩ = some (.int .i64 a)) (ds := []) #[F_,F_,F_,F_,F_,F_,F_,F_,F_,F_,F_,F_] (by kernel_rfl) rfl rfl ⟨(rd_cells (w := wr.drew) HP.out).1, (rd_cells (w := wr.drew) HP.out).2.1⟩ (fun hHeld => ?_)
        refine pure_ (i := 0) (N := some 117) (v := ?_) (a' := ?_) #[T_,F_,F_,F_,F_,F_,F_,F_,F_,F_,F_,F_] rfl rfl (by kernel_rfl) (fun _ _ _ h => h) (Or.inl ⟨by rfl, ?_⟩) ?_ ?_
        rotate_left
        · intro w'
          go_simp
          with_reducible rfl
        rotate_left
        · simp only [Act.put, List.setIfInBounds_toArray, List.set_cons_zero, List.set_cons_succ, i64_w, i32_w]
          rfl
        refine pure_ (i := 1) (N := some 118) (v := ?_) (a' := ?_) #[T_,T_,F_,F_,F_,F_,F_,F_,F_,F_,F_,F_] rfl rfl (by kernel_rfl) (fun _ _ _ h => h) (Or.inl ⟨by rfl, ?_⟩) ?_ ?_
        rotate_left
        · intro w'
          go_simp
          with_reducible rfl
        rotate_left
        · simp only [Act.put, List.setIfInBounds_toArray, List.set_cons_zero, List.set_cons_succ, i64_w, i32_w]
          rfl
        refine pure_ (i := 2) (N := some 119) (v := ?_) (a' := ?_) #[T_,T_,T_,F_,F_,F_,F_,F_,F_,F_,F_,F_] rfl rfl (by kernel_rfl) (fun _ _ _ h => h) (Or.inl ⟨by rfl, ?_⟩) ?_ ?_
        rotate_left
        · intro w'
          go_simp
          with_reducible rfl
        rotate_left
        · simp only [Act.put, List.setIfInBounds_toArray, List.set_cons_zero, List.set_cons_succ, i64_w, i32_w]
          rfl
        refine pure_ (i := 3) (N := some 120) (v := ?_) (a' := ?_) #[T_,T_,T_,T_,F_,F_,F_,F_,F_,F_,F_,F_] rfl rfl (by kernel_rfl) (fun _ _ _ h => h) (Or.inl ⟨by rfl, ?_⟩) ?_ ?_
        rotate_left
        · intro w'
          go_simp
          with_reducible rfl
        rotate_left
        · simp only [Act.put, List.setIfInBounds_toArray, List.set_cons_zero, List.set_cons_succ, i64_w, i32_w]
          rfl
        refine pure_ (i := 5) (N := some 122) (v := ?_) (a' := ?_) #[T_,T_,T_,T_,F_,T_,F_,F_,F_,F_,F_,F_] rfl rfl (by kernel_rfl) (fun _ _ _ h => h) (Or.inl ⟨by rfl, ?_⟩) ?_ ?_
        rotate_left
        · intro w'
          go_simp
          with_reducible rfl
        rotate_left
        · simp only [Act.put, List.setIfInBounds_toArray, List.set_cons_zero, List.set_cons_succ, i64_w, i32_w]
          rfl
        refine pure_ (i := 6) (N := some 123) (v := ?_) (a' := ?_) #[T_,T_,T_,T_,F_,T_,T_,F_,F_,F_,F_,F_] rfl rfl (by kernel_rfl) (fun _ _ _ h => h) (Or.inl ⟨by rfl, ?_⟩) ?_ ?_
        rotate_left
        · intro w'
          go_simp
          with_reducible rfl
        rotate_left
        · simp only [Act.put, List.setIfInBounds_toArray, List.set_cons_zero, List.set_cons_succ, i64_w, i32_w]
          rfl
        refine pure_ (i := 7) (N := some 124) (v := ?_) (a' := ?_) #[T_,T_,T_,T_,F_,T_,T_,T_,F_,F_,F_,F_] rfl rfl (by kernel_rfl) (fun _ _ _ h => h) (Or.inl ⟨by rfl, ?_⟩) ?_ ?_
        rotate_left
        · intro w'
          go_simp
          with_reducible rfl
        rotate_left
        · simp only [Act.put, List.setIfInBounds_toArray, List.set_cons_zero, List.set_cons_succ, i64_w, i32_w]
          rfl
        refine take_ (i := 4) (N := some 121) (v := ?_) (a' := ?_) #[T_,T_,T_,T_,T_,T_,T_,T_,F_,F_,F_,F_] rfl rfl (by kernel_rfl) (fun _ _ _ h => h) (Or.inl ⟨by rfl, ?_⟩) hHeld ?_ ?_
        rotate_left
        · rintro w' ⟨s0, s1⟩
          go_simp
          with_reducible rfl
        rotate_left
        · simp only [Act.put, List.setIfInBounds_toArray, List.set_cons_zero, List.set_cons_succ, i64_w, i32_w]
          rfl
        refine take_ (i := 8) (N := some 125) (v := ?_) (a' := ?_) #[T_,T_,T_,T_,T_,T_,T_,T_,T_,F_,F_,F_] rfl rfl (by kernel_rfl) (fun _ _ _ h => h) (Or.inl ⟨by rfl, ?_⟩) hHeld ?_ ?_
        rotate_left
        · rintro w' ⟨s0, s1⟩
          go_simp
          with_reducible rfl
        rotate_left
        · simp only [Act.put, List.setIfInBounds_toArray, List.set_cons_zero, List.set_cons_succ, i64_w, i32_w]
          rfl
        refine pure_ (i := 9) (N := some 126) (v := ?_) (a' := ?_) #[T_,T_,T_,T_,T_,T_,T_,T_,T_,T_,F_,F_] rfl rfl (by kernel_rfl) (fun _ _ _ h => h) (Or.inl ⟨by rfl, ?_⟩) ?_ ?_
        rotate_left
        · intro w'
          go_simp
          with_reducible rfl
        rotate_left
        · simp only [Act.put, List.setIfInBounds_toArray, List.set_cons_zero, List.set_cons_succ, i64_w, i32_w]
          rfl
        refine pure_ (i := 10) (N := some 127) (v := ?_) (a' := ?_) #[T_,T_,T_,T_,T_,T_,T_,T_,T_,T_,T_,F_] rfl rfl (by kernel_rfl) (fun _ _ _ h => h) (Or.inl ⟨by rfl, ?_⟩) ?_ ?_
        rotate_left
        · intro w'
          go_simp
          with_reducible rfl
        rotate_left
        · simp only [Act.put, List.setIfInBounds_toArray, List.set_cons_zero, List.set_cons_succ, i64_w, i32_w]
          rfl
        refine one_ (i := 11) (N := some 128) #[T_,T_,T_,T_,T_,T_,T_,T_,T_,T_,T_,T_] rfl rfl (by kernel_rfl) (by decide) (fun K hK => ?_)
        refine goes_ Tryd.func45 (by kernel_rfl) rfl #[.pointer (some ⟨pr, 0, none⟩), .bool (decide (a < (m : Int))), .int .i64 5] (by rfl) rfl rfl (by simp only [List.map_toArray, List.map_cons, List.map_nil]; rfl) ?_
        with_reducible refine (HFl.out).mono ?_
        rintro r7 w7 ⟨rfl, hP7, hB7⟩
        refine ⟨_, rfl, ?_⟩
        have HL7 : Aside0 (Rl w.heap.size p room v S w7) := ⟨(HL.out.below (below_drew (Below.refl _ _))).bm1 hB7 (show wr.drew.heap[pr]? = _ from HP.out) (by decide)⟩
        have HB7 := Aside0.mk (Bm.to hB7 (below_drew HB.out) (Nat.le_refl _) HNE.out.2.1 HNE.out.2.1)
        have HP7 := Aside0.mk hP7
        clear hP7 hB7
        refine hK.out _ _ ⟨(rd_cells HP7.out).1, (rd_cells HP7.out).2.1⟩ (fun hHeld => ?_)
        clear hK K
        refine norm_ (a' := ?_) ?_ ?_
        rotate_left
        · show Act.put _ (some 128) _ = _
          simp only [Act.put, List.setIfInBounds_toArray, List.set_cons_zero, List.set_cons_succ, i64_w, i32_w]
          rfl
        refine done_ (by kernel_rfl) ?_
        clear hHeld p0 p1 p2 HFl
        obtain ⟨p0, p1, p2⟩ := rd_cells HP7.out
        by_cases h6 : e6 = 0
        · have k6 : (e6 != 0) = false := bne_eq_false_iff_eq.mpr h6
          have HR := Aside0.mk (HX.out.2 h6)
          clear h6
          go_wp2
          go_ret2
          rw [HRT.out]
          refine ⟨HB7.out, .inr ⟨by rw [HR.out], p, v, rfl, ?_⟩⟩
          rw [HR.out]
          exact HL7.out
        · have k6 : (e6 != 0) = true := bne_iff_ne.mpr h6
          have HR := Aside0.mk (And.intro h6 (HX.out.1 h6))
          clear h6
          go_wp2
          repeat (go_quiet (fail); try go_wp2)
          go_ret2
          rw [HRT.out]
          refine ⟨by repeat (first | exact HB7.out | apply pw_below_drewN | apply below_drew), .inl ⟨by rw [HR.out.2]; exact HR.out.1, by rw [HR.out.2]; rfl⟩⟩
      · have e1_ : decide ((i : Int) < (N : Int)) = false := decide_eq_false (by omega)
        have e1' : decide (i < N) = false := decide_eq_false c1
        clear c1
        go_wp2_with fail
        refine start_ (n := 12) (S := fun w' => w'.cell? ⟨pr, 0, none⟩ = some (.slice A m c) ∧ w'.cell? ⟨pr, 1, none⟩ = some (.int .i64 a)) (ds := []) #[F_,F_,F_,F_,F_,F_,F_,F_,F_,F_,F_,F_] (by kernel_rfl) rfl rfl ⟨(rd_cells (w := wr.drew) HP.out).1, (rd_cells (w := wr.drew) HP.out).2.1⟩ (fun hHeld => ?_)
        refine pure_ (i := 0) (N := some 117) (v := ?_) (a' := ?_) #[T_,F_,F_,F_,F_,F_,F_,F_,F_,F_,F_,F_] rfl rfl (by kernel_rfl) (fun _ _ _ h => h) (Or.inl ⟨by rfl, ?_⟩) ?_ ?_
        rotate_left
        · intro w'
          go_simp
          with_reducible rfl
        rotate_left
        · simp only [Act.put, List.setIfInBounds_toArray, List.set_cons_zero, List.set_cons_succ, i64_w, i32_w]
          rfl
        refine pure_ (i := 1) (N := some 118) (v := ?_) (a' := ?_) #[T_,T_,F_,F_,F_,F_,F_,F_,F_,F_,F_,F_] rfl rfl (by kernel_rfl) (fun _ _ _ h => h) (Or.inl ⟨by rfl, ?_⟩) ?_ ?_
        rotate_left
        · intro w'
          go_simp
          with_reducible rfl
        rotate_left
        · simp only [Act.put, List.setIfInBounds_toArray, List.set_cons_zero, List.set_cons_succ, i64_w, i32_w]
          rfl
        refine pure_ (i := 2) (N := some 119) (v := ?_) (a' := ?_) #[T_,T_,T_,F_,F_,F_,F_,F_,F_,F_,F_,F_] rfl rfl (by kernel_rfl) (fun _ _ _ h => h) (Or.inl ⟨by rfl, ?_⟩) ?_ ?_
        rotate_left
        · intro w'
          go_simp
          with_reducible rfl
        rotate_left
        · simp only [Act.put, List.setIfInBounds_toArray, List.set_cons_zero, List.set_cons_succ, i64_w, i32_w]
          rfl
        refine pure_ (i := 3) (N := some 120) (v := ?_) (a' := ?_) #[T_,T_,T_,T_,F_,F_,F_,F_,F_,F_,F_,F_] rfl rfl (by kernel_rfl) (fun _ _ _ h => h) (Or.inl ⟨by rfl, ?_⟩) ?_ ?_
        rotate_left
        · intro w'
          go_simp
          with_reducible rfl
        rotate_left
        · simp only [Act.put, List.setIfInBounds_toArray, List.set_cons_zero, List.set_cons_succ, i64_w, i32_w]
          rfl
        refine pure_ (i := 5) (N := some 122) (v := ?_) (a' := ?_) #[T_,T_,T_,T_,F_,T_,F_,F_,F_,F_,F_,F_] rfl rfl (by kernel_rfl) (fun _ _ _ h => h) (Or.inl ⟨by rfl, ?_⟩) ?_ ?_
        rotate_left
        · intro w'
          go_simp
          with_reducible rfl
        rotate_left
        · simp only [Act.put, List.setIfInBounds_toArray, List.set_cons_zero, List.set_cons_succ, i64_w, i32_w]
          rfl
        refine pure_ (i := 6) (N := some 123) (v := ?_) (a' := ?_) #[T_,T_,T_,T_,F_,T_,T_,F_,F_,F_,F_,F_] rfl rfl (by kernel_rfl) (fun _ _ _ h => h) (Or.inl ⟨by rfl, ?_⟩) ?_ ?_
        rotate_left
        · intro w'
          go_simp
          with_reducible rfl
        rotate_left
        · simp only [Act.put, List.setIfInBounds_toArray, List.set_cons_zero, List.set_cons_succ, i64_w, i32_w]
          rfl
        refine pure_ (i := 7) (N := some 124) (v := ?_) (a' := ?_) #[T_,T_,T_,T_,F_,T_,T_,T_,F_,F_,F_,F_] rfl rfl (by kernel_rfl) (fun _ _ _ h => h) (Or.inl ⟨by rfl, ?_⟩) ?_ ?_
        rotate_left
        · intro w'
          go_simp
          with_reducible rfl
        rotate_left
        · simp only [Act.put, List.setIfInBounds_toArray, List.set_cons_zero, List.set_cons_succ, i64_w, i32_w]
          rfl
        refine take_ (i := 4) (N := some 121) (v := ?_) (a' := ?_) #[T_,T_,T_,T_,T_,T_,T_,T_,F_,F_,F_,F_] rfl rfl (by kernel_rfl) (fun _ _ _ h => h) (Or.inl ⟨by rfl, ?_⟩) hHeld ?_ ?_
        rotate_left
        · rintro w' ⟨s0, s1⟩
          go_simp
          with_reducible rfl
        rotate_left
        · simp only [Act.put, List.setIfInBounds_toArray, List.set_cons_zero, List.set_cons_succ, i64_w, i32_w]
          rfl
        refine take_ (i := 8) (N := some 125) (v := ?_) (a' := ?_) #[T_,T_,T_,T_,T_,T_,T_,T_,T_,F_,F_,F_] rfl rfl (by kernel_rfl) (fun _ _ _ h => h) (Or.inl ⟨by rfl, ?_⟩) hHeld ?_ ?_
        rotate_left
        · rintro w' ⟨s0, s1⟩
          go_simp
          with_reducible rfl
        rotate_left
        · simp only [Act.put, List.setIfInBounds_toArray, List.set_cons_zero, List.set_cons_succ, i64_w, i32_w]
          rfl
        refine pure_ (i := 9) (N := some 126) (v := ?_) (a' := ?_) #[T_,T_,T_,T_,T_,T_,T_,T_,T_,T_,F_,F_] rfl rfl (by kernel_rfl) (fun _ _ _ h => h) (Or.inl ⟨by rfl, ?_⟩) ?_ ?_
        rotate_left
        · intro w'
          go_simp
          with_reducible rfl
        rotate_left
        · simp only [Act.put, List.setIfInBounds_toArray, List.set_cons_zero, List.set_cons_succ, i64_w, i32_w]
          rfl
        refine pure_ (i := 10) (N := some 127) (v := ?_) (a' := ?_) #[T_,T_,T_,T_,T_,T_,T_,T_,T_,T_,T_,F_] rfl rfl (by kernel_rfl) (fun _ _ _ h => h) (Or.inl ⟨by rfl, ?_⟩) ?_ ?_
        rotate_left
        · intro w'
          go_simp
          with_reducible rfl
        rotate_left
        · simp only [Act.put, List.setIfInBounds_toArray, List.set_cons_zero, List.set_cons_succ, i64_w, i32_w]
          rfl
        refine one_ (i := 11) (N := some 128) #[T_,T_,T_,T_,T_,T_,T_,T_,T_,T_,T_,T_] rfl rfl (by kernel_rfl) (by decide) (fun K hK => ?_)
        refine goes_ Tryd.func45 (by kernel_rfl) rfl #[.pointer (some ⟨pr, 0, none⟩), .bool (decide (a < (m : Int))), .int .i64 5] (by rfl) rfl rfl (by simp only [List.map_toArray, List.map_cons, List.map_nil]; rfl) ?_
        with_reducible refine (HFl.out).mono ?_
        rintro r7 w7 ⟨rfl, hP7, hB7⟩
        refine ⟨_, rfl, ?_⟩
        have HL7 : Aside0 (Rl w.heap.size p room v S w7) := ⟨(HL.out.below (below_drew (Below.refl _ _))).bm1 hB7 (show wr.drew.heap[pr]? = _ from HP.out) (by decide)⟩
        have HB7 := Aside0.mk (Bm.to hB7 (below_drew HB.out) (Nat.le_refl _) HNE.out.2.1 HNE.out.2.1)
        have HP7 := Aside0.mk hP7
        clear hP7 hB7
        refine hK.out _ _ ⟨(rd_cells HP7.out).1, (rd_cells HP7.out).2.1⟩ (fun hHeld => ?_)
        clear hK K
        refine norm_ (a' := ?_) ?_ ?_
        rotate_left
        · show Act.put _ (some 128) _ = _
          simp only [Act.put, List.setIfInBounds_toArray, List.set_cons_zero, List.set_cons_succ, i64_w, i32_w]
          rfl
        refine done_ (by kernel_rfl) ?_
        clear hHeld p0 p1 p2 HFl
        obtain ⟨p0, p1, p2⟩ := rd_cells HP7.out
        by_cases h6 : e6 = 0
        · have k6 : (e6 != 0) = false := bne_eq_false_iff_eq.mpr h6
          have HR := Aside0.mk (HX.out.2 h6)
          clear h6
          go_wp2
          go_ret2
          rw [HRT.out]
          refine ⟨HB7.out, .inr ⟨by rw [HR.out], p, v, rfl, ?_⟩⟩
          rw [HR.out]
          exact HL7.out
        · have k6 : (e6 != 0) = true := bne_iff_ne.mpr h6
          have HR := Aside0.mk (And.intro h6 (HX.out.1 h6))
          clear h6
          go_wp2
          repeat (go_quiet (fail); try go_wp2)
          go_ret2
          rw [HRT.out]
          refine ⟨by repeat (first | exact HB7.out | apply pw_below_drewN | apply below_drew), .inl ⟨by rw [HR.out.2]; exact HR.out.1, by rw [HR.out.2]; rfl⟩⟩
    have k1 : (e == 0) = true := beq_iff_eq.mpr h0
    by_cases c1 : i < N
    rotate_left
    · have e1_ : decide ((i : Int) < (N : Int)) = false := decide_eq_false (by omega)
      have e1' : decide (i < N) = false := decide_eq_false c1
      obtain ⟨e6, he6⟩ : ∃ z, failF (decide (a < (m : Int))) 5 e = z := ⟨_, rfl⟩
      have HX : Aside0 ((e6 ≠ 0 → RT = (e6, [])) ∧ (e6 = 0 → RT = (0, S))) := ⟨by
        have hRr := (HE.out.1 h0).2
        rw [show N - i = 0 by omega, rdLines] at hRr
        unfold finR at hRr
        rw [if_neg (fun h => h rfl)] at hRr
        rw [failF_dec, if_pos h0] at he6
        by_cases c2 : a < (m : Int)
        · rw [if_pos c2] at he6 hRr
          exact ⟨fun _ => by rw [← he6]; exact hRr, fun h => by omega⟩
        · rw [if_neg c2] at he6 hRr
          exact ⟨fun h => absurd he6.symm h, fun _ => hRr⟩⟩
      have hFl := in_Fail.at_ A m c pr a e 5 (decide (a < (m : Int))) wr.drew (show wr.drew.heap[pr]? = _ from HP.out)
      rw [he6] at hFl
      have HFl := Aside0.mk hFl
      clear h0 HE he6 hFl c1
      go_wp2_with fail
      refine start_ (n := 12) (S := fun w' => w'.cell? ⟨pr, 0, none⟩ = some (.slice A m c) ∧ w'.cell? ⟨pr, 1, none⟩ = some (.int .i64 a)) (ds := []) #[F_,F_,F_,F_,F_,F_,F_,F_,F_,F_,F_,F_] (by kernel_rfl) rfl rfl ⟨(rd_cells (w := wr.drew) HP.out).1, (rd_cells (w := wr.drew) HP.out).2.1⟩ (fun hHeld => ?_)
      refine pure_ (i := 0) (N := some 117) (v := ?_) (a' := ?_) #[T_,F_,F_,F_,F_,F_,F_,F_,F_,F_,F_,F_] rfl rfl (by kernel_rfl) (fun _ _ _ h => h) (Or.inl ⟨by rfl, ?_⟩) ?_ ?_
      rotate_left
      · intro w'
        go_simp
        with_reducible rfl
      rotate_left
      · simp only [Act.put, List.setIfInBounds_toArray, List.set_cons_zero, List.set_cons_succ, i64_w, i32_w]
        rfl
      refine pure_ (i := 1) (N := some 118) (v := ?_) (a' := ?_) #[T_,T_,F_,F_,F_,F_,F_,F_,F_,F_,F_,F_] rfl rfl (by kernel_rfl) (fun _ _ _ h => h) (Or.inl ⟨by rfl, ?_⟩) ?_ ?_
      rotate_left
      · intro w'
        go_simp
        with_reducible rfl
      rotate_left
      · simp only [Act.put, List.setIfInBounds_toArray, List.set_cons_zero, List.set_cons_succ, i64_w, i32_w]
        rfl
      refine pure_ (i := 2) (N := some 119) (v := ?_) (a' := ?_) #[T_,T_,T_,F_,F_,F_,F_,F_,F_,F_,F_,F_] rfl rfl (by kernel_rfl) (fun _ _ _ h => h) (Or.inl ⟨by rfl, ?_⟩) ?_ ?_
      rotate_left
      · intro w'
        go_simp
        with_reducible rfl
      rotate_left
      · simp only [Act.put, List.setIfInBounds_toArray, List.set_cons_zero, List.set_cons_succ, i64_w, i32_w]
        rfl
      refine pure_ (i := 3) (N := some 120) (v := ?_) (a' := ?_) #[T_,T_,T_,T_,F_,F_,F_,F_,F_,F_,F_,F_] rfl rfl (by kernel_rfl) (fun _ _ _ h => h) (Or.inl ⟨by rfl, ?_⟩) ?_ ?_
      rotate_left
      · intro w'
        go_simp
        with_reducible rfl
      rotate_left
      · simp only [Act.put, List.setIfInBounds_toArray, List.set_cons_zero, List.set_cons_succ, i64_w, i32_w]
        rfl
      refine pure_ (i := 5) (N := some 122) (v := ?_) (a' := ?_) #[T_,T_,T_,T_,F_,T_,F_,F_,F_,F_,F_,F_] rfl rfl (by kernel_rfl) (fun _ _ _ h => h) (Or.inl ⟨by rfl, ?_⟩) ?_ ?_
      rotate_left
      · intro w'
        go_simp
        with_reducible rfl
      rotate_left
      · simp only [Act.put, List.setIfInBounds_toArray, List.set_cons_zero, List.set_cons_succ, i64_w, i32_w]
        rfl
      refine pure_ (i := 6) (N := some 123) (v := ?_) (a' := ?_) #[T_,T_,T_,T_,F_,T_,T_,F_,F_,F_,F_,F_] rfl rfl (by kernel_rfl) (fun _ _ _ h => h) (Or.inl ⟨by rfl, ?_⟩) ?_ ?_
      rotate_left
      · intro w'
        go_simp
        with_reducible rfl
      rotate_left
      · simp only [Act.put, List.setIfInBounds_toArray, List.set_cons_zero, List.set_cons_succ, i64_w, i32_w]
        rfl
      refine pure_ (i := 7) (N := some 124) (v := ?_) (a' := ?_) #[T_,T_,T_,T_,F_,T_,T_,T_,F_,F_,F_,F_] rfl rfl (by kernel_rfl) (fun _ _ _ h => h) (Or.inl ⟨by rfl, ?_⟩) ?_ ?_
      rotate_left
      · intro w'
        go_simp
        with_reducible rfl
      rotate_left
      · simp only [Act.put, List.setIfInBounds_toArray, List.set_cons_zero, List.set_cons_succ, i64_w, i32_w]
        rfl
      refine take_ (i := 4) (N := some 121) (v := ?_) (a' := ?_) #[T_,T_,T_,T_,T_,T_,T_,T_,F_,F_,F_,F_] rfl rfl (by kernel_rfl) (fun _ _ _ h => h) (Or.inl ⟨by rfl, ?_⟩) hHeld ?_ ?_
      rotate_left
      · rintro w' ⟨s0, s1⟩
        go_simp
        with_reducible rfl
      rotate_left
      · simp only [Act.put, List.setIfInBounds_toArray, List.set_cons_zero, List.set_cons_succ, i64_w, i32_w]
        rfl
      refine take_ (i := 8) (N := some 125) (v := ?_) (a' := ?_) #[T_,T_,T_,T_,T_,T_,T_,T_,T_,F_,F_,F_] rfl rfl (by kernel_rfl) (fun _ _ _ h => h) (Or.inl ⟨by rfl, ?_⟩) hHeld ?_ ?_
      rotate_left
      · rintro w' ⟨s0, s1⟩
        go_simp
        with_reducible rfl
      rotate_left
      · simp only [Act.put, List.setIfInBounds_toArray, List.set_cons_zero, List.set_cons_succ, i64_w, i32_w]
        rfl
      refine pure_ (i := 9) (N := some 126) (v := ?_) (a' := ?_) #[T_,T_,T_,T_,T_,T_,T_,T_,T_,T_,F_,F_] rfl rfl (by kernel_rfl) (fun _ _ _ h => h) (Or.inl ⟨by rfl, ?_⟩) ?_ ?_
      rotate_left
      · intro w'
        go_simp
        with_reducible rfl
      rotate_left
      · simp only [Act.put, List.setIfInBounds_toArray, List.set_cons_zero, List.set_cons_succ, i64_w, i32_w]
        rfl
      refine pure_ (i := 10) (N := some 127) (v := ?_) (a' := ?_) #[T_,T_,T_,T_,T_,T_,T_,T_,T_,T_,T_,F_] rfl rfl (by kernel_rfl) (fun _ _ _ h => h) (Or.inl ⟨by rfl, ?_⟩) ?_ ?_
      rotate_left
      · intro w'
        go_simp
        with_reducible rfl
      rotate_left
      · simp only [Act.put, List.setIfInBounds_toArray, List.set_cons_zero, List.set_cons_succ, i64_w, i32_w]
        rfl
      refine one_ (i := 11) (N := some 128) #[T_,T_,T_,T_,T_,T_,T_,T_,T_,T_,T_,T_] rfl rfl (by kernel_rfl) (by decide) (fun K hK => ?_)
      refine goes_ Tryd.func45 (by kernel_rfl) rfl #[.pointer (some ⟨pr, 0, none⟩), .bool (decide (a < (m : Int))), .int .i64 5] (by rfl) rfl rfl (by simp only [List.map_toArray, List.map_cons, List.map_nil]; rfl) ?_
      with_reducible refine (HFl.out).mono ?_
      rintro r7 w7 ⟨rfl, hP7, hB7⟩
      refine ⟨_, rfl, ?_⟩
      have HL7 : Aside0 (Rl w.heap.size p room v S w7) := ⟨(HL.out.below (below_drew (Below.refl _ _))).bm1 hB7 (show wr.drew.heap[pr]? = _ from HP.out) (by decide)⟩
      have HB7 := Aside0.mk (Bm.to hB7 (below_drew HB.out) (Nat.le_refl _) HNE.out.2.1 HNE.out.2.1)
      have HP7 := Aside0.mk hP7
      clear hP7 hB7
      refine hK.out _ _ ⟨(rd_cells HP7.out).1, (rd_cells HP7.out).2.1⟩ (fun hHeld => ?_)
      clear hK K
      refine norm_ (a' := ?_) ?_ ?_
      rotate_left
      · show Act.put _ (some 128) _ = _
        simp only [Act.put, List.setIfInBounds_toArray, List.set_cons_zero, List.set_cons_succ, i64_w, i32_w]
        rfl
      refine done_ (by kernel_rfl) ?_
      clear hHeld p0 p1 p2 HFl
      obtain ⟨p0, p1, p2⟩ := rd_cells HP7.out
      by_cases h6 : e6 = 0
      · have k6 : (e6 != 0) = false := bne_eq_false_iff_eq.mpr h6
        have HR := Aside0.mk (HX.out.2 h6)
        clear h6
        go_wp2
        go_ret2
        rw [HRT.out]
        refine ⟨HB7.out, .inr ⟨by rw [HR.out], p, v, rfl, ?_⟩⟩
        rw [HR.out]
        exact HL7.out
      · have k6 : (e6 != 0) = true := bne_iff_ne.mpr h6
        have HR := Aside0.mk (And.intro h6 (HX.out.1 h6))
        clear h6
        go_wp2
        repeat (go_quiet (fail); try go_wp2)
        go_ret2
        rw [HRT.out]
        refine ⟨by repeat (first | exact HB7.out | apply pw_below_drewN | apply below_drew), .inl ⟨by rw [HR.out.2]; exact HR.out.1, by rw [HR.out.2]; rfl⟩⟩
    subst h0
    have HRr := Aside0.mk (HE.out.1 rfl)
    have e1_ : decide ((i : Int) < (N : Int)) = true := decide_eq_true (by omega)
    have e1' : decide (i < N) = true := decide_eq_true c1
    have hadd : wrap64 ((i : Int) + 1) = ((i + 1 : Nat) : Int) := by have := HRr.out.1; have := HRoom.out; unfold wrap64; omega
    have HST : Aside0 (rdLines O (N - i) a S = if (rdLine O a).2.2 = 0 then (if S.any (fun y => eqP (rdLine O a).1.path y.path) = true then (11, ((rdLine O a).2.1, S)) else rdLines O (N - (i + 1)) (rdLine O a).2.1 (S ++ [(rdLine O a).1])) else ((rdLine O a).2.2, ((rdLine O a).2.1, S))) := ⟨by
      obtain ⟨q, hq⟩ : ∃ q, N - i = q + 1 := ⟨N - i - 1, by omega⟩
      rw [hq, rdLines, show N - (i + 1) = q by omega]⟩
    have HQL := Aside0.mk (qs_line O a)
    have HQB := Aside0.mk (qs_bd HBY.out (a := a) ⟨HI.out.2.2.1, by rw [HM.out.1]; exact HI.out.2.2.2⟩)
    have C1 := Aside0.mk c1
    clear c1 k1
    go_wp2_with fail
    refine (in_Text.at_ A m c O pr a 0 wr H3.out HS.out.now HP.out).mono ?_
    rintro e u1 ⟨rfl, hP, hB⟩
    have HL1 : Aside0 (Rl w.heap.size p room v S u1) := ⟨HL.out.bm1 hB HP.out (by decide)⟩
    have HS1 := Aside0.mk (HS.out.bm hB (.inl rfl) (.inl rfl))
    have HN1 : Aside0 (n0 ≤ u1.heap.size) := ⟨Nat.le_trans HNw.out hB.size⟩
    have HB1 := Aside0.mk (Bm.to hB HB.out (Nat.le_refl _) HNE.out.2.1 HNE.out.2.1)
    have HP1 := Aside0.mk hP
    clear hP hB HL HS HB HP HNw
    go_wp2_with fail
    refine (in_Num.at_ A m c O pr (textR O a 0).2.1 (textR O a 0).2.2 u1 H1.out HS1.out.now HP1.out).mono ?_
    rintro e u2 ⟨rfl, hP, hB⟩
    have hq1 : stepR (getS O) ((textR O a 0).2.1, (textR O a 0).2.2) = qs1 O a := rfl
    rw [hq1] at hP ⊢
    clear hq1
    have HL2 : Aside0 (Rl w.heap.size p room v S u2) := ⟨HL1.out.bm1 hB HP1.out (by decide)⟩
    have HS2 := Aside0.mk (HS1.out.bm hB (.inl rfl) (.inl rfl))
    have HN2 : Aside0 (n0 ≤ u2.heap.size) := ⟨Nat.le_trans HN1.out hB.size⟩
    have HB2 := Aside0.mk (Bm.to hB HB1.out (Nat.le_refl _) HNE.out.2.1 HNE.out.2.1)
    have HP2 := Aside0.mk hP
    clear hP hB HL1 HS1 HB1 HP1 HN1
    go_wp2_with fail
    refine (in_Num.at_ A m c O pr (qs1 O a).2.1 (qs1 O a).2.2 u2 H1.out HS2.out.now HP2.out).mono ?_
    rintro e u3 ⟨rfl, hP, hB⟩
    have hq1 : stepR (getS O) ((qs1 O a).2.1, (qs1 O a).2.2) = qs2 O a := rfl
    rw [hq1] at hP ⊢
    clear hq1
    have HL3 : Aside0 (Rl w.heap.size p room v S u3) := ⟨HL2.out.bm1 hB HP2.out (by decide)⟩
    have HS3 := Aside0.mk (HS2.out.bm hB (.inl rfl) (.inl rfl))
    have HN3 : Aside0 (n0 ≤ u3.heap.size) := ⟨Nat.le_trans HN2.out hB.size⟩
    have HB3 := Aside0.mk (Bm.to hB HB2.out (Nat.le_refl _) HNE.out.2.1 HNE.out.2.1)
    have HP3 := Aside0.mk hP
    clear hP hB HL2 HS2 HB2 HP2 HN2
    obtain ⟨gx, hgx⟩ : ∃ z, u3.heap.size = z := ⟨_, rfl⟩
    obtain ⟨u4, hu4⟩ : ∃ z, u3.alloc (.cells #[.string (textR O a 0).1, .int .i64 (qs1 O a).1, .int .i64 (qs2 O a).1, .int .i64 0, .int .i64 0, .string ⟨#[]⟩] 71) = z := ⟨_, rfl⟩
    have hb4 : Below u3.heap.size u3 u4 := by rw [← hu4]; exact below_alloc (Below.refl _ _) _
    have HX4 : Aside0 (u4.heap[gx]? = some (.cells #[.string (textR O a 0).1, .int .i64 (qs1 O a).1, .int .i64 (qs2 O a).1, .int .i64 0, .int .i64 0, .string ⟨#[]⟩] 71 (0, 0))) := ⟨by rw [← hu4, ← hgx]; exact blk_new u3 _⟩
    have HGX : Aside0 (gx ≠ p ∧ gx ≠ pr ∧ n0 ≤ gx ∧ v.ownBlock ≠ some gx ∧ w.heap.size ≤ gx) := ⟨by
      have h1 := blk_lt HL3.out.hP
      have h2 := blk_lt HP3.out
      have h3 := HN3.out
      have h4 := HB3.out.size
      exact ⟨by omega, by omega, by omega, fun h => by have := Kd.R_lt HL3.out.hR gx h; omega, by omega⟩⟩
    have HL4 := Aside0.mk (HL3.out.below hb4)
    have HS4 := Aside0.mk (HS3.out.below hb4)
    have HB4 := Aside0.mk (ld_step HB3.out hb4)
    have HP4 := Aside0.mk (blk_below HP3.out hb4)
    have HN4 : Aside0 (n0 ≤ u4.heap.size) := ⟨Nat.le_trans HN3.out hb4.size⟩
    have HU4 := Aside0.mk hu4
    clear hb4 HL3 HS3 HB3 HP3 HN3 hu4
    obtain ⟨a2, ha2⟩ : ∃ z, (qs2 O a).2.1 = z := ⟨_, rfl⟩
    obtain ⟨e2, he2⟩ : ∃ z, (qs2 O a).2.2 = z := ⟨_, rfl⟩
    rw [ha2, he2] at HP4
    have HQ2 := Aside0.mk (And.intro ha2 he2)
    clear ha2 he2
    have p2 : (u3.alloc (.cells #[.string (textR O a 0).1, .int .i64 (qs1 O a).1, .int .i64 (qs2 O a).1, .int .i64 0, .int .i64 0, .string ⟨#[]⟩] 71)).cell? ⟨pr, 2, none⟩ = some (.int .i64 e2) := by rw [HU4.out]; exact (rd_cells HP4.out).2.2
    go_upto_if 65 with (fail)
    rw [HU4.out]
    go_cut [13, 14, 15] (fun s13 s14 s15 wx => Aside0 (wx.heap[pr]? = some (.cells #[.slice A m c, .int .i64 (qs3 O a).2.1, .int .i64 (qs3 O a).2.2] 86 (0, 0))) ∧ Aside0 (wx.heap[gx]? = some (.cells #[.string (textR O a 0).1, .int .i64 (qs1 O a).1, .int .i64 (qs2 O a).1, .int .i64 (qs3 O a).1, .int .i64 0, .string ⟨#[]⟩] 71 (0, 0))) ∧ Aside0 (Rl w.heap.size p room v S wx) ∧ Aside0 (Src (fun k => k = pr ∨ k = p ∨ n0 ≤ k) A m O wx) ∧ Aside0 (Below w.heap.size w wx) ∧ Aside0 (n0 ≤ wx.heap.size))
    case first =>
      by_cases hz : e2 = 0
      rotate_left
      · have k1 : (e2 == 0) = false := beq_eq_false_iff_ne.mpr hz
        have hQ3 : qs3 O a = (0, (a2, e2)) := by
          have : (qs2 O a).2 = (a2, e2) := by rw [← HQ2.out.1, ← HQ2.out.2]
          unfold qs3 stepR; rw [this, if_neg hz]
        have HQQ := Aside0.mk hQ3
        clear hz p2 hQ3
        go_wp2_with fail
        go_meet
        exact ⟨⟨by rw [HQQ.out]; exact HP4.out⟩, ⟨by rw [HQQ.out]; exact HX4.out⟩, HL4, HS4, HB4, HN4⟩
      have k1 : (e2 == 0) = true := beq_iff_eq.mpr hz
      subst hz
      obtain ⟨g1, hg1⟩ : ∃ z, (getIntS O a2).1 = z := ⟨_, rfl⟩
      obtain ⟨g2, hg2⟩ : ∃ z, (getIntS O a2).2.1 = z := ⟨_, rfl⟩
      obtain ⟨g3, hg3⟩ : ∃ z, (getIntS O a2).2.2 = z := ⟨_, rfl⟩
      have hGI := H2.out a2 u4.drew (HS4.out.below (below_drew (Below.refl _ _))).now
      rw [hg1, hg2, hg3] at hGI
      have HGI := Aside0.mk hGI
      have HQ3 : Aside0 (qs3 O a = if g3 = 0 then (g1, (g2, 0)) else (0, (a2, g3))) := ⟨by
        have : (qs2 O a).2 = (a2, 0) := by rw [← HQ2.out.1, ← HQ2.out.2]
        unfold qs3 stepR; rw [this, if_pos rfl, ← hg1, ← hg2, ← hg3]⟩
      clear hg1 hg2 hg3 hGI p2
      go_wp2_with fail
      refine start_ (n := 16) (S := fun w' => w'.cell? ⟨pr, 0, none⟩ = some (.slice A m c) ∧ w'.cell? ⟨pr, 1, none⟩ = some (.int .i64 a2)) (ds := []) #[F_,F_,F_,F_,F_,F_,F_,F_,F_,F_,F_,F_,F_,F_,F_,F_] (by kernel_rfl) rfl rfl ⟨(rd_cells (w := u4.drew) HP4.out).1, (rd_cells (w := u4.drew) HP4.out).2.1⟩ (fun hHeld => ?_)
      refine pure_ (i := 0) (N := some 67) (v := ?_) (a' := ?_) #[T_,F_,F_,F_,F_,F_,F_,F_,F_,F_,F_,F_,F_,F_,F_,F_] rfl rfl (by kernel_rfl) (fun _ _ _ h => h) (Or.inl ⟨by rfl, ?_⟩) ?_ ?_
      rotate_left
      · intro w'
        go_simp
        with_reducible rfl
      rotate_left
      · simp only [Act.put, List.setIfInBounds_toArray, List.set_cons_zero, List.set_cons_succ, i64_w, i32_w]
        rfl
      refine pure_ (i := 1) (N := some 68) (v := ?_) (a' := ?_) #[T_,T_,F_,F_,F_,F_,F_,F_,F_,F_,F_,F_,F_,F_,F_,F_] rfl rfl (by kernel_rfl) (fun _ _ _ h => h) (Or.inl ⟨by rfl, ?_⟩) ?_ ?_
      rotate_left
      · intro w'
        go_simp
        with_reducible rfl
      rotate_left
      · simp only [Act.put, List.setIfInBounds_toArray, List.set_cons_zero, List.set_cons_succ, i64_w, i32_w]
        rfl
      refine pure_ (i := 2) (N := some 69) (v := ?_) (a' := ?_) #[T_,T_,T_,F_,F_,F_,F_,F_,F_,F_,F_,F_,F_,F_,F_,F_] rfl rfl (by kernel_rfl) (fun _ _ _ h => h) (Or.inl ⟨by rfl, ?_⟩) ?_ ?_
      rotate_left
      · intro w'
        go_simp
        with_reducible rfl
      rotate_left
      · simp only [Act.put, List.setIfInBounds_toArray, List.set_cons_zero, List.set_cons_succ, i64_w, i32_w]
        rfl
      refine pure_ (i := 4) (N := some 71) (v := ?_) (a' := ?_) #[T_,T_,T_,F_,T_,F_,F_,F_,F_,F_,F_,F_,F_,F_,F_,F_] rfl rfl (by kernel_rfl) (fun _ _ _ h => h) (Or.inl ⟨by rfl, ?_⟩) ?_ ?_
      rotate_left
      · intro w'
        go_simp
        with_reducible rfl
      rotate_left
      · simp only [Act.put, List.setIfInBounds_toArray, List.set_cons_zero, List.set_cons_succ, i64_w, i32_w]
        rfl
      refine pure_ (i := 5) (N := some 72) (v := ?_) (a' := ?_) #[T_,T_,T_,F_,T_,T_,F_,F_,F_,F_,F_,F_,F_,F_,F_,F_] rfl rfl (by kernel_rfl) (fun _ _ _ h => h) (Or.inl ⟨by rfl, ?_⟩) ?_ ?_
      rotate_left
      · intro w'
        go_simp
        with_reducible rfl
      rotate_left
      · simp only [Act.put, List.setIfInBounds_toArray, List.set_cons_zero, List.set_cons_succ, i64_w, i32_w]
        rfl
      refine pure_ (i := 6) (N := some 73) (v := ?_) (a' := ?_) #[T_,T_,T_,F_,T_,T_,T_,F_,F_,F_,F_,F_,F_,F_,F_,F_] rfl rfl (by kernel_rfl) (fun _ _ _ h => h) (Or.inl ⟨by rfl, ?_⟩) ?_ ?_
      rotate_left
      · intro w'
        go_simp
        with_reducible rfl
      rotate_left
      · simp only [Act.put, List.setIfInBounds_toArray, List.set_cons_zero, List.set_cons_succ, i64_w, i32_w]
        rfl
      refine take_ (i := 3) (N := some 70) (v := ?_) (a' := ?_) #[T_,T_,T_,T_,T_,T_,T_,F_,F_,F_,F_,F_,F_,F_,F_,F_] rfl rfl (by kernel_rfl) (fun _ _ _ h => h) (Or.inl ⟨by rfl, ?_⟩) hHeld ?_ ?_
      rotate_left
      · rintro w' ⟨s0, s1⟩
        go_simp
        with_reducible rfl
      rotate_left
      · simp only [Act.put, List.setIfInBounds_toArray, List.set_cons_zero, List.set_cons_succ, i64_w, i32_w]
        rfl
      refine take_ (i := 7) (N := some 74) (v := ?_) (a' := ?_) #[T_,T_,T_,T_,T_,T_,T_,T_,F_,F_,F_,F_,F_,F_,F_,F_] rfl rfl (by kernel_rfl) (fun _ _ _ h => h) (Or.inl ⟨by rfl, ?_⟩) hHeld ?_ ?_
      rotate_left
      · rintro w' ⟨s0, s1⟩
        go_simp
        with_reducible rfl
      rotate_left
      · simp only [Act.put, List.setIfInBounds_toArray, List.set_cons_zero, List.set_cons_succ, i64_w, i32_w]
        rfl
      refine one_ (i := 8) (N := some 75) #[T_,T_,T_,T_,T_,T_,T_,T_,T_,F_,F_,F_,F_,F_,F_,F_] rfl rfl (by kernel_rfl) (by decide) (fun K hK => ?_)
      refine goes_ Tryd.func47 (by kernel_rfl) rfl #[.slice A m c, .int .i64 a2] (by rfl) rfl rfl (by simp only [List.map_toArray, List.map_cons, List.map_nil]; rfl) ?_
      with_reducible refine (HGI.out).mono ?_
      rintro r5 u5 ⟨rfl, hb5⟩
      refine ⟨_, rfl, ?_⟩
      have hb5b : Below u4.heap.size u4 u5 := (below_drew (Below.refl _ _)).trans hb5
      have HP5 := Aside0.mk (blk_below HP4.out hb5b)
      have HX5 := Aside0.mk (blk_below HX4.out hb5b)
      have HL5 := Aside0.mk (HL4.out.below hb5b)
      have HS5 := Aside0.mk (HS4.out.below hb5b)
      have HB5 := Aside0.mk (ld_step HB4.out hb5b)
      have HN5 : Aside0 (n0 ≤ u5.heap.size) := ⟨Nat.le_trans HN4.out hb5b.size⟩
      clear hb5 hb5b
      refine hK.out _ _ ⟨(rd_cells HP5.out).1, (rd_cells HP5.out).2.1⟩ (fun hHeld => ?_)
      clear hK K
      refine norm_ (a' := ?_) ?_ ?_
      rotate_left
      · show Act.put _ (some 75) _ = _
        simp only [Act.put, List.setIfInBounds_toArray, List.set_cons_zero, List.set_cons_succ, i64_w, i32_w]
        rfl
      refine pure_ (i := 9) (N := some 66) (v := ?_) (a' := ?_) #[T_,T_,T_,T_,T_,T_,T_,T_,T_,T_,F_,F_,F_,F_,F_,F_] rfl rfl (by kernel_rfl) (fun _ _ _ h => h) (Or.inl ⟨by rfl, ?_⟩) ?_ ?_
      rotate_left
      · intro w'
        go_simp
        with_reducible rfl
      rotate_left
      · simp only [Act.put, List.setIfInBounds_toArray, List.set_cons_zero, List.set_cons_succ, i64_w, i32_w]
        rfl
      refine pure_ (i := 10) (N := some 76) (v := ?_) (a' := ?_) #[T_,T_,T_,T_,T_,T_,T_,T_,T_,T_,T_,F_,F_,F_,F_,F_] rfl rfl (by kernel_rfl) (fun _ _ _ h => h) (Or.inl ⟨by rfl, ?_⟩) ?_ ?_
      rotate_left
      · intro w'
        go_simp
        with_reducible rfl
      rotate_left
      · simp only [Act.put, List.setIfInBounds_toArray, List.set_cons_zero, List.set_cons_succ, i64_w, i32_w]
        rfl
      refine pure_ (i := 11) (N := some 77) (v := ?_) (a' := ?_) #[T_,T_,T_,T_,T_,T_,T_,T_,T_,T_,T_,T_,F_,F_,F_,F_] rfl rfl (by kernel_rfl) (fun _ _ _ h => h) (Or.inl ⟨by rfl, ?_⟩) ?_ ?_
      rotate_left
      · intro w'
        go_simp
        with_reducible rfl
      rotate_left
      · simp only [Act.put, List.setIfInBounds_toArray, List.set_cons_zero, List.set_cons_succ, i64_w, i32_w]
        rfl
      refine pure_ (i := 12) (N := some 78) (v := ?_) (a' := ?_) #[T_,T_,T_,T_,T_,T_,T_,T_,T_,T_,T_,T_,T_,F_,F_,F_] rfl rfl (by kernel_rfl) (fun _ _ _ h => h) (Or.inl ⟨by rfl, ?_⟩) ?_ ?_
      rotate_left
      · intro w'
        go_simp
        with_reducible rfl
      rotate_left
      · simp only [Act.put, List.setIfInBounds_toArray, List.set_cons_zero, List.set_cons_succ, i64_w, i32_w]
        rfl
      refine pure_ (i := 13) (N := some 13) (v := ?_) (a' := ?_) #[T_,T_,T_,T_,T_,T_,T_,T_,T_,T_,T_,T_,T_,T_,F_,F_] rfl rfl (by kernel_rfl) (fun _ _ _ h => h) (Or.inl ⟨by rfl, ?_⟩) ?_ ?_
      rotate_left
      · intro w'
        go_simp
        with_reducible rfl
      rotate_left
      · simp only [Act.put, List.setIfInBounds_toArray, List.set_cons_zero, List.set_cons_succ, i64_w, i32_w]
        rfl
      refine pure_ (i := 14) (N := some 14) (v := ?_) (a' := ?_) #[T_,T_,T_,T_,T_,T_,T_,T_,T_,T_,T_,T_,T_,T_,T_,F_] rfl rfl (by kernel_rfl) (fun _ _ _ h => h) (Or.inl ⟨by rfl, ?_⟩) ?_ ?_
      rotate_left
      · intro w'
        go_simp
        with_reducible rfl
      rotate_left
      · simp only [Act.put, List.setIfInBounds_toArray, List.set_cons_zero, List.set_cons_succ, i64_w, i32_w]
        rfl
      refine pure_ (i := 15) (N := some 15) (v := ?_) (a' := ?_) #[T_,T_,T_,T_,T_,T_,T_,T_,T_,T_,T_,T_,T_,T_,T_,T_] rfl rfl (by kernel_rfl) (fun _ _ _ h => h) (Or.inl ⟨by rfl, ?_⟩) ?_ ?_
      rotate_left
      · intro w'
        go_simp
        with_reducible rfl
      rotate_left
      · simp only [Act.put, List.setIfInBounds_toArray, List.set_cons_zero, List.set_cons_succ, i64_w, i32_w]
        rfl
      refine done_ (by kernel_rfl) ?_
      clear hHeld k1 HGI HL4 HS4 HB4 HP4 HN4 HX4
      go_wp2_with fail
      refine (in_Fail.at_ A m c pr a2 0 g3 true u5 HP5.out).mono ?_
      rintro e u6 ⟨rfl, hP, hB⟩
      have hff : failF true g3 0 = g3 := rfl
      rw [hff] at hP
      clear hff
      have HX6 := Aside0.mk (hB.blk HX5.out HGX.out.2.1 HGX.out.2.1)
      have HL6 : Aside0 (Rl w.heap.size p room v S u6) := ⟨HL5.out.bm1 hB HP5.out (by decide)⟩
      have HS6 := Aside0.mk (HS5.out.bm hB (.inl rfl) (.inl rfl))
      have HN6 : Aside0 (n0 ≤ u6.heap.size) := ⟨Nat.le_trans HN5.out hB.size⟩
      have HB6 := Aside0.mk (Bm.to hB HB5.out (Nat.le_refl _) HNE.out.2.1 HNE.out.2.1)
      have HP6 := Aside0.mk hP
      clear hP hB HL5 HS5 HB5 HP5 HN5
      obtain ⟨p0, p1, p2⟩ := rd_cells HP6.out
      by_cases h3 : g3 = 0
      · have k3 : (g3 == 0) = true := beq_iff_eq.mpr h3
        have hQ3 : qs3 O a = (g1, (g2, 0)) := by rw [HQ3.out, if_pos h3]
        have HQQ := Aside0.mk hQ3
        have qx := blk_frozen HX6.out 3
        have qx3 := (lx_cells' HX6.out).2.2.2.1
        have qp := blk_frozen HP6.out 1
        obtain ⟨u7, hu7⟩ : ∃ z, (u6.setCell ⟨gx, 3, none⟩ (.int .i64 g1)).setCell ⟨pr, 1, none⟩ (.int .i64 g2) = z := ⟨_, rfl⟩
        have HX7 : Aside0 (u7.heap[gx]? = some (.cells #[.string (textR O a 0).1, .int .i64 (qs1 O a).1, .int .i64 (qs2 O a).1, .int .i64 g1, .int .i64 0, .string ⟨#[]⟩] 71 (0, 0))) := ⟨by rw [← hu7]; exact blk_far (p := ⟨pr, 1, none⟩) (blk_set HX6.out 3 _) HGX.out.2.1 _⟩
        have HP7 : Aside0 (u7.heap[pr]? = some (.cells #[.slice A m c, .int .i64 g2, .int .i64 0] 86 (0, 0))) := ⟨by rw [← hu7, ← h3]; exact blk_set (blk_far (p := ⟨gx, 3, none⟩) HP6.out (Ne.symm HGX.out.2.1) _) 1 _⟩
        have HL7 : Aside0 (Rl w.heap.size p room v S u7) := ⟨by rw [← hu7]; exact (HL6.out.far HGX.out.1 HGX.out.2.2.2.1 3 _).farP (blk_far (p := ⟨gx, 3, none⟩) HP6.out (Ne.symm HGX.out.2.1) _) (by decide) 1 _⟩
        have HS7 : Aside0 (Src (fun k => k = pr ∨ k = p ∨ n0 ≤ k) A m O u7) := ⟨by rw [← hu7]; exact (HS6.out.set (.inr (.inr HGX.out.2.2.1)) 3 _).set (.inl rfl) 1 _⟩
        have HB7 : Aside0 (Below w.heap.size w u7) := ⟨by rw [← hu7]; exact (HB6.out.setCell (p := ⟨gx, 3, none⟩) HGX.out.2.2.2.2 _).setCell (p := ⟨pr, 1, none⟩) HNE.out.2.1 _⟩
        have HN7 : Aside0 (n0 ≤ u7.heap.size) := ⟨by rw [← hu7]; simpa [World.setCell] using HN6.out⟩
        have HU7 := Aside0.mk hu7
        clear h3 hu7 HL6 HS6 HB6 HN6 HX6 hQ3
        go_wp2_with fail
        rw [HU7.out]
        go_meet
        exact ⟨⟨by rw [HQQ.out]; exact HP7.out⟩, ⟨by rw [HQQ.out]; exact HX7.out⟩, HL7, HS7, HB7, HN7⟩
      · have k3 : (g3 == 0) = false := beq_eq_false_iff_ne.mpr h3
        have hQ3 : qs3 O a = (0, (a2, g3)) := by rw [HQ3.out, if_neg h3]
        have HQQ := Aside0.mk hQ3
        clear h3 hQ3
        go_wp2_with fail
        go_meet
        exact ⟨⟨by rw [HQQ.out]; exact HP6.out⟩, ⟨by rw [HQQ.out]; exact HX6.out⟩, HL6, HS6, HB6, HN6⟩
    case rest =>
      obtain ⟨HPr, HXr, HLr, HSr, HBr, HNr⟩ := hcut
      clear p2 HL4 HS4 HB4 HP4 HN4 HX4 HU4
      go_wp2_with fail
      refine (in_Num.at_ A m c O pr (qs3 O a).2.1 (qs3 O a).2.2 wc H1.out HSr.out.now HPr.out).mono ?_
      rintro e v1 ⟨rfl, hP, hB⟩
      have hq1 : stepR (getS O) ((qs3 O a).2.1, (qs3 O a).2.2) = qs4 O a := rfl
      rw [hq1] at hP ⊢
      clear hq1
      have HXv := Aside0.mk (hB.blk HXr.out HGX.out.2.1 HGX.out.2.1)
      have HLv : Aside0 (Rl w.heap.size p room v S v1) := ⟨HLr.out.bm1 hB HPr.out (by decide)⟩
      have HSv := Aside0.mk (HSr.out.bm hB (.inl rfl) (.inl rfl))
      have HNv : Aside0 (n0 ≤ v1.heap.size) := ⟨Nat.le_trans HNr.out hB.size⟩
      have HBv := Aside0.mk (Bm.to hB HBr.out (Nat.le_refl _) HNE.out.2.1 HNE.out.2.1)
      have HPv := Aside0.mk hP
      clear hP hB HLr HSr HBr HPr HNr
      obtain ⟨v2, hv2⟩ : ∃ z, v1.setCell ⟨gx, 4, none⟩ (.int .i64 (qs4 O a).1) = z := ⟨_, rfl⟩
      have HX2 : Aside0 (v2.heap[gx]? = some (.cells #[.string (textR O a 0).1, .int .i64 (qs1 O a).1, .int .i64 (qs2 O a).1, .int .i64 (qs3 O a).1, .int .i64 (qs4 O a).1, .string ⟨#[]⟩] 71 (0, 0))) := ⟨by rw [← hv2]; exact blk_set HXv.out 4 _⟩
      have HP2 : Aside0 (v2.heap[pr]? = some (.cells #[.slice A m c, .int .i64 (qs4 O a).2.1, .int .i64 (qs4 O a).2.2] 86 (0, 0))) := ⟨by rw [← hv2]; exact blk_far (p := ⟨gx, 4, none⟩) HPv.out (Ne.symm HGX.out.2.1) _⟩
      have HL2 : Aside0 (Rl w.heap.size p room v S v2) := ⟨by rw [← hv2]; exact HLv.out.far HGX.out.1 HGX.out.2.2.2.1 4 _⟩
      have HS2 : Aside0 (Src (fun k => k = pr ∨ k = p ∨ n0 ≤ k) A m O v2) := ⟨by rw [← hv2]; exact HSv.out.set (.inr (.inr HGX.out.2.2.1)) 4 _⟩
      have HB2 : Aside0 (Below w.heap.size w v2) := ⟨by rw [← hv2]; exact HBv.out.setCell (p := ⟨gx, 4, none⟩) HGX.out.2.2.2.2 _⟩
      have HN2 : Aside0 (n0 ≤ v2.heap.size) := ⟨by rw [← hv2]; simpa [World.setCell] using HNv.out⟩
      have qx := blk_frozen HXv.out 4
      have qc := (lx_cells' HXv.out).2.2.2.2.1
      have HU2 := Aside0.mk hv2
      clear HLv HSv HBv HNv HXv HPv hv2
      go_wp2_with fail
      rw [HU2.out]
      clear qx qc
      refine (in_Some.one A m c O pr (qs4 O a).2.1 (qs4 O a).2.2 v2 HM.out.1 HM.out.2 (by have := HM.out.1; have := HMX.out; omega) HQB.out.1.1 (by rw [← HM.out.1]; exact HQB.out.1.2) (fun w' hb => (HS2.out.bm hb (.inl rfl) (.inl rfl)).now) HP2.out).mono ?_
      rintro e v3 ⟨rfl, hP, hB⟩
      have hq1 : someR O (qs4 O a).2.1 (qs4 O a).2.2 = qs5 O a := rfl
      rw [hq1] at hP ⊢
      clear hq1
      have HX3 := Aside0.mk (hB.blk HX2.out HGX.out.2.1 HGX.out.2.1)
      have HL3 : Aside0 (Rl w.heap.size p room v S v3) := ⟨HL2.out.bm1 hB HP2.out (by decide)⟩
      have HS3 := Aside0.mk (HS2.out.bm hB (.inl rfl) (.inl rfl))
      have HN3 : Aside0 (n0 ≤ v3.heap.size) := ⟨Nat.le_trans HN2.out hB.size⟩
      have HB3 := Aside0.mk (Bm.to hB HB2.out (Nat.le_refl _) HNE.out.2.1 HNE.out.2.1)
      have HP3 := Aside0.mk hP
      clear hP hB HL2 HS2 HB2 HP2 HN2
      obtain ⟨v4, hv4⟩ : ∃ z, v3.setCell ⟨gx, 5, none⟩ (.string (qs5 O a).1) = z := ⟨_, rfl⟩
      have HX4 : Aside0 (v4.heap[gx]? = some (.cells #[.string (textR O a 0).1, .int .i64 (qs1 O a).1, .int .i64 (qs2 O a).1, .int .i64 (qs3 O a).1, .int .i64 (qs4 O a).1, .string (qs5 O a).1] 71 (0, 0))) := ⟨by rw [← hv4]; exact blk_set HX3.out 5 _⟩
      have HP4 : Aside0 (v4.heap[pr]? = some (.cells #[.slice A m c, .int .i64 (qs5 O a).2.1, .int .i64 (qs5 O a).2.2] 86 (0, 0))) := ⟨by rw [← hv4]; exact blk_far (p := ⟨gx, 5, none⟩) HP3.out (Ne.symm HGX.out.2.1) _⟩
      have HL4 : Aside0 (Rl w.heap.size p room v S v4) := ⟨by rw [← hv4]; exact HL3.out.far HGX.out.1 HGX.out.2.2.2.1 5 _⟩
      have HS4 : Aside0 (Src (fun k => k = pr ∨ k = p ∨ n0 ≤ k) A m O v4) := ⟨by rw [← hv4]; exact HS3.out.set (.inr (.inr HGX.out.2.2.1)) 5 _⟩
      have HB4 : Aside0 (Below w.heap.size w v4) := ⟨by rw [← hv4]; exact HB3.out.setCell (p := ⟨gx, 5, none⟩) HGX.out.2.2.2.2 _⟩
      have HN4 : Aside0 (n0 ≤ v4.heap.size) := ⟨by rw [← hv4]; simpa [World.setCell] using HN3.out⟩
      have qx := blk_frozen HX3.out 5
      have qc := (lx_cells' HX3.out).2.2.2.2.2
      have HU4 := Aside0.mk hv4
      clear HL3 HS3 HB3 HN3 HX3 HP3
      have HMay : Aside0 (Calls Tryd.prog 49 #[.agg #[.string (textR O a 0).1, .int .i64 (qs1 O a).1, .int .i64 (qs2 O a).1, .int .i64 (qs3 O a).1, .int .i64 (qs4 O a).1, .string (qs5 O a).1]] v4 fun e w' => e = .returned (.int .i64 (mayF (qsY O a))) ∧ Below v4.heap.size v4 w') := ⟨remoraref33_may.calls _ _ _ _ _ _ _ _ v4 (may33_f (qsY O a) (by rw [HQL.out.1, rdLine_path]; have := rdA_size HBY.out a; omega) _ (Nat.le_refl _))⟩
      obtain ⟨x0, x1, x2, x3, x4, x5⟩ := lx_cells' HX4.out
      go_wp2_with fail
      first | (rw [HU4.out]; refine HMay.out.mono ?_) | refine HMay.out.mono ?_
      rintro e v5 ⟨rfl, hb⟩
      clear qx qc x0 x1 x2 x3 x4 x5 hv4 HMay
      have HX5 := Aside0.mk (blk_below HX4.out hb)
      have HP5 := Aside0.mk (blk_below HP4.out hb)
      have HL5 := Aside0.mk (HL4.out.below hb)
      have HS5 := Aside0.mk (HS4.out.below hb)
      have HB5 := Aside0.mk (ld_step HB4.out hb)
      have HN5 : Aside0 (n0 ≤ v5.heap.size) := ⟨Nat.le_trans HN4.out hb.size⟩
      clear hb HX4 HP4 HL4 HS4 HB4 HN4
      go_wp2_with fail
      refine (in_Fail.at_ A m c pr (qs5 O a).2.1 (qs5 O a).2.2 (mayF (qsY O a)) true v5 HP5.out).mono ?_
      rintro e v6 ⟨rfl, hP, hB⟩
      obtain ⟨er, her⟩ : ∃ z, (rdLine O a).2.2 = z := ⟨_, rfl⟩
      rw [HQL.out.2.1, her] at hP
      have HER := Aside0.mk her
      have HX6 := Aside0.mk (hB.blk HX5.out HGX.out.2.1 HGX.out.2.1)
      clear her
      have HL6 : Aside0 (Rl w.heap.size p room v S v6) := ⟨HL5.out.bm1 hB HP5.out (by decide)⟩
      have HS6 := Aside0.mk (HS5.out.bm hB (.inl rfl) (.inl rfl))
      have HN6 : Aside0 (n0 ≤ v6.heap.size) := ⟨Nat.le_trans HN5.out hB.size⟩
      have HB6 := Aside0.mk (Bm.to hB HB5.out (Nat.le_refl _) HNE.out.2.1 HNE.out.2.1)
      have HP6 := Aside0.mk hP
      clear hP hB HL5 HS5 HB5 HP5 HN5
      have x0 := (lx_cells' HX6.out).1
      go_upto_region 23 with (fail)
      go_cut [12] (fun s12 wx => ∃ e8 : Int, s12 = .pointer (some ⟨gx, 0, none⟩) ∧ Aside0 ((e8 = 0 → (N : Int) ≤ room ∧ RT = finR m (rdLines O (N - (i + 1)) (qs5 O a).2.1 (S ++ [qsY O a]))) ∧ (e8 ≠ 0 → RT = (e8, []))) ∧ Aside0 (wx.heap[pr]? = some (.cells #[.slice A m c, .int .i64 (qs5 O a).2.1, .int .i64 e8] 86 (0, 0))) ∧ Aside0 (wx.heap[gx]? = some (.cells #[.string (textR O a 0).1, .int .i64 (qs1 O a).1, .int .i64 (qs2 O a).1, .int .i64 (qs3 O a).1, .int .i64 (qs4 O a).1, .string (qs5 O a).1] 71 (0, 0))) ∧ Aside0 (Rl w.heap.size p room v S wx) ∧ Aside0 (Src (fun k => k = pr ∨ k = p ∨ n0 ≤ k) A m O wx) ∧ Aside0 (Below w.heap.size w wx) ∧ Aside0 (n0 ≤ wx.heap.size))
      case first =>
        go_wp2_with fail
        refine (ref_at.at_ w.heap.size p room v S (textR O a 0).1 v6 HL6.out).mono ?_
        rintro e v7 ⟨hd, ⟨rfl, hno⟩ | ⟨i2, x2, rfl, hix, hxq⟩⟩
        · have hany : S.any (fun y => eqP (rdLine O a).1.path y.path) = false := by
            cases hb : S.any (fun y => eqP (rdLine O a).1.path y.path) with
            | false => rfl
            | true =>
              obtain ⟨y, hy, he⟩ := List.mem_map.1 ((hasP_iff S _).1 hb)
              exact absurd (he.trans (show (rdLine O a).1.path = (textR O a 0).1 from by rw [← HQL.out.1]; rfl)) (hno y hy)
          have hb := hd.below
          clear hd hno x0
          have HXd := Aside0.mk (blk_below HX6.out hb)
          have HPd := Aside0.mk (blk_below HP6.out hb)
          have HLd := Aside0.mk (HL6.out.below hb)
          have HSd := Aside0.mk (HS6.out.below hb)
          have HBd := Aside0.mk (ld_step HB6.out hb)
          have HNd : Aside0 (n0 ≤ v7.heap.size) := ⟨Nat.le_trans HN6.out hb.size⟩
          clear hb HX6 HP6 HL6 HS6 HB6 HN6
          have hneg : decide ((-1 : Int) ≥ 0) = false := rfl
          go_wp2_with fail
          refine (in_Fail.at_ A m c pr (qs5 O a).2.1 er 11 false v7 HPd.out).mono ?_
          rintro e v8 ⟨rfl, hP, hB⟩
          have HX8 := Aside0.mk (hB.blk HXd.out HGX.out.2.1 HGX.out.2.1)
          obtain ⟨e8, he8⟩ : ∃ z, failF false 11 er = z := ⟨_, rfl⟩
          rw [he8] at hP
          have HE8 : Aside0 ((e8 = 0 → (N : Int) ≤ room ∧ RT = finR m (rdLines O (N - (i + 1)) (qs5 O a).2.1 (S ++ [qsY O a]))) ∧ (e8 ≠ 0 → RT = (e8, []))) := ⟨by
            have hst := HST.out
            rw [HER.out] at hst
            rw [HQL.out.1]
            by_cases hr : er = 0
            · rw [if_pos hr, hany] at hst
              have ha5 := HQL.out.2.2 (by rw [HER.out]; exact hr)
              rw [if_neg (by decide)] at hst
              have h80 : e8 = 0 := by rw [← he8, hr]; rfl
              exact ⟨fun _ => ⟨HRr.out.1, by rw [HRr.out.2, hst, ha5]⟩, fun h => absurd h80 h⟩
            · rw [if_neg hr] at hst
              have h80 : e8 = er := by rw [← he8]; rfl
              exact ⟨fun h => absurd (h80.symm.trans h) hr, fun _ => by rw [HRr.out.2, hst, h80]; unfold finR; rw [if_pos hr]⟩⟩
          clear he8 hany
          have HL8 : Aside0 (Rl w.heap.size p room v S v8) := ⟨HLd.out.bm1 hB HPd.out (by decide)⟩
          have HS8 := Aside0.mk (HSd.out.bm hB (.inl rfl) (.inl rfl))
          have HN8 : Aside0 (n0 ≤ v8.heap.size) := ⟨Nat.le_trans HNd.out hB.size⟩
          have HB8 := Aside0.mk (Bm.to hB HBd.out (Nat.le_refl _) HNE.out.2.1 HNE.out.2.1)
          have HP8 := Aside0.mk hP
          clear hP hB HLd HSd HBd HPd HNd
          go_wp2_with fail
          go_meet
          exact ⟨e8, rfl, HE8, HP8, HX8, HL8, HS8, HB8, HN8⟩
        · have hany : S.any (fun y => eqP (rdLine O a).1.path y.path) = true := (hasP_iff S _).2 (List.mem_map.2 ⟨x2, List.mem_of_getElem? hix, hxq.trans (show (textR O a 0).1 = (rdLine O a).1.path from by rw [← HQL.out.1]; rfl)⟩)
          have hb := hd.below
          clear hd hix hxq x0
          have HXd := Aside0.mk (blk_below HX6.out hb)
          have HPd := Aside0.mk (blk_below HP6.out hb)
          have HLd := Aside0.mk (HL6.out.below hb)
          have HSd := Aside0.mk (HS6.out.below hb)
          have HBd := Aside0.mk (ld_step HB6.out hb)
          have HNd : Aside0 (n0 ≤ v7.heap.size) := ⟨Nat.le_trans HN6.out hb.size⟩
          clear hb HX6 HP6 HL6 HS6 HB6 HN6
          have hneg : decide ((i2 : Int) ≥ 0) = true := decide_eq_true (by omega)
          have hneg2 : (0 ≤ (i2 : Int)) = True := eq_true (by omega)
          go_wp2_with fail
          refine (in_Fail.at_ A m c pr (qs5 O a).2.1 er 11 true v7 HPd.out).mono ?_
          rintro e v8 ⟨rfl, hP, hB⟩
          have HX8 := Aside0.mk (hB.blk HXd.out HGX.out.2.1 HGX.out.2.1)
          obtain ⟨e8, he8⟩ : ∃ z, failF true 11 er = z := ⟨_, rfl⟩
          rw [he8] at hP
          have HE8 : Aside0 ((e8 = 0 → (N : Int) ≤ room ∧ RT = finR m (rdLines O (N - (i + 1)) (qs5 O a).2.1 (S ++ [qsY O a]))) ∧ (e8 ≠ 0 → RT = (e8, []))) := ⟨by
            have hst := HST.out
            rw [HER.out] at hst
            rw [HQL.out.1]
            by_cases hr : er = 0
            · rw [if_pos hr, hany] at hst
              have ha5 := HQL.out.2.2 (by rw [HER.out]; exact hr)
              rw [if_pos rfl] at hst
              have h80 : e8 = 11 := by rw [← he8, hr]; rfl
              exact ⟨fun h => by omega, fun _ => by rw [HRr.out.2, hst, h80]; unfold finR; rw [if_pos (by show (11 : Int) ≠ 0; decide)]⟩
            · rw [if_neg hr] at hst
              have h80 : e8 = er := by rw [← he8]; rw [failF_true, if_neg hr]
              exact ⟨fun h => absurd (h80.symm.trans h) hr, fun _ => by rw [HRr.out.2, hst, h80]; unfold finR; rw [if_pos hr]⟩⟩
          clear he8 hany
          have HL8 : Aside0 (Rl w.heap.size p room v S v8) := ⟨HLd.out.bm1 hB HPd.out (by decide)⟩
          have HS8 := Aside0.mk (HSd.out.bm hB (.inl rfl) (.inl rfl))
          have HN8 : Aside0 (n0 ≤ v8.heap.size) := ⟨Nat.le_trans HNd.out hB.size⟩
          have HB8 := Aside0.mk (Bm.to hB HBd.out (Nat.le_refl _) HNE.out.2.1 HNE.out.2.1)
          have HP8 := Aside0.mk hP
          clear hP hB HLd HSd HBd HPd HNd
          go_wp2_with fail
          go_meet
          exact ⟨e8, rfl, HE8, HP8, HX8, HL8, HS8, HB8, HN8⟩
      case rest =>
        obtain ⟨e8, rfl, HE8, HP8, HX8, HL8, HS8, HB8, HN8⟩ := hcut
        obtain ⟨v8, hv8⟩ : ∃ z, wc = z := ⟨_, rfl⟩
        subst hv8
        clear x0 HL6 HS6 HB6 HN6 HX6 HP6
        have HLL : Aside0 (((S.map ofL).length + 1) * 64 ≤ 140737488355328) := ⟨by rw [map_len]; have := HI.out; have := HRr.out.1; have := HRoom.out; have := C1.out; omega⟩
        go_wp2_with fail
        refine start_ (n := 11) (S := fun w' => w'.cell? ⟨p, 1, none⟩ = some (v) ∧ w'.cell? ⟨gx, 0, none⟩ = some (.string (textR O a 0).1) ∧ w'.cell? ⟨gx, 1, none⟩ = some (.int .i64 (qs1 O a).1) ∧ w'.cell? ⟨gx, 2, none⟩ = some (.int .i64 (qs2 O a).1) ∧ w'.cell? ⟨gx, 3, none⟩ = some (.int .i64 (qs3 O a).1) ∧ w'.cell? ⟨gx, 4, none⟩ = some (.int .i64 (qs4 O a).1) ∧ w'.cell? ⟨gx, 5, none⟩ = some (.string (qs5 O a).1)) (ds := [7, 10]) #[F_,F_,F_,F_,F_,F_,F_,F_,F_,F_,F_] (by kernel_rfl) rfl rfl ⟨(rl_cells (w := wc.drew) HL8.out.hP).2, (lx_cells' (w := wc.drew) HX8.out).1, (lx_cells' (w := wc.drew) HX8.out).2.1, (lx_cells' (w := wc.drew) HX8.out).2.2.1, (lx_cells' (w := wc.drew) HX8.out).2.2.2.1, (lx_cells' (w := wc.drew) HX8.out).2.2.2.2.1, (lx_cells' (w := wc.drew) HX8.out).2.2.2.2.2⟩ (fun hHeld => ?_)
        refine pure_ (i := 0) (N := some 107) (v := ?_) (a' := ?_) #[T_,F_,F_,F_,F_,F_,F_,F_,F_,F_,F_] rfl rfl (by kernel_rfl) (fun _ _ _ h => h) (Or.inl ⟨by rfl, ?_⟩) ?_ ?_
        rotate_left
        · intro w'
          go_simp
          with_reducible rfl
        rotate_left
        · simp only [Act.put, List.setIfInBounds_toArray, List.set_cons_zero, List.set_cons_succ, i64_w, i32_w]
          rfl
        refine pure_ (i := 1) (N := some 108) (v := ?_) (a' := ?_) #[T_,T_,F_,F_,F_,F_,F_,F_,F_,F_,F_] rfl rfl (by kernel_rfl) (fun _ _ _ h => h) (Or.inl ⟨by rfl, ?_⟩) ?_ ?_
        rotate_left
        · intro w'
          go_simp
          with_reducible rfl
        rotate_left
        · simp only [Act.put, List.setIfInBounds_toArray, List.set_cons_zero, List.set_cons_succ, i64_w, i32_w]
          rfl
        refine pure_ (i := 2) (N := some 109) (v := ?_) (a' := ?_) #[T_,T_,T_,F_,F_,F_,F_,F_,F_,F_,F_] rfl rfl (by kernel_rfl) (fun _ _ _ h => h) (Or.inl ⟨by rfl, ?_⟩) ?_ ?_
        rotate_left
        · intro w'
          go_simp
          with_reducible rfl
        rotate_left
        · simp only [Act.put, List.setIfInBounds_toArray, List.set_cons_zero, List.set_cons_succ, i64_w, i32_w]
          rfl
        refine pure_ (i := 3) (N := some 110) (v := ?_) (a' := ?_) #[T_,T_,T_,T_,F_,F_,F_,F_,F_,F_,F_] rfl rfl (by kernel_rfl) (fun _ _ _ h => h) (Or.inl ⟨by rfl, ?_⟩) ?_ ?_
        rotate_left
        · intro w'
          go_simp
          with_reducible rfl
        rotate_left
        · simp only [Act.put, List.setIfInBounds_toArray, List.set_cons_zero, List.set_cons_succ, i64_w, i32_w]
          rfl
        refine take_ (i := 4) (N := some 111) (v := ?_) (a' := ?_) #[T_,T_,T_,T_,T_,F_,F_,F_,F_,F_,F_] rfl rfl (by kernel_rfl) (fun _ _ _ h => h) (Or.inl ⟨by rfl, ?_⟩) hHeld ?_ ?_
        rotate_left
        · rintro w' ⟨s0, s1, s2, s3, s4, s5, s6⟩
          go_simp
          with_reducible rfl
        rotate_left
        · simp only [Act.put, List.setIfInBounds_toArray, List.set_cons_zero, List.set_cons_succ, i64_w, i32_w]
          rfl
        refine take_ (i := 5) (N := some 112) (v := ?_) (a' := ?_) #[T_,T_,T_,T_,T_,T_,F_,F_,F_,F_,F_] rfl rfl (by kernel_rfl) (fun _ _ _ h => h) (Or.inl ⟨by rfl, ?_⟩) hHeld ?_ ?_
        rotate_left
        · rintro w' ⟨s0, s1, s2, s3, s4, s5, s6⟩
          go_simp
          with_reducible rfl
        rotate_left
        · simp only [Act.put, List.setIfInBounds_toArray, List.set_cons_zero, List.set_cons_succ, i64_w, i32_w]
          rfl
        refine one_ (i := 6) (N := some 113) #[T_,T_,T_,T_,T_,T_,T_,F_,F_,F_,F_] rfl rfl (by kernel_rfl) (by decide) (fun K hK => ?_)
        refine value_ (w1 := ?_) (v := ?_) (by rfl) rfl ?_ ?_
        rotate_left 2
        · go_simp
          constructor
          · rfl
          · rfl
        have hba := below_alloc (Below.refl _ wc.drew) (.cells #[.string (textR O a 0).1, .int .i64 (qs1 O a).1, .int .i64 (qs2 O a).1, .int .i64 (qs3 O a).1, .int .i64 (qs4 O a).1, .string (qs5 O a).1] 71)
        have HLa := Aside0.mk ((HL8.out.below (below_drew (Below.refl _ _))).below hba)
        have HXa := Aside0.mk (blk_below (w := wc.drew) HX8.out hba)
        clear hba
        refine hK.out _ _ ⟨(rl_cells HLa.out.hP).2, (lx_cells' HXa.out).1, (lx_cells' HXa.out).2.1, (lx_cells' HXa.out).2.2.1, (lx_cells' HXa.out).2.2.2.1, (lx_cells' HXa.out).2.2.2.2.1, (lx_cells' HXa.out).2.2.2.2.2⟩ (fun hHeld => ?_)
        clear hK K
        refine norm_ (a' := ?_) ?_ ?_
        rotate_left
        · show Act.put _ (some 113) _ = _
          simp only [Act.put, List.setIfInBounds_toArray, List.set_cons_zero, List.set_cons_succ, i64_w, i32_w]
          rfl
        refine last_ (i := 7) (N := some 114) #[T_,T_,T_,T_,T_,T_,T_,T_,F_,F_,F_] rfl rfl (by kernel_rfl) (by decide) (fun K hK => ?_)
        refine Kd.R_append_step k71 (w0 := w) (W := wc.drew) w.heap.size (by rfl) (.tmp 111) (.tmp 113) 58 71 (.agg #[.string ⟨#[]⟩, .int .i64 0, .int .i64 0, .int .i64 0, .int .i64 0, .string ⟨#[]⟩]) 64 rfl Tryd.underlying58 info_line rfl (by decide) (by omega) v (S.map ofL) (ofL (qsY O a)) [.string (textR O a 0).1, .int .i64 (qs1 O a).1, .int .i64 (qs2 O a).1, .int .i64 (qs3 O a).1, .int .i64 (qs4 O a).1, .string (qs5 O a).1] (fun j => j ≠ p) (fun _ => False) rfl rfl (k71_mkM _ _ _ (ofL (qsY O a))) (fun _ hk => hk.elim) (fun j hj => by have h1 := HNE.out.2.2.2.2.1; have h2 := HN8.out; have h3 : wc.heap.size ≤ j := hj; omega) (Kd.R_drew HL8.out.hR) (below_drew HB8.out) HB8.out.size HLL.out ?_
        intro v9 w9 ho9 hb9 hg9 ha9
        obtain ⟨Av9, cv9, rfl⟩ := Kd.R_slice ho9
        generalize (S.map ofL ++ [ofL (qsY O a)]).length = mv9 at ho9 ha9 ⊢
        have HO9 := Aside0.mk ho9
        have HB9 := Aside0.mk hb9
        have HG9 := Aside0.mk hg9
        have HA9 := Aside0.mk ha9
        have HPp9 := Aside0.mk ((hg9.block p (blk_lt (w := wc.drew) HL8.out.hP) (fun e => HL8.out.hR.1 p e.symm rfl)).trans HL8.out.hP)
        have qf9 := blk_frozen HPp9.out 1
        have qq9 := (rl_cells HPp9.out).2
        clear ho9 hb9 hg9 ha9
        refine hK.out _ _ ?_
        clear hK K
        refine norm_ (a' := ?_) ?_ ?_
        rotate_left
        · show Act.put _ (some 114) _ = _
          simp only [Act.put, List.setIfInBounds_toArray, List.set_cons_zero, List.set_cons_succ, i64_w, i32_w]
          rfl
        refine pure_ (i := 8) (N := some 115) (v := ?_) (a' := ?_) #[T_,T_,T_,T_,T_,T_,T_,T_,T_,F_,F_] rfl rfl (by kernel_rfl) (fun _ _ _ h => h) (Or.inl ⟨by rfl, ?_⟩) ?_ ?_
        rotate_left
        · intro w'
          go_simp
          with_reducible rfl
        rotate_left
        · simp only [Act.put, List.setIfInBounds_toArray, List.set_cons_zero, List.set_cons_succ, i64_w, i32_w]
          rfl
        refine pure_ (i := 9) (N := some 116) (v := ?_) (a' := ?_) #[T_,T_,T_,T_,T_,T_,T_,T_,T_,T_,F_] rfl rfl (by kernel_rfl) (fun _ _ _ h => h) (Or.inl ⟨by rfl, ?_⟩) ?_ ?_
        rotate_left
        · intro w'
          go_simp
          with_reducible rfl
        rotate_left
        · simp only [Act.put, List.setIfInBounds_toArray, List.set_cons_zero, List.set_cons_succ, i64_w, i32_w]
          rfl
        refine last_ (i := 10) (N := none) #[T_,T_,T_,T_,T_,T_,T_,T_,T_,T_,T_] rfl rfl (by kernel_rfl) (by decide) (fun K hK => ?_)
        refine skip_ (w1 := ?_) (by rfl) rfl ?_ ?_
        rotate_left
        · go_simp
          rfl
        refine hK.out _ _ ?_
        clear hK K
        refine done_ (by kernel_rfl) ?_
        clear hHeld qf9 qq9
        have HP10 : Aside0 (w9.heap[pr]? = some (.cells #[.slice A m c, .int .i64 (qs5 O a).2.1, .int .i64 e8] 86 (0, 0))) := ⟨(HG9.out.block pr (blk_lt (w := wc.drew) HP8.out) (Kd.R_ne HL8.out.hR (w := wc) HP8.out (by decide))).trans HP8.out⟩
        have HV10 : Aside0 (∀ j, (.slice Av9 mv9 cv9 : Value).ownBlock = some j → n0 ≤ j) := ⟨fun j hj => by
          rcases HA9.out with h | ⟨b, h, hb⟩
          · exact HV.out j (by rw [← h]; exact hj)
          · rw [hj] at h
            have := Option.some.inj h
            have h2 : wc.heap.size ≤ b := hb
            have := HN8.out
            omega⟩
        have HS10 : Aside0 (Src (fun k => k = pr ∨ k = p ∨ n0 ≤ k) A m O w9) := ⟨(HS8.out.below (below_drew (Below.refl _ _))).step HG9.out.size (fun k hk hx => HG9.out.block k hk (fun e => hx (.inr (.inr (HV.out k e.symm)))))⟩
        have HN10 : Aside0 (n0 ≤ w9.heap.size) := ⟨Nat.le_trans HN8.out HG9.out.size⟩
        have HL10 : Aside0 (Rl w.heap.size p room (.slice Av9 mv9 cv9) (S ++ [qsY O a]) (w9.setCell ⟨p, 1, none⟩ (.slice Av9 mv9 cv9))) := ⟨⟨blk_set HPp9.out 1 _, by rw [List.map_append]; exact Kd.R_far HO9.out (p := ⟨p, 1, none⟩) (fun j hj => hj) _, HL8.out.hp0, by rw [List.length_append]; have := HI.out; have := HRr.out.1; have := HRoom.out; have := C1.out; simp only [List.length_cons, List.length_nil]; omega⟩⟩
        go_wp2
        go_roundg (N - (i + 1))
        case measure => have := C1.out; omega
        case rel => exact ⟨i + 1, (qs5 O a).2.1, e8, .slice Av9 mv9 cv9, S ++ [qsY O a], rfl, by first | rfl | rw [hadd], ⟨by have := C1.out; have := HI.out; have hq := HQB.out.2; rw [HM.out.1] at hq; exact ⟨by omega, by simp only [List.length_append, List.length_cons, List.length_nil]; omega, hq.1, hq.2⟩⟩, HE8, HL10, HV10, ⟨blk_far (p := ⟨p, 1, none⟩) HP10.out HNE.out.1 _⟩, ⟨HS10.out.set (.inr (.inl rfl)) 1 _⟩, ⟨by simpa [World.setCell] using HN10.out⟩, ⟨HB9.out.setCell (p := ⟨p, 1, none⟩) HNE.out.2.2.1 _⟩⟩
open Go.Proofs.YtniboafnkiijcaaDoor.Num in
/-- The numbers' readers, and the seals, of the program and of the document. -/
def OpenHyp (l : List Int) : Prop := ∃ (k : Nat) (O : List Int) (eo : Int), crc_Open.f l = some (O, eo) ∧ remoraref02_Open.f k l = some (O, eo) ∧ Byt O ∧ O.length ≤ l.length ∧
  (∀ a, num_Get.f k O a = some (getS O a)) ∧ (∀ a, num_GetInt.f k O a = some (getIntS O a)) ∧ (∀ a, num_GetText.f k O a 200 = some (getTextS O a 200)) ∧
  (∀ a, remoraref01_Get.f k O a = some (getS O a)) ∧ (∀ a, remoraref01_GetInt.f k O a = some (getIntS O a)) ∧ (∀ a, remoraref01_GetText.f k O a 200 = some (getTextS O a 200))
open Go.Proofs.YtniboafnkiijcaaDoor.Num in
def remoralaw33_LedgerReads.Pure : Prop := (∀ l : List Int, l.length ≤ 3004 → Byt l → OpenHyp l) ∧ (∀ l : List Int, l.length ≤ 3000 → Byt l → ∃ k s, remoraref02_Seal.f k l = some s ∧ Byt s ∧ s.length ≤ 3004) ∧ ∀ S : List Ln, (∀ x ∈ S, mayF x = 0) → S.length ≤ 4096 → ∃ k r, ledBytesF k S = some r ∧ refBytesF k S = some r
end Go.Proofs.YtniboafnkiijcaaDoor.P
