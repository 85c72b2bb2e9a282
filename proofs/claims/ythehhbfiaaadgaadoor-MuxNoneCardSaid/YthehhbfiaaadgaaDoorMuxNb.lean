/- Chapter 31, MuxNb. -/
import Derived.Test.YthehhbfiaaadgaaDoorMux4
import Derived.Test.YthehhbfiaaadgaaDoorPx0
namespace Go.Proofs.YthehhbfiaaadgaaDoor.P
open Go.RowKit Go.Proofs.YthehhbfiaaadgaaDoorW.PrintWords Go.Proofs.YthehhbfiaaadgaaDoorW.PrintLast Go.Proofs.YthehhbfiaaadgaaDoorW.PrintMore
attribute [local go_sem] max2_int min2_int max_two min_two max_three min_three max_four min_four
set_option linter.unusedVariables false
set_option linter.unusedSimpArgs false
open Go.Proofs.YthehhbfiaaadgaaDoor.Num Go.Proofs.YthehhbfiaaadgaaDoor.Pure
def remoralaw31_MuxNobody.f (a0 : Int) (l1 : List Int) : Option Bool := some true
def remoralaw31_MuxNobody.Pure : Prop := True
theorem gt_pos {w : World} (h : GT w) : 0 < w.heap.size := by
  have := World.block_lt_of_cell? w _ (h 0 (by decide))
  exact this
set_option maxHeartbeats 8000000 in
set_option maxRecDepth 100000 in
theorem nobody_main (ch : Int) (D : Option Addr) (n c : Nat) (N : List Int) (w : World) (hG : GT w) (hC : Kd.C (Kd.int .u8) w D n N) (hN : Byt N) :
    Calls Tryd.prog 8 #[.int .i64 ch, .slice D n c] w fun e w' => e = .returned (.bool true) ∧ Below w.heap.size w w' := by
  have HG := Aside0.mk hG
  have H0 := Aside0.mk (gt_pos hG)
  have HC := Aside0.mk hC
  have HN := Aside0.mk hN
  clear hG hC hN
  go_enter Tryd.func8, Tryd.ntmps8
  go_wp2_with fail
  refine (mux_Send.nil ch D n c w).mono ?_
  rintro e W ⟨rfl, rfl⟩
  go_wp2_with fail
  refine (mux_Take.nil D n c W).mono ?_
  rintro e w ⟨rfl, rfl⟩
  go_wp2_with fail
  refine (mux_Err.nil w).mono ?_
  rintro e W ⟨rfl, rfl⟩
  go_wp2_with fail
  refine (mux_Out.nil 9 W).mono ?_
  rintro e w ⟨rfl, rfl⟩
  go_wp2_with fail
  refine (mux_Recv.nil ch w).mono ?_
  rintro e W ⟨rfl, rfl⟩
  go_wp2_with fail
  refine (mux_Room.nil ch W).mono ?_
  rintro e w ⟨rfl, rfl⟩
  go_wp2_with fail
  refine (mux_Held.nil ch w).mono ?_
  rintro e w ⟨rfl, rfl⟩
  go_wp2_with fail
  refine (new_at 100 (by decide) w).mono ?_
  rintro e w1 ⟨p, q, rfl, hM1, hb1⟩
  have HM1 := Aside0.mk hM1
  have HB1 := Aside0.mk hb1
  clear hM1 hb1
  by_cases hbig : 100 < n
  · have k1 : decide (100 < (n : Int)) = true := decide_eq_true (by omega)
    have k2 : decide ((n : Int) > 100) = true := k1
    clear hbig
    go_wp2_with fail
    refine (law_awake w1 (HG.out.past HB1.out H0.out) (Nat.lt_of_lt_of_le H0.out HB1.out.size)).mono ?_
    rintro e w2 ⟨rfl, hb2⟩
    have HB2 := Aside0.mk (HB1.out.trans (hb2.mono HB1.out.size))
    clear hb2
    go_wp2
    go_ret
    exact ⟨rfl, HB2.out⟩
  · have k1 : decide (100 < (n : Int)) = false := decide_eq_false (by omega)
    have k2 : decide ((n : Int) > 100) = false := k1
    have hfit := Mx.Fit.new (win := 100) ⟨by decide, by decide⟩
    have hs := mux_Send.any ch D n c N w1 HM1.out hfit (Kd.C_below HC.out HB1.out) (fun _ _ => by show 0 + n ≤ _; omega) HB1.out.size
    by_cases hch : 0 ≤ ch ∧ ch < 8
    · obtain ⟨i, rfl⟩ : ∃ i : Nat, ch = i := ⟨ch.toNat, by omega⟩
      have hi : i < 8 := by omega
      have j1 : decide ((i : Int) ≥ 0) = true := decide_eq_true (by omega)
      have j1' : decide (0 ≤ (i : Int)) = true := j1
      have j2 : decide ((i : Int) < 8) = true := decide_eq_true (by omega)
      have hE : (Mx.new 100).sendE i n = 0 := by
        unfold Mx.sendE
        rw [if_neg (by decide), if_neg (by omega), if_neg (by show ¬ ((n : Int) > 100 - 0); omega)]
      rw [hE, if_pos rfl, Int.toNat_natCast] at hs
      have hway : ((Mx.new 100).send i N).win - ((Mx.new 100).send i N).way i = 100 - (n : Int) := by
        show (100 : Int) - upd (fun _ => (0 : Int)) i (wrap64 ((0 : Int) + (N.length : Nat))) i = _
        unfold upd
        rw [if_pos rfl, HC.out.1, show wrap64 ((0 : Int) + (n : Nat)) = n by unfold wrap64; omega]
      have hf2 := Mx.send_fit hfit i hi N HN.out (by rw [HC.out.1]; show (n : Int) ≤ 100 - 0; omega)
      have HS := Aside0.mk hs
      have HW := Aside0.mk (And.intro hway (And.intro hf2 hi))
      have j3 : wrap64 (100 - (n : Int)) = 100 - (n : Int) := by unfold wrap64; omega
      clear hs hE hfit hbig hch hi hway hf2
      go_wp2_with fail
      refine HS.out.mono ?_
      rintro e w2 ⟨rfl, vs2, hM2, hS2⟩
      have HB2 := Aside0.mk (HB1.out.trans (hS2.below w.heap.size (fun k hk => (HM1.out.foot k hk).1) HB1.out.size))
      have hR := mux_Room.at_ i HW.out.2.2 w2 hM2
      rw [Mx.room HW.out.2.1 i HW.out.2.2, HW.out.1] at hR
      have HR := Aside0.mk hR
      clear hM2 hS2 hR HS
      go_wp2_with fail
      refine HR.out.mono ?_
      rintro e w3 ⟨rfl, hb3⟩
      have HB3 := Aside0.mk (HB2.out.trans (hb3.mono HB2.out.size))
      clear hb3
      go_wp2_with fail
      refine (law_awake w3 (HG.out.past HB3.out H0.out) (Nat.lt_of_lt_of_le H0.out HB3.out.size)).mono ?_
      rintro e w4 ⟨rfl, hb4⟩
      have HB4 := Aside0.mk (HB3.out.trans (hb4.mono HB3.out.size))
      clear hb4
      go_wp2
      go_ret
      exact ⟨rfl, HB4.out⟩
    · have hout : ch < 0 ∨ 8 ≤ ch := by omega
      have hE : (Mx.new 100).sendE ch n = 2 := by
        unfold Mx.sendE
        rw [if_neg (by decide), if_pos hout]
      rw [hE, if_neg (by decide)] at hs
      have ho : (decide (ch < 0) || decide (ch ≥ 8)) = true := by rw [Bool.or_eq_true, decide_eq_true_eq, decide_eq_true_eq]; exact hout
      have j1 : (decide (0 ≤ ch) && decide (ch < 8)) = false := by
        rw [Bool.and_eq_false_iff, decide_eq_false_iff_not, decide_eq_false_iff_not]; omega
      have HS := Aside0.mk hs
      have HO := Aside0.mk ho
      clear hs hE hfit hbig hch ho
      have fin : ∀ w1 : World, Below w.heap.size w w1 → Calls Tryd.prog 10 #[] w1 fun e w' => e = .returned (.bool true) ∧ Below w.heap.size w w' := fun w1 hb => (law_awake w1 (HG.out.past hb H0.out) (Nat.lt_of_lt_of_le H0.out hb.size)).mono (fun e w' h => ⟨h.1, hb.trans (h.2.mono hb.size)⟩)
      have FIN := Aside0.mk fin
      clear fin
      rcases hout with h1 | h1
      · have j2 : decide (ch ≥ 0) = false := decide_eq_false (by omega)
        have j2' : decide (0 ≤ ch) = false := j2
        clear h1
        go_wp2_with fail
        refine HS.out.mono ?_
        rintro e w2 ⟨rfl, vs2, hM2, hS2⟩
        have HB2 := Aside0.mk (HB1.out.trans (hS2.below w.heap.size (fun k hk => (HM1.out.foot k hk).1) HB1.out.size))
        clear hM2 hS2 HS
        go_wp2_with fail
        refine (mux_Room.out p ch w2 HO.out).mono ?_
        rintro e W ⟨rfl, rfl⟩
        go_wp2_with fail
        refine (mux_Held.out p ch W HO.out).mono ?_
        rintro e w3 ⟨rfl, rfl⟩
        go_wp2_with fail
        refine (mux_Recv.out p ch w3 HO.out).mono ?_
        rintro e W ⟨rfl, rfl⟩
        go_wp2_with fail
        refine (FIN.out W HB2.out).mono ?_
        rintro e w4 ⟨rfl, hb4⟩
        have HB4 := Aside0.mk hb4
        clear hb4
        go_wp2
        go_ret
        exact ⟨rfl, HB4.out⟩
      · have j2 : decide (ch ≥ 0) = true := decide_eq_true (by omega)
        have j2' : decide (0 ≤ ch) = true := j2
        have j3 : decide (ch < 8) = false := decide_eq_false (by omega)
        clear h1
        go_wp2_with fail
        refine HS.out.mono ?_
        rintro e w2 ⟨rfl, vs2, hM2, hS2⟩
        have HB2 := Aside0.mk (HB1.out.trans (hS2.below w.heap.size (fun k hk => (HM1.out.foot k hk).1) HB1.out.size))
        clear hM2 hS2 HS
        go_wp2_with fail
        refine (mux_Room.out p ch w2 HO.out).mono ?_
        rintro e W ⟨rfl, rfl⟩
        go_wp2_with fail
        refine (mux_Held.out p ch W HO.out).mono ?_
        rintro e w3 ⟨rfl, rfl⟩
        go_wp2_with fail
        refine (mux_Recv.out p ch w3 HO.out).mono ?_
        rintro e W ⟨rfl, rfl⟩
        go_wp2_with fail
        refine (FIN.out W HB2.out).mono ?_
        rintro e w4 ⟨rfl, hb4⟩
        have HB4 := Aside0.mk hb4
        clear hb4
        go_wp2
        go_ret
        exact ⟨rfl, HB4.out⟩
theorem remoralaw31_MuxNobody.walk (P : remoralaw31_MuxNobody.Pure) (a0 : Int) (a1 : Option Addr) (len1 cap1 : Nat) (z1 : List Int) (w : World) (hG : GT w) (w0 : (Lit.int .i64 a0).wf = true) (w1 : (a1 = none ∧ len1 = 0 ∧ cap1 = 0 ∧ z1 = []) ∨ ∃ x, a1 = some x ∧ len1 ≤ cap1 ∧ cap1 ≤ maxLen ∧ z1.length = cap1 ∧ (∀ i, i < z1.length → w.cell? (x.add i) = some (.int .u8 (z1.getD i 0))) ∧ ∀ n ∈ z1, (Lit.int .u8 n).wf = true) (y1 : len1 * 1 ≤ 140737488351232) :
    Calls Tryd.prog 8 #[.int .i64 a0, .slice a1 len1 cap1] w fun e w' => e = .returned (.bool true) ∧ Below w.heap.size w w' := by
  obtain ⟨l0, rfl, hr0, hm0, hw0, hc0⟩ := ReadsInt.ofRowC w1
  exact nobody_main a0 a1 _ cap1 l0 w hG (Kd.C_of_reads (d := (0 : Int)) (h1 := fun _ => rfl) hr0) (Go.Proofs.YthehhbfiaaadgaaDoor.Num.byt_of hw0)
end Go.Proofs.YthehhbfiaaadgaaDoor.P
