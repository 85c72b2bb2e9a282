-- Written by a program of the session (wip/tool/mk.py) out of the translation; Lean checks it.
import Derived.Test.YtplpckppejnicaaDoorPx0
import Derived.Test.YtplpckppejnicaaDoorPx1
namespace Go.Proofs.YtplpckppejnicaaDoor.P
open Go.RowKit Go.Proofs.YtplpckppejnicaaDoorW.PrintWords Go.Proofs.YtplpckppejnicaaDoorW.PrintLast Go.Proofs.YtplpckppejnicaaDoorW.PrintMore
attribute [local go_sem] max2_int min2_int max_two min_two max_three min_three max_four min_four   -- for this text's walks alone
set_option linter.unusedVariables false
set_option linter.unusedSimpArgs false

/-! ### remoralaw02_CrcLines: function 4, a contract of my own -/
/-! ### remoralaw02_CrcLines: function 4 -/
def remoralaw02_CrcLines.l0 : Nat → List Int → List Int → List Int → Int → List Int → Int → Option (Bool)
  | 0, _, _, _, _, _, _ => none
  | k + 1, x0, x1, x2, x7, x8, x9 => if x9 < x7 then (if 0 ≤ x9 then (if x9 < (x0.length : Int) then (if x9 < (x1.length : Int) then (if x9 < (x2.length : Int) then (if x9 < (x8.length : Int) then (remoralaw02_CrcLines.l0 k x0 x1 x2 x7 (x8.set (x9 : Int).toNat (Go.bits .xor .u8 (Go.bits .xor .u8 (rd x0 x9) (rd x1 x9)) (rd x2 x9))) (wrap64 (x9 + 1))) else (none)) else (none)) else (none)) else (none)) else (none)) else ((crc_Of1.f x8).bind fun t109 => (if 0 ≤ x7 then (if x7 ≤ (x0.length : Int) then ((crc_Of1.f (x0.take (x7 : Int).toNat)).bind fun t111 => (if x7 ≤ (x1.length : Int) then ((crc_Of1.f (x1.take (x7 : Int).toNat)).bind fun t113 => (if x7 ≤ (x2.length : Int) then ((crc_Of1.f (x2.take (x7 : Int).toNat)).bind fun t115 => (if t109 = (Go.bits .xor .u32 (Go.bits .xor .u32 t111 t113) t115) then ((remoralaw02_awake.f).bind fun t116 => (some t116)) else (some false))) else (none))) else (none))) else (none)) else (none)))
def remoralaw02_CrcLines.f (k : Nat) (l0 : List Int) (l1 : List Int) (l2 : List Int) : Option (Bool) := if (mn (mn (l0.length : Int) (l1.length : Int)) (l2.length : Int)) > 600 then ((remoralaw02_awake.f).bind fun t101 => (some t101)) else (if 0 ≤ (mn (mn (l0.length : Int) (l1.length : Int)) (l2.length : Int)) then (if (mn (mn (l0.length : Int) (l1.length : Int)) (l2.length : Int) : Int).toNat ≤ 281474976710656 then (remoralaw02_CrcLines.l0 k l0 l1 l2 (mn (mn (l0.length : Int) (l1.length : Int)) (l2.length : Int)) (List.replicate (mn (mn (l0.length : Int) (l1.length : Int)) (l2.length : Int) : Int).toNat 0) 0) else (none)) else (none))
theorem remoralaw02_CrcLines.mono_l : ∀ k, (∀ y0 y1 y2 y3 y4 y5, LeO (remoralaw02_CrcLines.l0 k y0 y1 y2 y3 y4 y5) (remoralaw02_CrcLines.l0 (k + 1) y0 y1 y2 y3 y4 y5))
  | 0 => fun _ _ _ _ _ _ r h => by simp [remoralaw02_CrcLines.l0] at h
  | k + 1 => by
    have ih0 := remoralaw02_CrcLines.mono_l k
    · intro y0 y1 y2 y3 y4 y5
      unfold remoralaw02_CrcLines.l0
      repeat' first
      | (with_reducible exact ih0 _ _ _ _ _ _)
      | (with_reducible exact LeO.refl _)
      | (with_reducible exact LeO.none _)
      | (with_reducible refine LeO.ite ?_ ?_)
      | (with_reducible refine LeO.bind ?_ (fun _ => ?_))
      | exact ih0 _ _ _ _ _ _
      | exact LeO.none _
      | refine LeO.ite ?_ ?_
      | refine LeO.bind ?_ (fun _ => ?_)
theorem remoralaw02_CrcLines.mono : ∀ a0 a1 a2 k, LeO (remoralaw02_CrcLines.f k a0 a1 a2) (remoralaw02_CrcLines.f (k + 1) a0 a1 a2) := by
  intro a0 a1 a2 k
  have ih0 := remoralaw02_CrcLines.mono_l k
  unfold remoralaw02_CrcLines.f
  repeat' first
      | (with_reducible exact ih0 _ _ _ _ _ _)
      | (with_reducible exact LeO.refl _)
      | (with_reducible exact LeO.none _)
      | (with_reducible refine LeO.ite ?_ ?_)
      | (with_reducible refine LeO.bind ?_ (fun _ => ?_))
      | exact ih0 _ _ _ _ _ _
      | exact LeO.none _
      | refine LeO.ite ?_ ?_
      | refine LeO.bind ?_ (fun _ => ?_)
def remoralaw02_CrcLines.T8 : Bool × List (List Nat × List Nat) := (true, [([], []), ([], []), ([], []), ([], []), ([2, 3], [2, 3]), ([4], [4]), ([], []), ([], []), ([6, 7], [6, 7]), ([8], [8]), ([5, 9], [5, 9]), ([], []), ([], []), ([11, 12], [11, 12]), ([13], [13]), ([10, 14], [10, 14]), ([0, 1, 0, 1, 2, 3, 4, 5, 6, 7, 8, 9, 10, 11, 12, 13, 14, 15], [0, 1]), ([16, 15, 0, 1, 2, 3, 4, 5, 6, 7, 8, 9, 10, 11, 12, 13, 14, 15], [15, 16])])
def remoralaw02_CrcLines.B8 : List Nat := [0, 0, 0, 0, 12, 28, 0, 0, 192, 448, 1020, 0, 0, 6144, 14336, 32764, 65535, 131071]
theorem remoralaw02_CrcLines.tab8 : rtab .any (opsOf Tryd.f4 8) = remoralaw02_CrcLines.T8 := by kernel_rfl
theorem remoralaw02_CrcLines.bits8 : waitsOk remoralaw02_CrcLines.T8.2 remoralaw02_CrcLines.B8 = true := by kernel_rfl
def remoralaw02_CrcLines.T9 : Bool × List (List Nat × List Nat) := (true, [([], []), ([0], [0]), ([1], [1]), ([], []), ([], []), ([3, 4], [3, 4]), ([5], [5]), ([6, 2], [6]), ([], []), ([], []), ([8, 9], [8, 9]), ([10], [10]), ([11, 7], [11]), ([7, 12], [7, 12]), ([], []), ([], []), ([14, 15], [14, 15]), ([16], [16]), ([17, 12], [17]), ([13, 18], [13, 18]), ([2, 19], [2, 19]), ([20, 18], [20]), ([21, 21], [21]), ([21, 22], [21, 22]), ([23, 22, 0, 1, 2, 3, 4, 5, 6, 7, 8, 9, 10, 11, 12, 13, 14, 15, 16, 17, 18, 19, 20, 21, 22, 23], [23])])
def remoralaw02_CrcLines.B9 : List Nat := [0, 1, 3, 0, 0, 24, 56, 127, 0, 0, 768, 1792, 4095, 8191, 0, 0, 49152, 114688, 253951, 524287, 1048575, 2097151, 4194303, 8388607, 16777215]
theorem remoralaw02_CrcLines.tab9 : rtab .any (opsOf Tryd.f4 9) = remoralaw02_CrcLines.T9 := by kernel_rfl
theorem remoralaw02_CrcLines.bits9 : waitsOk remoralaw02_CrcLines.T9.2 remoralaw02_CrcLines.B9 = true := by kernel_rfl
set_option maxHeartbeats 8000000 in
set_option maxRecDepth 100000 in
theorem remoralaw02_CrcLines.calls (k : Nat) (A0 : Option Addr) (c0 : Nat) (l0 : List Int) (A1 : Option Addr) (c1 : Nat) (l1 : List Int) (A2 : Option Addr) (c2 : Nat) (l2 : List Int) (r : Bool) (w : World) (hG : GT w) (hr0 : Kd.C (Kd.int .u8) w A0 l0.length l0) (hc0 : l0.length ≤ c0) (hr1 : Kd.C (Kd.int .u8) w A1 l1.length l1) (hc1 : l1.length ≤ c1) (hr2 : Kd.C (Kd.int .u8) w A2 l2.length l2) (hc2 : l2.length ≤ c2) (h : remoralaw02_CrcLines.f k l0 l1 l2 = some r) :
    Calls Tryd.prog 4 #[.slice A0 l0.length c0, .slice A1 l1.length c1, .slice A2 l2.length c2] w fun e w' => e = .returned (.bool r) ∧ Below w.heap.size w w' := by
  have HR0 := Aside0.mk hr0
  have HC0 := Aside0.mk hc0
  clear hr0 hc0
  have HR1 := Aside0.mk hr1
  have HC1 := Aside0.mk hc1
  clear hr1 hc1
  have HR2 := Aside0.mk hr2
  have HC2 := Aside0.mk hc2
  clear hr2 hc2
  have HG := Aside0.mk hG
  clear hG
  have HB := Aside0.mk (Below.refl w.heap.size w)
  have H : (if (mn (mn (l0.length : Int) (l1.length : Int)) (l2.length : Int)) > 600 then ((remoralaw02_awake.f).bind fun t101 => (some t101)) else (if 0 ≤ (mn (mn (l0.length : Int) (l1.length : Int)) (l2.length : Int)) then (if (mn (mn (l0.length : Int) (l1.length : Int)) (l2.length : Int) : Int).toNat ≤ 281474976710656 then (remoralaw02_CrcLines.l0 k l0 l1 l2 (mn (mn (l0.length : Int) (l1.length : Int)) (l2.length : Int)) (List.replicate (mn (mn (l0.length : Int) (l1.length : Int)) (l2.length : Int) : Int).toNat 0) 0) else (none)) else (none))) = some r := h
  clear h
  obtain ⟨ji4, hji4⟩ : ∃ j_ : Int, (mn (l0.length : Int) (l1.length : Int)) = j_ := ⟨_, rfl⟩
  replace H : (if (mn (ji4) (l2.length : Int)) > 600 then ((remoralaw02_awake.f).bind fun t101 => (some t101)) else (if 0 ≤ (mn (ji4) (l2.length : Int)) then (if (mn (ji4) (l2.length : Int) : Int).toNat ≤ 281474976710656 then (remoralaw02_CrcLines.l0 k l0 l1 l2 (mn (ji4) (l2.length : Int)) (List.replicate (mn (ji4) (l2.length : Int) : Int).toNat 0) 0) else (none)) else (none))) = some r := by first | (rw [hji4] at H; exact H) | (simp only [hji4] at H ⊢; exact H)
  (try (have hji4l : 0 ≤ ji4 := by (rw [← hji4]; unfold mn; (repeat' split) <;> omega)))
  (try (have hji4m : 0 ≤ ji4 := by omega))
  have hji4_ : (if (l1.length : Int) < (l0.length : Int) then (l1.length : Int) else (l0.length : Int)) = ji4 := hji4
  have hji4n_ : (if l1.length < l0.length then (l1.length : Int) else (l0.length : Int)) = ji4 := by rw [← hji4_]; simp only [Int.ofNat_lt]
  obtain ⟨ji5, hji5⟩ : ∃ j_ : Int, (mn (ji4) (l2.length : Int)) = j_ := ⟨_, rfl⟩
  replace H : (if (ji5) > 600 then ((remoralaw02_awake.f).bind fun t101 => (some t101)) else (if 0 ≤ (ji5) then (if (ji5 : Int).toNat ≤ 281474976710656 then (remoralaw02_CrcLines.l0 k l0 l1 l2 ji5 (List.replicate (ji5 : Int).toNat 0) 0) else (none)) else (none))) = some r := by first | (rw [hji5] at H; exact H) | (simp only [hji5] at H ⊢; exact H)
  have hji5_ : (if (l2.length : Int) < (ji4) then (l2.length : Int) else (ji4)) = ji5 := hji5
  by_cases c6 : (ji5) > 600
  · rw [if_pos c6] at H
    have c6b0 : decide (600 < (ji5)) = true := decide_eq_true c6
    clear c6
    replace H := Option.bind_eq_some_iff.mp H
    obtain ⟨t101, A70, H⟩ := H
    replace H : (some t101) = some r := H
    have A7 := Aside0.mk A70
    clear A70
    obtain rfl := Option.some.inj H
    go_enter Tryd.func4, Tryd.ntmps4
    go_wp2_with (first | ((with_reducible refine gate_callee (f := 10) rfl ?_); refine goesL_ (some 19) rfl rfl Tryd.func10 (by kernel_rfl) rfl #[] rfl (by (try simp only [List.map_toArray, List.map_cons, List.map_nil]); first | done | rfl | (simp only [List.length_drop, List.length_take]; rfl) | (simp; done) | (simp; (repeat' apply And.intro) <;> rfl)) ?_; (with_reducible refine (remoralaw02_awake.calls  t101 _ ?side1 A7.out).mono ?_); (case side1 => first | exact HG.out | exact GT.below HG.out (by repeat (first | (with_reducible first | exact HB.out | apply below_alloc | apply pw_below_drewN | apply below_drew1) | exact HB.out))); rintro e w8 ⟨rfl, hb⟩; refine ⟨_, rfl, ?_⟩; have n0_ := Aside0.mk (below_step (by repeat (first | (with_reducible first | exact HB.out | apply below_alloc | apply pw_below_drewN | apply below_drew1) | exact HB.out)) hb); clear HB; have HB := n0_; clear n0_; (try clear hb); (try clear hb2); (try clear hk); (try clear hi)))
    go_ret
    exact ⟨by first | rfl | (simp [errW_none, errW_some] <;> rfl) | (simp only [← hji4, ← hji5]; first | rfl | (simp [errW_none, errW_some] <;> rfl)) | (simp [*, errW_none, errW_some] <;> rfl), by repeat (first | (with_reducible first | exact HB.out | apply below_alloc | apply pw_below_drewN | apply below_drew1) | exact HB.out)⟩
  · rw [if_neg c6] at H
    have c6b0 : decide (600 < (ji5)) = false := decide_eq_false c6
    clear c6
    by_cases c9 : 0 ≤ (ji5)
    · rw [if_pos c9] at H
      have c9b0 := eq_true c9
      have c9b1 : decide (0 ≤ (ji5)) = true := decide_eq_true c9
      clear c9
      by_cases c10 : (ji5 : Int).toNat ≤ 281474976710656
      · rw [if_pos c10] at H
        have c10b0 := eq_true c10
        have c10b1 : decide ((ji5 : Int).toNat ≤ 281474976710656) = true := decide_eq_true c10
        clear c10
        obtain ⟨y102, hy102⟩ : ∃ y_ : List Int, y_ = (List.replicate (ji5 : Int).toNat 0) := ⟨_, rfl⟩
        replace H : (remoralaw02_CrcLines.l0 k l0 l1 l2 ji5 y102 0) = some r := by first | (rw [hy102]; with_reducible exact H) | (have H2_ := (Option.bind_some _ _).symm.trans H; rw [hy102]; with_reducible exact H2_) | (have H2_ := (Option.bind_some _ _).symm.trans H; with_reducible exact H2_) | with_reducible exact H | (rw [hy102]; exact H) | exact H
        have Ny102 := Aside0.mk hy102
        clear hy102
        have H' := Aside0.mk H
        clear H
        go_enter Tryd.func4, Tryd.ntmps4
        go_wp2_with (first | ((with_reducible refine gate_dst (N := 21) rfl ?_); refine Kd.R_make (Kd.int .u8) _ 5 rfl (N := 21) rfl 24 _ _ rfl ji5 rfl rfl Tryd.underlying24 (.int .u8 0) 1 info5 rfl (by decide) (by omega) 0 (ok := fun _ => True) (okp := fun _ => True) rfl (fun _ hk => hk) trivial (of_decide_eq_true (by first | (with_reducible assumption) | assumption)) (Nat.le_trans (Nat.mul_le_mul_right _ (of_decide_eq_true (by first | (with_reducible assumption) | assumption) : ji5.toNat ≤ 281474976710656)) (by omega)) (Below.refl _ _) (Nat.le_refl _) ?_; intro v103 w11 ho12 hb hg_ hnew_; clear hg_ hnew_; (first | rw [← Ny102.out] at ho12 | (simp only [Int.reduceToNat] at ho12; rw [← Ny102.out] at ho12)); have n0_ := Aside0.mk (Kd.R_lower ho12 (below_size (by repeat (first | (with_reducible first | exact HB.out | apply below_alloc | apply pw_below_drewN | apply below_drew1) | exact HB.out)))); have n1_ := Aside0.mk (below_step (by repeat (first | (with_reducible first | exact HB.out | apply below_alloc | apply pw_below_drewN | apply below_drew1) | exact HB.out)) hb); clear HB; have HO104 := n0_; have HB := n1_; clear n0_ n1_; clear hb ho12))
        go_loopg [9] k (fun kq v9 w' => ∃ (x8_1 : List Int) (x9_1 : Int), v9 = .int .i64 x9_1 ∧ Aside0 (remoralaw02_CrcLines.l0 kq l0 l1 l2 ji5 x8_1 x9_1 = some r) ∧ Aside0 (kq ≤ k) ∧ Aside0 (Kd.R (Kd.int .u8) 5 w' w.heap.size (fun _ => True) v103 x8_1) ∧ Aside0 (Below w.heap.size w w'))
        case atStart => exact ⟨(y102), (0), (by first | rfl | (simp; done) | (simp [*]; done)), H', ⟨Nat.le_refl _⟩, ⟨by (with_reducible repeat (first | apply Kd.R_alloc | apply Kd.R_drewN | apply Kd.R_drew)); exact HO104.out⟩, ⟨by repeat (first | (with_reducible first | exact HB.out | apply below_alloc | apply pw_below_drewN | apply below_drew1) | exact HB.out)⟩⟩
        case round =>
          clear H'
          try clear c1
          try clear c2
          try clear p2
          try clear c4
          try clear c6
          try clear c6b0
          try clear c9
          try clear c9b0
          try clear c9b1
          try clear c10
          try clear c10b0
          try clear c10b1
          obtain ⟨x8_1, x9_1, rfl, HA, HK1, HO_8, HB⟩ := hrel
          cases gk with
          | zero => exact absurd HA.out (by simp [remoralaw02_CrcLines.l0])
          | succ k1 =>
            have H := HA.out
            clear HA
            simp only [remoralaw02_CrcLines.l0] at H
            by_cases c13 : x9_1 < ji5
            · rw [if_pos c13] at H
              have c13b0 : decide (x9_1 < ji5) = true := decide_eq_true c13
              clear c13
              by_cases c14 : 0 ≤ x9_1
              · rw [if_pos c14] at H
                have c14b0 : decide (0 ≤ x9_1) = true := decide_eq_true c14
                clear c14
                by_cases c15 : x9_1 < (l0.length : Int)
                · rw [if_pos c15] at H
                  have c15b0 : decide (x9_1 < (l0.length : Int)) = true := decide_eq_true c15
                  clear c15
                  by_cases c16 : x9_1 < (l1.length : Int)
                  · rw [if_pos c16] at H
                    have c16b0 : decide (x9_1 < (l1.length : Int)) = true := decide_eq_true c16
                    clear c16
                    by_cases c17 : x9_1 < (l2.length : Int)
                    · rw [if_pos c17] at H
                      have c17b0 : decide (x9_1 < (l2.length : Int)) = true := decide_eq_true c17
                      clear c17
                      by_cases c18 : x9_1 < (x8_1.length : Int)
                      · rw [if_pos c18] at H
                        have c18b0 : decide (x9_1 < (x8_1.length : Int)) = true := decide_eq_true c18
                        clear c18
                        obtain ⟨y108, hy108⟩ : ∃ y_ : List Int, y_ = (x8_1.set (x9_1 : Int).toNat (Go.bits .xor .u8 (Go.bits .xor .u8 (rd l0 x9_1) (rd l1 x9_1)) (rd l2 x9_1))) := ⟨_, rfl⟩
                        replace H : (remoralaw02_CrcLines.l0 k1 l0 l1 l2 ji5 y108 (wrap64 (x9_1 + 1))) = some r := by first | (rw [hy108]; with_reducible exact H) | (have H2_ := (Option.bind_some _ _).symm.trans H; rw [hy108]; with_reducible exact H2_) | (have H2_ := (Option.bind_some _ _).symm.trans H; with_reducible exact H2_) | with_reducible exact H | (rw [hy108]; exact H) | exact H
                        have Ny108 := Aside0.mk hy108
                        clear hy108
                        have H' := Aside0.mk H
                        clear H
                        try go_wp2
                        have n0_ := Aside0.mk (Kd.R_drew HO_8.out)
                        have n1_ := Aside0.mk (below_drew1 HB.out)
                        clear HO_8
                        clear HB
                        have HO_8 := n0_
                        have HB := n1_
                        clear n0_ n1_
                        have p105 : 0 ≤ (x9_1 : Int) := of_decide_eq_true (by first | (with_reducible assumption) | assumption)
                        have q105 : x9_1 < (l0.length : Int) := of_decide_eq_true (by first | (with_reducible assumption) | assumption)
                        obtain ⟨ad105, e105, hx105_0⟩ := Kd.at_int HR0.out x9_1 p105 q105
                        have hw105_0 := hx105_0
                        cases e105
                        replace hx105_0 := (HB.out.cell (World.block_lt_of_cell? w _ hx105_0)).trans hx105_0
                        replace p105 := eq_true p105
                        replace q105 := eq_true q105
                        have p106 : 0 ≤ (x9_1 : Int) := of_decide_eq_true (by first | (with_reducible assumption) | assumption)
                        have q106 : x9_1 < (l1.length : Int) := of_decide_eq_true (by first | (with_reducible assumption) | assumption)
                        obtain ⟨ad106, e106, hx106_0⟩ := Kd.at_int HR1.out x9_1 p106 q106
                        have hw106_0 := hx106_0
                        cases e106
                        replace hx106_0 := (HB.out.cell (World.block_lt_of_cell? w _ hx106_0)).trans hx106_0
                        replace p106 := eq_true p106
                        replace q106 := eq_true q106
                        have p107 : 0 ≤ (x9_1 : Int) := of_decide_eq_true (by first | (with_reducible assumption) | assumption)
                        have q107 : x9_1 < (l2.length : Int) := of_decide_eq_true (by first | (with_reducible assumption) | assumption)
                        obtain ⟨ad107, e107, hx107_0⟩ := Kd.at_int HR2.out x9_1 p107 q107
                        have hw107_0 := hx107_0
                        cases e107
                        replace hx107_0 := (HB.out.cell (World.block_lt_of_cell? w _ hx107_0)).trans hx107_0
                        replace p107 := eq_true p107
                        replace q107 := eq_true q107
                        have p19 : 0 ≤ (x9_1 : Int) := of_decide_eq_true (by first | (with_reducible assumption) | assumption)
                        have q19 : (x9_1 : Int) < ((x8_1.length : Int) : Int) := of_decide_eq_true (by first | (with_reducible assumption) | assumption)
                        obtain ⟨go19, co19, eo19, gb19, gl19, cl19, HG19⟩ := Kd.R_form HO_8.out (by omega)
                        (first | cases eo19 | (injection eo19 with ea_ en_ ec_; (first | subst ea_ | (injection ea_ with ea_; subst ea_)); subst ec_; clear en_))
                        have GB19 := Aside0.mk gb19
                        have GG19 := Aside0.mk HG19
                        clear gb19 gl19 HG19
                        obtain ⟨hx19_0, hf19_0⟩ := Kd.R_celln 0 HO_8.out (x9_1 : Int) p19 q19
                        replace p19 := eq_true p19
                        replace q19 := eq_true q19
                        have HP21 := Kd.R_putn HO_8.out (x9_1 : Int) (Go.bits .xor .u8 (Go.bits .xor .u8 (rd l0 x9_1) (rd l1 x9_1)) (rd l2 x9_1))
                        rw [← Ny108.out] at HP21
                        have HQ21 := Aside0.mk HP21
                        clear HP21
                        refine start_ (n := 18) (S := fun w' => w'.cell? (ad105.add (x9_1).toNat) = some (.int .u8 (rd l0 x9_1)) ∧ w'.cell? (ad106.add (x9_1).toNat) = some (.int .u8 (rd l1 x9_1)) ∧ w'.cell? (ad107.add (x9_1).toNat) = some (.int .u8 (rd l2 x9_1))) (ds := [17]) #[false, false, false, false, false, false, false, false, false, false, false, false, false, false, false, false, false, false] (by kernel_rfl) rfl rfl ⟨((HB.out.cell (World.block_lt_of_cell? w _ hw105_0)).trans hw105_0), ((HB.out.cell (World.block_lt_of_cell? w _ hw106_0)).trans hw106_0), ((HB.out.cell (World.block_lt_of_cell? w _ hw107_0)).trans hw107_0)⟩ (fun hHeld => ?_); refine with_tabW remoralaw02_CrcLines.tab8 remoralaw02_CrcLines.bits8 (fun HT_ HW_ => ?_)
                        generalize wr.drew = w20 at HO_8 HB GG19 HQ21 hf19_0 hx105_0 hx106_0 hx107_0 hx19_0 hHeld ⊢
                        refine pure_ (i := 0) (N := some 27) (v := ?_) (a' := ?_) #[true, false, false, false, false, false, false, false, false, false, false, false, false, false, false, false, false, false] rfl rfl (any_of HT_.out (by kernel_rfl)) (fun _ _ _ h => h) (Or.inl ⟨by rfl, ?_⟩) ?_ ?_
                        rotate_left
                        · intro w'
                          go_simp
                          with_reducible rfl
                        rotate_left
                        · simp only [Act.put, List.setIfInBounds_toArray, List.set_cons_zero, List.set_cons_succ, i64_w, i32_w]
                          rfl
                        refine pure_ (i := 1) (N := some 28) (v := ?_) (a' := ?_) #[true, true, false, false, false, false, false, false, false, false, false, false, false, false, false, false, false, false] rfl rfl (any_of HT_.out (by kernel_rfl)) (fun _ _ _ h => h) (Or.inl ⟨by rfl, ?_⟩) ?_ ?_
                        rotate_left
                        · intro w'
                          go_simp
                          with_reducible rfl
                        rotate_left
                        · simp only [Act.put, List.setIfInBounds_toArray, List.set_cons_zero, List.set_cons_succ, i64_w, i32_w]
                          rfl
                        refine pure_ (i := 2) (N := some 29) (v := ?_) (a' := ?_) #[true, true, true, false, false, false, false, false, false, false, false, false, false, false, false, false, false, false] rfl rfl (any_of HT_.out (by kernel_rfl)) (fun _ _ _ h => h) (Or.inl ⟨by rfl, ?_⟩) ?_ ?_
                        rotate_left
                        · intro w'
                          go_simp
                          with_reducible rfl
                        rotate_left
                        · simp only [Act.put, List.setIfInBounds_toArray, List.set_cons_zero, List.set_cons_succ, i64_w, i32_w]
                          rfl
                        refine pure_ (i := 3) (N := some 30) (v := ?_) (a' := ?_) #[true, true, true, true, false, false, false, false, false, false, false, false, false, false, false, false, false, false] rfl rfl (any_of HT_.out (by kernel_rfl)) (fun _ _ _ h => h) (Or.inl ⟨by rfl, ?_⟩) ?_ ?_
                        rotate_left
                        · intro w'
                          go_simp
                          with_reducible rfl
                        rotate_left
                        · simp only [Act.put, List.setIfInBounds_toArray, List.set_cons_zero, List.set_cons_succ, i64_w, i32_w]
                          rfl
                        refine pure_ (i := 4) (N := some 31) (v := ?_) (a' := ?_) #[true, true, true, true, true, false, false, false, false, false, false, false, false, false, false, false, false, false] rfl rfl (any_of HT_.out (by kernel_rfl)) (fun _ _ _ h => h) (Or.inl ⟨by rfl, ?_⟩) ?_ ?_
                        rotate_left
                        · intro w'
                          go_simp
                          with_reducible rfl
                        rotate_left
                        · simp only [Act.put, List.setIfInBounds_toArray, List.set_cons_zero, List.set_cons_succ, i64_w, i32_w]
                          rfl
                        refine pure_ (i := 6) (N := some 33) (v := ?_) (a' := ?_) #[true, true, true, true, true, false, true, false, false, false, false, false, false, false, false, false, false, false] rfl rfl (any_of HT_.out (by kernel_rfl)) (fun _ _ _ h => h) (Or.inl ⟨by rfl, ?_⟩) ?_ ?_
                        rotate_left
                        · intro w'
                          go_simp
                          with_reducible rfl
                        rotate_left
                        · simp only [Act.put, List.setIfInBounds_toArray, List.set_cons_zero, List.set_cons_succ, i64_w, i32_w]
                          rfl
                        refine pure_ (i := 7) (N := some 34) (v := ?_) (a' := ?_) #[true, true, true, true, true, false, true, true, false, false, false, false, false, false, false, false, false, false] rfl rfl (any_of HT_.out (by kernel_rfl)) (fun _ _ _ h => h) (Or.inl ⟨by rfl, ?_⟩) ?_ ?_
                        rotate_left
                        · intro w'
                          go_simp
                          with_reducible rfl
                        rotate_left
                        · simp only [Act.put, List.setIfInBounds_toArray, List.set_cons_zero, List.set_cons_succ, i64_w, i32_w]
                          rfl
                        refine pure_ (i := 8) (N := some 35) (v := ?_) (a' := ?_) #[true, true, true, true, true, false, true, true, true, false, false, false, false, false, false, false, false, false] rfl rfl (any_of HT_.out (by kernel_rfl)) (fun _ _ _ h => h) (Or.inl ⟨by rfl, ?_⟩) ?_ ?_
                        rotate_left
                        · intro w'
                          go_simp
                          with_reducible rfl
                        rotate_left
                        · simp only [Act.put, List.setIfInBounds_toArray, List.set_cons_zero, List.set_cons_succ, i64_w, i32_w]
                          rfl
                        refine pure_ (i := 11) (N := some 38) (v := ?_) (a' := ?_) #[true, true, true, true, true, false, true, true, true, false, false, true, false, false, false, false, false, false] rfl rfl (any_of HT_.out (by kernel_rfl)) (fun _ _ _ h => h) (Or.inl ⟨by rfl, ?_⟩) ?_ ?_
                        rotate_left
                        · intro w'
                          go_simp
                          with_reducible rfl
                        rotate_left
                        · simp only [Act.put, List.setIfInBounds_toArray, List.set_cons_zero, List.set_cons_succ, i64_w, i32_w]
                          rfl
                        refine pure_ (i := 12) (N := some 39) (v := ?_) (a' := ?_) #[true, true, true, true, true, false, true, true, true, false, false, true, true, false, false, false, false, false] rfl rfl (any_of HT_.out (by kernel_rfl)) (fun _ _ _ h => h) (Or.inl ⟨by rfl, ?_⟩) ?_ ?_
                        rotate_left
                        · intro w'
                          go_simp
                          with_reducible rfl
                        rotate_left
                        · simp only [Act.put, List.setIfInBounds_toArray, List.set_cons_zero, List.set_cons_succ, i64_w, i32_w]
                          rfl
                        refine pure_ (i := 13) (N := some 40) (v := ?_) (a' := ?_) #[true, true, true, true, true, false, true, true, true, false, false, true, true, true, false, false, false, false] rfl rfl (any_of HT_.out (by kernel_rfl)) (fun _ _ _ h => h) (Or.inl ⟨by rfl, ?_⟩) ?_ ?_
                        rotate_left
                        · intro w'
                          go_simp
                          with_reducible rfl
                        rotate_left
                        · simp only [Act.put, List.setIfInBounds_toArray, List.set_cons_zero, List.set_cons_succ, i64_w, i32_w]
                          rfl
                        refine take_ (i := 5) (N := some 32) (v := ?_) (a' := ?_) #[true, true, true, true, true, true, true, true, true, false, false, true, true, true, false, false, false, false] rfl rfl (take_ofW HT_.out HW_.out (by kernel_rfl)) (fun _ _ _ h => h) (Or.inl ⟨by rfl, ?_⟩) hHeld ?_ ?_
                        rotate_left
                        · rintro w' ⟨s0, s1, s2⟩
                          go_simp
                          with_reducible rfl
                        rotate_left
                        · simp only [Act.put, List.setIfInBounds_toArray, List.set_cons_zero, List.set_cons_succ, i64_w, i32_w]
                          rfl
                        refine take_ (i := 9) (N := some 36) (v := ?_) (a' := ?_) #[true, true, true, true, true, true, true, true, true, true, false, true, true, true, false, false, false, false] rfl rfl (take_ofW HT_.out HW_.out (by kernel_rfl)) (fun _ _ _ h => h) (Or.inl ⟨by rfl, ?_⟩) hHeld ?_ ?_
                        rotate_left
                        · rintro w' ⟨s0, s1, s2⟩
                          go_simp
                          with_reducible rfl
                        rotate_left
                        · simp only [Act.put, List.setIfInBounds_toArray, List.set_cons_zero, List.set_cons_succ, i64_w, i32_w]
                          rfl
                        refine pure_ (i := 10) (N := some 37) (v := ?_) (a' := ?_) #[true, true, true, true, true, true, true, true, true, true, true, true, true, true, false, false, false, false] rfl rfl (any_of HT_.out (by kernel_rfl)) (fun _ _ _ h => h) (Or.inl ⟨by rfl, ?_⟩) ?_ ?_
                        rotate_left
                        · intro w'
                          go_simp
                          with_reducible rfl
                        rotate_left
                        · simp only [Act.put, List.setIfInBounds_toArray, List.set_cons_zero, List.set_cons_succ, i64_w, i32_w]
                          rfl
                        refine take_ (i := 14) (N := some 41) (v := ?_) (a' := ?_) #[true, true, true, true, true, true, true, true, true, true, true, true, true, true, true, false, false, false] rfl rfl (take_ofW HT_.out HW_.out (by kernel_rfl)) (fun _ _ _ h => h) (Or.inl ⟨by rfl, ?_⟩) hHeld ?_ ?_
                        rotate_left
                        · rintro w' ⟨s0, s1, s2⟩
                          go_simp
                          with_reducible rfl
                        rotate_left
                        · simp only [Act.put, List.setIfInBounds_toArray, List.set_cons_zero, List.set_cons_succ, i64_w, i32_w]
                          rfl
                        refine pure_ (i := 15) (N := some 42) (v := ?_) (a' := ?_) #[true, true, true, true, true, true, true, true, true, true, true, true, true, true, true, true, false, false] rfl rfl (any_of HT_.out (by kernel_rfl)) (fun _ _ _ h => h) (Or.inl ⟨by rfl, ?_⟩) ?_ ?_
                        rotate_left
                        · intro w'
                          go_simp
                          with_reducible rfl
                        rotate_left
                        · simp only [Act.put, List.setIfInBounds_toArray, List.set_cons_zero, List.set_cons_succ, i64_w, i32_w]
                          rfl
                        refine pure_ (i := 16) (N := some 43) (v := ?_) (a' := ?_) #[true, true, true, true, true, true, true, true, true, true, true, true, true, true, true, true, true, false] rfl rfl (any_of HT_.out (by kernel_rfl)) (fun _ _ _ h => h) (Or.inl ⟨by rfl, ?_⟩) ?_ ?_
                        rotate_left
                        · intro w'
                          go_simp
                          with_reducible rfl
                        rotate_left
                        · simp only [Act.put, List.setIfInBounds_toArray, List.set_cons_zero, List.set_cons_succ, i64_w, i32_w]
                          rfl
                        refine last_ (i := 17) (N := none) #[true, true, true, true, true, true, true, true, true, true, true, true, true, true, true, true, true, true] rfl rfl (one_of HT_.out (by kernel_rfl)) (by decide) (fun K hK => ?_)
                        refine skip_ (w1 := ?_) (by rfl) rfl ?_ ?_
                        rotate_left
                        · go_simp
                          rfl
                        refine hK.out _ _ ?_
                        clear hK K
                        refine done_ (done_of HT_.out (by kernel_rfl)) ?_
                        try go_wp2
                        go_roundg k1
                        case measure => have := HK1.out; omega
                        case rel => exact ⟨(y108), (wrap64 (x9_1 + 1)), (by first | rfl | (simp; done) | (simp [*]; done)), H', ⟨by have := HK1.out; omega⟩, ⟨by (with_reducible repeat (first | apply Kd.R_alloc | apply Kd.R_drewN | apply Kd.R_drew)); exact HQ21.out⟩, ⟨by repeat (first | (with_reducible first | exact HB.out | apply below_alloc | apply pw_below_drewN | apply below_drew1 | refine below_set ?_ GB19.out) | exact HB.out)⟩⟩
                      · rw [if_neg c18] at H
                        exact absurd H (by simp)
                    · rw [if_neg c17] at H
                      exact absurd H (by simp)
                  · rw [if_neg c16] at H
                    exact absurd H (by simp)
                · rw [if_neg c15] at H
                  exact absurd H (by simp)
              · rw [if_neg c14] at H
                exact absurd H (by simp)
            · rw [if_neg c13] at H
              have c13b0 : decide (x9_1 < ji5) = false := decide_eq_false c13
              clear c13
              replace H := Option.bind_eq_some_iff.mp H
              obtain ⟨t109, A220, H⟩ := H
              replace H : (if 0 ≤ ji5 then (if ji5 ≤ (l0.length : Int) then ((crc_Of1.f (l0.take (ji5 : Int).toNat)).bind fun t111 => (if ji5 ≤ (l1.length : Int) then ((crc_Of1.f (l1.take (ji5 : Int).toNat)).bind fun t113 => (if ji5 ≤ (l2.length : Int) then ((crc_Of1.f (l2.take (ji5 : Int).toNat)).bind fun t115 => (if t109 = (Go.bits .xor .u32 (Go.bits .xor .u32 t111 t113) t115) then ((remoralaw02_awake.f).bind fun t116 => (some t116)) else (some false))) else (none))) else (none))) else (none)) else (none)) = some r := H
              have A22 := Aside0.mk A220
              clear A220
              by_cases c23 : 0 ≤ ji5
              · rw [if_pos c23] at H
                have c23b0 := eq_true c23
                have c23b1 : decide (0 ≤ ji5) = true := decide_eq_true c23
                clear c23
                by_cases c24 : ji5 ≤ (l0.length : Int)
                · rw [if_pos c24] at H
                  have c24b0 := eq_true c24
                  have c24b1 : decide (ji5 ≤ (l0.length : Int)) = true := decide_eq_true c24
                  clear c24
                  replace H := Option.bind_eq_some_iff.mp H
                  obtain ⟨t111, A250, H⟩ := H
                  replace H : (if ji5 ≤ (l1.length : Int) then ((crc_Of1.f (l1.take (ji5 : Int).toNat)).bind fun t113 => (if ji5 ≤ (l2.length : Int) then ((crc_Of1.f (l2.take (ji5 : Int).toNat)).bind fun t115 => (if t109 = (Go.bits .xor .u32 (Go.bits .xor .u32 t111 t113) t115) then ((remoralaw02_awake.f).bind fun t116 => (some t116)) else (some false))) else (none))) else (none)) = some r := H
                  have A25 := Aside0.mk A250
                  clear A250
                  have c26b0 := eq_true (of_decide_eq_true (by first | (with_reducible assumption) | assumption) : 0 ≤ ji5)
                  by_cases c27 : ji5 ≤ (l1.length : Int)
                  · rw [if_pos c27] at H
                    have c27b0 := eq_true c27
                    have c27b1 : decide (ji5 ≤ (l1.length : Int)) = true := decide_eq_true c27
                    clear c27
                    replace H := Option.bind_eq_some_iff.mp H
                    obtain ⟨t113, A280, H⟩ := H
                    replace H : (if ji5 ≤ (l2.length : Int) then ((crc_Of1.f (l2.take (ji5 : Int).toNat)).bind fun t115 => (if t109 = (Go.bits .xor .u32 (Go.bits .xor .u32 t111 t113) t115) then ((remoralaw02_awake.f).bind fun t116 => (some t116)) else (some false))) else (none)) = some r := H
                    have A28 := Aside0.mk A280
                    clear A280
                    have c29b0 := eq_true (of_decide_eq_true (by first | (with_reducible assumption) | assumption) : 0 ≤ ji5)
                    by_cases c30 : ji5 ≤ (l2.length : Int)
                    · rw [if_pos c30] at H
                      have c30b0 := eq_true c30
                      have c30b1 : decide (ji5 ≤ (l2.length : Int)) = true := decide_eq_true c30
                      clear c30
                      replace H := Option.bind_eq_some_iff.mp H
                      obtain ⟨t115, A310, H⟩ := H
                      replace H : (if t109 = (Go.bits .xor .u32 (Go.bits .xor .u32 t111 t113) t115) then ((remoralaw02_awake.f).bind fun t116 => (some t116)) else (some false)) = some r := H
                      have A31 := Aside0.mk A310
                      clear A310
                      by_cases c32 : t109 = (Go.bits .xor .u32 (Go.bits .xor .u32 t111 t113) t115)
                      · rw [if_pos c32] at H
                        have c32b0 : (t109 == (Go.bits .xor .u32 (Go.bits .xor .u32 t111 t113) t115)) = true := beq_iff_eq.mpr c32
                        have c32b1 : (t109 != (Go.bits .xor .u32 (Go.bits .xor .u32 t111 t113) t115)) = false := bne_eq_false_iff_eq.mpr c32
                        clear c32
                        replace H := Option.bind_eq_some_iff.mp H
                        obtain ⟨t116, A330, H⟩ := H
                        replace H : (some t116) = some r := H
                        have A33 := Aside0.mk A330
                        clear A330
                        obtain rfl := Option.some.inj H
                        try go_wp2
                        have n0_ := Aside0.mk (Kd.R_drew HO_8.out)
                        have n1_ := Aside0.mk (below_drew1 HB.out)
                        clear HO_8
                        clear HB
                        have HO_8 := n0_
                        have HB := n1_
                        clear n0_ n1_
                        obtain ⟨i035, hi035, _, hsz35, _⟩ := info_parts info5
                        obtain ⟨hcut35, hA35, hC35⟩ := print_take_of (P := Tryd.prog) (Value.int .u8) 0 24 5 .i64 Tryd.underlying24 hi035 hsz35 A0 c0 l0 ji5 (of_decide_eq_true (by first | (with_reducible assumption) | assumption)) (of_decide_eq_true (by first | (with_reducible assumption) | assumption)) HC0.out
                        have HR110 := Aside0.mk (Kd.C_of_reads (h1 := fun _ => rfl) (hA35 _ (Kd.reads_of_C HR0.out)))
                        have HC110 := Aside0.mk hC35
                        clear hA35 hC35 hi035 hsz35
                        obtain ⟨i036, hi036, _, hsz36, _⟩ := info_parts info5
                        obtain ⟨hcut36, hA36, hC36⟩ := print_take_of (P := Tryd.prog) (Value.int .u8) 0 24 5 .i64 Tryd.underlying24 hi036 hsz36 A1 c1 l1 ji5 (of_decide_eq_true (by first | (with_reducible assumption) | assumption)) (of_decide_eq_true (by first | (with_reducible assumption) | assumption)) HC1.out
                        have HR112 := Aside0.mk (Kd.C_of_reads (h1 := fun _ => rfl) (hA36 _ (Kd.reads_of_C HR1.out)))
                        have HC112 := Aside0.mk hC36
                        clear hA36 hC36 hi036 hsz36
                        obtain ⟨i037, hi037, _, hsz37, _⟩ := info_parts info5
                        obtain ⟨hcut37, hA37, hC37⟩ := print_take_of (P := Tryd.prog) (Value.int .u8) 0 24 5 .i64 Tryd.underlying24 hi037 hsz37 A2 c2 l2 ji5 (of_decide_eq_true (by first | (with_reducible assumption) | assumption)) (of_decide_eq_true (by first | (with_reducible assumption) | assumption)) HC2.out
                        have HR114 := Aside0.mk (Kd.C_of_reads (h1 := fun _ => rfl) (hA37 _ (Kd.reads_of_C HR2.out)))
                        have HC114 := Aside0.mk hC37
                        clear hA37 hC37 hi037 hsz37
                        obtain ⟨Ao38, co38, eo38⟩ := Kd.R_slice HO_8.out
                        (first | subst eo38 | (injection eo38 with f1_ f2_ f3_; have f4_ := f1_.symm; have f5_ := f3_.symm; clear f1_ f2_ f3_; subst f4_; subst f5_))
                        obtain ⟨N_, hN_⟩ : ∃ N_ : Nat, (ji5 : Int).toNat = N_ := ⟨_, rfl⟩
                        have e0_ : (l0.take (ji5 : Int).toNat).length = N_ := by rw [List.length_take, hN_]; have h_ : (ji5 : Int) ≤ (l0.length : Int) := of_decide_eq_true (by first | (with_reducible assumption) | assumption); omega
                        rw [e0_] at hcut35 HR110 HC110
                        have HN0 := Aside0.mk e0_
                        clear e0_
                        have CN0 := Aside0.mk (show Kd.C (Kd.int .u8) (wr.drew) A0 N_ (l0.take (ji5 : Int).toNat) from Kd.C_below HR110.out HB.out)
                        have e1_ : (l1.take (ji5 : Int).toNat).length = N_ := by rw [List.length_take, hN_]; have h_ : (ji5 : Int) ≤ (l1.length : Int) := of_decide_eq_true (by first | (with_reducible assumption) | assumption); omega
                        rw [e1_] at hcut36 HR112 HC112
                        have HN1 := Aside0.mk e1_
                        clear e1_
                        have CN1 := Aside0.mk (show Kd.C (Kd.int .u8) (wr.drew) A1 N_ (l1.take (ji5 : Int).toNat) from Kd.C_below HR112.out HB.out)
                        have e2_ : (l2.take (ji5 : Int).toNat).length = N_ := by rw [List.length_take, hN_]; have h_ : (ji5 : Int) ≤ (l2.length : Int) := of_decide_eq_true (by first | (with_reducible assumption) | assumption); omega
                        rw [e2_] at hcut37 HR114 HC114
                        have HN2 := Aside0.mk e2_
                        clear e2_
                        have CN2 := Aside0.mk (show Kd.C (Kd.int .u8) (wr.drew) A2 N_ (l2.take (ji5 : Int).toNat) from Kd.C_below HR114.out HB.out)
                        clear hN_
                        have CNX := Aside0.mk (Kd.R_reads' HO_8.out).2.2
                        have CX := Aside0.mk (Kd.R_reads' HO_8.out).2.1
                        have HNX : Aside0 (x8_1.length = x8_1.length) := ⟨rfl⟩
                        have WG := Aside0.mk (GT.below HG.out HB.out)
                        have KX := Aside0.mk (Option.some.inj A22.out)
                        have K0 := Aside0.mk (Option.some.inj A25.out)
                        have K1 := Aside0.mk (Option.some.inj A28.out)
                        have K2 := Aside0.mk (Option.some.inj A31.out)
                        refine start_ (n := 25) (S := fun w' => True) (ds := []) #[false, false, false, false, false, false, false, false, false, false, false, false, false, false, false, false, false, false, false, false, false, false, false, false, false] (by kernel_rfl) rfl rfl trivial (fun hHeld => ?_)
                        have HBW := True.intro
                        refine with_tabW remoralaw02_CrcLines.tab9 remoralaw02_CrcLines.bits9 (fun HT_ HW_ => ?_)
                        generalize wr.drew = w34 at HO_8 HB CN0 CN1 CN2 CNX WG hHeld ⊢
                        refine pure_ (i := 0) (N := some 44) (v := ?_) (a' := ?_) #[true, false, false, false, false, false, false, false, false, false, false, false, false, false, false, false, false, false, false, false, false, false, false, false, false] rfl rfl (any_of HT_.out (by kernel_rfl)) (fun _ _ _ h => h) (Or.inl ⟨by rfl, ?_⟩) ?_ ?_
                        rotate_left
                        · intro w'
                          go_simp
                          with_reducible rfl
                        rotate_left
                        · simp only [Act.put, List.setIfInBounds_toArray, List.set_cons_zero, List.set_cons_succ, i64_w, i32_w]
                          rfl
                        refine pure_ (i := 3) (N := some 47) (v := ?_) (a' := ?_) #[true, false, false, true, false, false, false, false, false, false, false, false, false, false, false, false, false, false, false, false, false, false, false, false, false] rfl rfl (any_of HT_.out (by kernel_rfl)) (fun _ _ _ h => h) (Or.inl ⟨by rfl, ?_⟩) ?_ ?_
                        rotate_left
                        · intro w'
                          go_simp
                          with_reducible rfl
                        rotate_left
                        · simp only [Act.put, List.setIfInBounds_toArray, List.set_cons_zero, List.set_cons_succ, i64_w, i32_w]
                          rfl
                        refine pure_ (i := 4) (N := some 48) (v := ?_) (a' := ?_) #[true, false, false, true, true, false, false, false, false, false, false, false, false, false, false, false, false, false, false, false, false, false, false, false, false] rfl rfl (any_of HT_.out (by kernel_rfl)) (fun _ _ _ h => h) (Or.inl ⟨by rfl, ?_⟩) ?_ ?_
                        rotate_left
                        · intro w'
                          go_simp
                          with_reducible rfl
                        rotate_left
                        · simp only [Act.put, List.setIfInBounds_toArray, List.set_cons_zero, List.set_cons_succ, i64_w, i32_w]
                          rfl
                        refine pure_ (i := 5) (N := some 49) (v := ?_) (a' := ?_) #[true, false, false, true, true, true, false, false, false, false, false, false, false, false, false, false, false, false, false, false, false, false, false, false, false] rfl rfl (any_of HT_.out (by kernel_rfl)) (fun _ _ _ h => h) (Or.inl ⟨by rfl, ?_⟩) ?_ ?_
                        rotate_left
                        · intro w'
                          go_simp
                          with_reducible rfl
                        rotate_left
                        · simp only [Act.put, List.setIfInBounds_toArray, List.set_cons_zero, List.set_cons_succ, i64_w, i32_w]
                          rfl
                        refine pure_ (i := 8) (N := some 52) (v := ?_) (a' := ?_) #[true, false, false, true, true, true, false, false, true, false, false, false, false, false, false, false, false, false, false, false, false, false, false, false, false] rfl rfl (any_of HT_.out (by kernel_rfl)) (fun _ _ _ h => h) (Or.inl ⟨by rfl, ?_⟩) ?_ ?_
                        rotate_left
                        · intro w'
                          go_simp
                          with_reducible rfl
                        rotate_left
                        · simp only [Act.put, List.setIfInBounds_toArray, List.set_cons_zero, List.set_cons_succ, i64_w, i32_w]
                          rfl
                        refine pure_ (i := 9) (N := some 53) (v := ?_) (a' := ?_) #[true, false, false, true, true, true, false, false, true, true, false, false, false, false, false, false, false, false, false, false, false, false, false, false, false] rfl rfl (any_of HT_.out (by kernel_rfl)) (fun _ _ _ h => h) (Or.inl ⟨by rfl, ?_⟩) ?_ ?_
                        rotate_left
                        · intro w'
                          go_simp
                          with_reducible rfl
                        rotate_left
                        · simp only [Act.put, List.setIfInBounds_toArray, List.set_cons_zero, List.set_cons_succ, i64_w, i32_w]
                          rfl
                        refine pure_ (i := 10) (N := some 54) (v := ?_) (a' := ?_) #[true, false, false, true, true, true, false, false, true, true, true, false, false, false, false, false, false, false, false, false, false, false, false, false, false] rfl rfl (any_of HT_.out (by kernel_rfl)) (fun _ _ _ h => h) (Or.inl ⟨by rfl, ?_⟩) ?_ ?_
                        rotate_left
                        · intro w'
                          go_simp
                          with_reducible rfl
                        rotate_left
                        · simp only [Act.put, List.setIfInBounds_toArray, List.set_cons_zero, List.set_cons_succ, i64_w, i32_w]
                          rfl
                        refine pure_ (i := 14) (N := some 58) (v := ?_) (a' := ?_) #[true, false, false, true, true, true, false, false, true, true, true, false, false, false, true, false, false, false, false, false, false, false, false, false, false] rfl rfl (any_of HT_.out (by kernel_rfl)) (fun _ _ _ h => h) (Or.inl ⟨by rfl, ?_⟩) ?_ ?_
                        rotate_left
                        · intro w'
                          go_simp
                          with_reducible rfl
                        rotate_left
                        · simp only [Act.put, List.setIfInBounds_toArray, List.set_cons_zero, List.set_cons_succ, i64_w, i32_w]
                          rfl
                        refine pure_ (i := 15) (N := some 59) (v := ?_) (a' := ?_) #[true, false, false, true, true, true, false, false, true, true, true, false, false, false, true, true, false, false, false, false, false, false, false, false, false] rfl rfl (any_of HT_.out (by kernel_rfl)) (fun _ _ _ h => h) (Or.inl ⟨by rfl, ?_⟩) ?_ ?_
                        rotate_left
                        · intro w'
                          go_simp
                          with_reducible rfl
                        rotate_left
                        · simp only [Act.put, List.setIfInBounds_toArray, List.set_cons_zero, List.set_cons_succ, i64_w, i32_w]
                          rfl
                        refine pure_ (i := 16) (N := some 60) (v := ?_) (a' := ?_) #[true, false, false, true, true, true, false, false, true, true, true, false, false, false, true, true, true, false, false, false, false, false, false, false, false] rfl rfl (any_of HT_.out (by kernel_rfl)) (fun _ _ _ h => h) (Or.inl ⟨by rfl, ?_⟩) ?_ ?_
                        rotate_left
                        · intro w'
                          go_simp
                          with_reducible rfl
                        rotate_left
                        · simp only [Act.put, List.setIfInBounds_toArray, List.set_cons_zero, List.set_cons_succ, i64_w, i32_w]
                          rfl
                        refine inv_at [1, 2, 6, 7, 11, 12, 13, 17, 18, 19, 20, 21, 22, 23, 24] (fun a0_ b a w' => ∃ (gb1 : Nat) (gb6 : Nat) (gb11 : Nat) (gb17 : Nat) (m1_ : Value) (m6_ : Value) (m11_ : Value) (m17_ : Value), a = putSel a0_ b [(1, 45, m1_), (2, 46, .int .u32 t109), (6, 50, m6_), (7, 51, .int .u32 t111), (11, 55, m11_), (12, 56, .int .u32 t113), (13, 57, .int .u32 (Go.bits .xor .u32 t111 t113)), (17, 61, m17_), (18, 62, .int .u32 t115), (19, 63, .int .u32 (Go.bits .xor .u32 (Go.bits .xor .u32 t111 t113) t115)), (20, 64, .bool true), (21, 65, .bool true), (22, 66, .bool t116), (23, 67, .bool t116), (24, 6, .bool t116)] ∧ (Below w34.heap.size w34 w') ∧ (b 1 = true → w'.cell? ⟨gb1, 0, none⟩ = some (.slice Ao38 x8_1.length co38)) ∧ (b 6 = true → w'.cell? ⟨gb6, 0, none⟩ = some (.slice A0 N_ c0)) ∧ (b 11 = true → w'.cell? ⟨gb11, 0, none⟩ = some (.slice A1 N_ c1)) ∧ (b 17 = true → w'.cell? ⟨gb17, 0, none⟩ = some (.slice A2 N_ c2)) ∧ (b 1 = true → (m1_ : Value) = .slice (some ⟨gb1, 0, none⟩) 1 1) ∧ (b 6 = true → (m6_ : Value) = .slice (some ⟨gb6, 0, none⟩) 1 1) ∧ (b 11 = true → (m11_ : Value) = .slice (some ⟨gb11, 0, none⟩) 1 1) ∧ (b 17 = true → (m17_ : Value) = .slice (some ⟨gb17, 0, none⟩) 1 1)) HT_.out HW_.out (by kernel_rfl) (by kernel_rfl) ?_ ?_ ?_
                        · exact ⟨0, 0, 0, 0, .bool false, .bool false, .bool false, .bool false, by simp only [putSel, Bool.false_eq_true, if_false], Below.refl _ _, fun h_ => absurd h_ (by decide), fun h_ => absurd h_ (by decide), fun h_ => absurd h_ (by decide), fun h_ => absurd h_ (by decide), fun h_ => absurd h_ (by decide), fun h_ => absurd h_ (by decide), fun h_ => absurd h_ (by decide), fun h_ => absurd h_ (by decide)⟩
                        · skip
                          clear HBW
                          refine steps_cons ?_ ?_
                          · rintro b a w' ⟨gb1, gb6, gb11, gb17, m1_, m6_, m11_, m17_, ha, Q_HBW, Q_HL1, Q_HL6, Q_HL11, Q_HL17, Q_X1_, Q_X6_, Q_X11_, Q_X17_⟩ hb_ hon hoff
                            refine ⟨_, rfl, fun K hK => ?_⟩
                            have e44 : a.tmps[44]? = some (.slice Ao38 x8_1.length co38) := by rw [ha]; exact (putSel_off rfl).trans rfl
                            replace ha := Aside0.mk ha
                            have HBW := Aside0.mk Q_HBW
                            refine value_ (w1 := w'.alloc (.cells #[.slice Ao38 x8_1.length co38] 24 (0, 0))) (v := .slice (some ⟨w'.heap.size, 0, none⟩) 1 1) (by rfl) rfl ?_ ?_
                            · go_simp
                              try rfl
                            refine hK.out _ _ ⟨w'.heap.size, gb6, gb11, gb17, (.slice (some ⟨w'.heap.size, 0, none⟩) 1 1), m6_, m11_, m17_, (by rw [ha.out]; exact putSel_upk 0 hb_ rfl rfl rfl), below_alloc HBW.out _, fun _ => by simp, fun h0_ => pw_cell_below (below_alloc (Below.refl _ _) _) (Q_HL6 h0_), fun h0_ => pw_cell_below (below_alloc (Below.refl _ _) _) (Q_HL11 h0_), fun h0_ => pw_cell_below (below_alloc (Below.refl _ _) _) (Q_HL17 h0_), fun _ => rfl, Q_X6_, Q_X11_, Q_X17_⟩
                          refine steps_cons ?_ ?_
                          · rintro b a w' ⟨gb1, gb6, gb11, gb17, m1_, m6_, m11_, m17_, ha, Q_HBW, Q_HL1, Q_HL6, Q_HL11, Q_HL17, Q_X1_, Q_X6_, Q_X11_, Q_X17_⟩ hb_ hon hoff
                            refine ⟨_, rfl, fun K hK => ?_⟩
                            have e45 : a.tmps[45]? = some (m1_) := by rw [ha]; exact putSel_on (e := (1, 45, m1_)) 0 rfl rfl (hon 1 (by kernel_rfl)) rfl
                            rw [Q_X1_ (hon 1 (by kernel_rfl))] at e45
                            replace ha := Aside0.mk ha
                            have HBW := Aside0.mk Q_HBW
                            have HL1 := Aside0.mk (Q_HL1 (hon 1 (by kernel_rfl)))
                            refine goes_ Tryd.func11 (by kernel_rfl) rfl #[.slice (some ⟨gb1, 0, none⟩) 1 1] (by rfl) rfl rfl (by first | (simp only [List.map_toArray, List.map_cons, List.map_nil, Act.eval, Array.getD_eq_getD_getElem?, Option.getD_some, e45]; done) | (simp only [List.map_toArray, List.map_cons, List.map_nil, Act.eval, Array.getD_eq_getD_getElem?, Option.getD_some, e45]; rfl)) ?_
                            with_reducible refine (crc_Of.oneV ⟨gb1, 0, none⟩ x8_1.length co38 Ao38 x8_1 t109 w' (GT.below WG.out HBW.out) HL1.out (Kd.C_below CNX.out HBW.out) CX.out HNX.out KX.out).mono ?_
                            rintro e w3_ ⟨rfl, hw_⟩
                            subst hw_
                            refine ⟨_, rfl, ?_⟩
                            refine hK.out _ _ ⟨gb1, gb6, gb11, gb17, m1_, m6_, m11_, m17_, (by rw [ha.out]; exact putSel_upk 1 hb_ rfl rfl rfl), HBW.out, fun _ => HL1.out, fun h0_ => (Q_HL6 h0_), fun h0_ => (Q_HL11 h0_), fun h0_ => (Q_HL17 h0_), Q_X1_, Q_X6_, Q_X11_, Q_X17_⟩
                          refine steps_cons ?_ ?_
                          · rintro b a w' ⟨gb1, gb6, gb11, gb17, m1_, m6_, m11_, m17_, ha, Q_HBW, Q_HL1, Q_HL6, Q_HL11, Q_HL17, Q_X1_, Q_X6_, Q_X11_, Q_X17_⟩ hb_ hon hoff
                            refine ⟨_, rfl, fun K hK => ?_⟩
                            have e49 : a.tmps[49]? = some (.slice A0 N_ c0) := by rw [ha]; exact (putSel_off rfl).trans rfl
                            replace ha := Aside0.mk ha
                            have HBW := Aside0.mk Q_HBW
                            refine value_ (w1 := w'.alloc (.cells #[.slice A0 N_ c0] 24 (0, 0))) (v := .slice (some ⟨w'.heap.size, 0, none⟩) 1 1) (by rfl) rfl ?_ ?_
                            · go_simp
                              try rfl
                            refine hK.out _ _ ⟨gb1, w'.heap.size, gb11, gb17, m1_, (.slice (some ⟨w'.heap.size, 0, none⟩) 1 1), m11_, m17_, (by rw [ha.out]; exact putSel_upk 2 hb_ rfl rfl rfl), below_alloc HBW.out _, fun h0_ => pw_cell_below (below_alloc (Below.refl _ _) _) (Q_HL1 h0_), fun _ => by simp, fun h0_ => pw_cell_below (below_alloc (Below.refl _ _) _) (Q_HL11 h0_), fun h0_ => pw_cell_below (below_alloc (Below.refl _ _) _) (Q_HL17 h0_), Q_X1_, fun _ => rfl, Q_X11_, Q_X17_⟩
                          refine steps_cons ?_ ?_
                          · rintro b a w' ⟨gb1, gb6, gb11, gb17, m1_, m6_, m11_, m17_, ha, Q_HBW, Q_HL1, Q_HL6, Q_HL11, Q_HL17, Q_X1_, Q_X6_, Q_X11_, Q_X17_⟩ hb_ hon hoff
                            refine ⟨_, rfl, fun K hK => ?_⟩
                            have e50 : a.tmps[50]? = some (m6_) := by rw [ha]; exact putSel_on (e := (6, 50, m6_)) 2 rfl rfl (hon 6 (by kernel_rfl)) rfl
                            rw [Q_X6_ (hon 6 (by kernel_rfl))] at e50
                            replace ha := Aside0.mk ha
                            have HBW := Aside0.mk Q_HBW
                            have HL1 := Aside0.mk (Q_HL1 (hon 1 (by kernel_rfl)))
                            have HL6 := Aside0.mk (Q_HL6 (hon 6 (by kernel_rfl)))
                            refine goes_ Tryd.func11 (by kernel_rfl) rfl #[.slice (some ⟨gb6, 0, none⟩) 1 1] (by rfl) rfl rfl (by first | (simp only [List.map_toArray, List.map_cons, List.map_nil, Act.eval, Array.getD_eq_getD_getElem?, Option.getD_some, e50]; done) | (simp only [List.map_toArray, List.map_cons, List.map_nil, Act.eval, Array.getD_eq_getD_getElem?, Option.getD_some, e50]; rfl)) ?_
                            with_reducible refine (crc_Of.oneV ⟨gb6, 0, none⟩ N_ c0 A0 (l0.take (ji5 : Int).toNat) t111 w' (GT.below WG.out HBW.out) HL6.out (Kd.C_below CN0.out HBW.out) HC110.out HN0.out K0.out).mono ?_
                            rintro e w3_ ⟨rfl, hw_⟩
                            subst hw_
                            refine ⟨_, rfl, ?_⟩
                            refine hK.out _ _ ⟨gb1, gb6, gb11, gb17, m1_, m6_, m11_, m17_, (by rw [ha.out]; exact putSel_upk 3 hb_ rfl rfl rfl), HBW.out, fun _ => HL1.out, fun _ => HL6.out, fun h0_ => (Q_HL11 h0_), fun h0_ => (Q_HL17 h0_), Q_X1_, Q_X6_, Q_X11_, Q_X17_⟩
                          refine steps_cons ?_ ?_
                          · rintro b a w' ⟨gb1, gb6, gb11, gb17, m1_, m6_, m11_, m17_, ha, Q_HBW, Q_HL1, Q_HL6, Q_HL11, Q_HL17, Q_X1_, Q_X6_, Q_X11_, Q_X17_⟩ hb_ hon hoff
                            refine ⟨_, rfl, fun K hK => ?_⟩
                            have e54 : a.tmps[54]? = some (.slice A1 N_ c1) := by rw [ha]; exact (putSel_off rfl).trans rfl
                            replace ha := Aside0.mk ha
                            have HBW := Aside0.mk Q_HBW
                            refine value_ (w1 := w'.alloc (.cells #[.slice A1 N_ c1] 24 (0, 0))) (v := .slice (some ⟨w'.heap.size, 0, none⟩) 1 1) (by rfl) rfl ?_ ?_
                            · go_simp
                              try rfl
                            refine hK.out _ _ ⟨gb1, gb6, w'.heap.size, gb17, m1_, m6_, (.slice (some ⟨w'.heap.size, 0, none⟩) 1 1), m17_, (by rw [ha.out]; exact putSel_upk 4 hb_ rfl rfl rfl), below_alloc HBW.out _, fun h0_ => pw_cell_below (below_alloc (Below.refl _ _) _) (Q_HL1 h0_), fun h0_ => pw_cell_below (below_alloc (Below.refl _ _) _) (Q_HL6 h0_), fun _ => by simp, fun h0_ => pw_cell_below (below_alloc (Below.refl _ _) _) (Q_HL17 h0_), Q_X1_, Q_X6_, fun _ => rfl, Q_X17_⟩
                          refine steps_cons ?_ ?_
                          · rintro b a w' ⟨gb1, gb6, gb11, gb17, m1_, m6_, m11_, m17_, ha, Q_HBW, Q_HL1, Q_HL6, Q_HL11, Q_HL17, Q_X1_, Q_X6_, Q_X11_, Q_X17_⟩ hb_ hon hoff
                            refine ⟨_, rfl, fun K hK => ?_⟩
                            have e55 : a.tmps[55]? = some (m11_) := by rw [ha]; exact putSel_on (e := (11, 55, m11_)) 4 rfl rfl (hon 11 (by kernel_rfl)) rfl
                            rw [Q_X11_ (hon 11 (by kernel_rfl))] at e55
                            replace ha := Aside0.mk ha
                            have HBW := Aside0.mk Q_HBW
                            have HL1 := Aside0.mk (Q_HL1 (hon 1 (by kernel_rfl)))
                            have HL6 := Aside0.mk (Q_HL6 (hon 6 (by kernel_rfl)))
                            have HL11 := Aside0.mk (Q_HL11 (hon 11 (by kernel_rfl)))
                            refine goes_ Tryd.func11 (by kernel_rfl) rfl #[.slice (some ⟨gb11, 0, none⟩) 1 1] (by rfl) rfl rfl (by first | (simp only [List.map_toArray, List.map_cons, List.map_nil, Act.eval, Array.getD_eq_getD_getElem?, Option.getD_some, e55]; done) | (simp only [List.map_toArray, List.map_cons, List.map_nil, Act.eval, Array.getD_eq_getD_getElem?, Option.getD_some, e55]; rfl)) ?_
                            with_reducible refine (crc_Of.oneV ⟨gb11, 0, none⟩ N_ c1 A1 (l1.take (ji5 : Int).toNat) t113 w' (GT.below WG.out HBW.out) HL11.out (Kd.C_below CN1.out HBW.out) HC112.out HN1.out K1.out).mono ?_
                            rintro e w3_ ⟨rfl, hw_⟩
                            subst hw_
                            refine ⟨_, rfl, ?_⟩
                            refine hK.out _ _ ⟨gb1, gb6, gb11, gb17, m1_, m6_, m11_, m17_, (by rw [ha.out]; exact putSel_upk 5 hb_ rfl rfl rfl), HBW.out, fun _ => HL1.out, fun _ => HL6.out, fun _ => HL11.out, fun h0_ => (Q_HL17 h0_), Q_X1_, Q_X6_, Q_X11_, Q_X17_⟩
                          refine steps_cons ?_ ?_
                          · rintro b a w' ⟨gb1, gb6, gb11, gb17, m1_, m6_, m11_, m17_, ha, Q_HBW, Q_HL1, Q_HL6, Q_HL11, Q_HL17, Q_X1_, Q_X6_, Q_X11_, Q_X17_⟩ hb_ hon hoff
                            refine ⟨_, rfl, fun K hK => ?_⟩
                            have e51 : a.tmps[51]? = some (.int .u32 t111) := by rw [ha]; exact putSel_on (e := (7, 51, .int .u32 t111)) 3 rfl rfl (hon 7 (by kernel_rfl)) rfl
                            have e56 : a.tmps[56]? = some (.int .u32 t113) := by rw [ha]; exact putSel_on (e := (12, 56, .int .u32 t113)) 5 rfl rfl (hon 12 (by kernel_rfl)) rfl
                            replace ha := Aside0.mk ha
                            have HBW := Aside0.mk Q_HBW
                            have HL1 := Aside0.mk (Q_HL1 (hon 1 (by kernel_rfl)))
                            have HL6 := Aside0.mk (Q_HL6 (hon 6 (by kernel_rfl)))
                            have HL11 := Aside0.mk (Q_HL11 (hon 11 (by kernel_rfl)))
                            refine value_ (w1 := w') (v := .int .u32 (Go.bits .xor .u32 t111 t113)) (by rfl) rfl ?_ ?_
                            · go_simp
                              (try simp only [i64_w])
                              try rfl
                            refine hK.out _ _ ⟨gb1, gb6, gb11, gb17, m1_, m6_, m11_, m17_, (by rw [ha.out]; exact putSel_upk 6 hb_ rfl rfl rfl), Q_HBW, Q_HL1, Q_HL6, Q_HL11, Q_HL17, Q_X1_, Q_X6_, Q_X11_, Q_X17_⟩
                          refine steps_cons ?_ ?_
                          · rintro b a w' ⟨gb1, gb6, gb11, gb17, m1_, m6_, m11_, m17_, ha, Q_HBW, Q_HL1, Q_HL6, Q_HL11, Q_HL17, Q_X1_, Q_X6_, Q_X11_, Q_X17_⟩ hb_ hon hoff
                            refine ⟨_, rfl, fun K hK => ?_⟩
                            have e60 : a.tmps[60]? = some (.slice A2 N_ c2) := by rw [ha]; exact (putSel_off rfl).trans rfl
                            replace ha := Aside0.mk ha
                            have HBW := Aside0.mk Q_HBW
                            refine value_ (w1 := w'.alloc (.cells #[.slice A2 N_ c2] 24 (0, 0))) (v := .slice (some ⟨w'.heap.size, 0, none⟩) 1 1) (by rfl) rfl ?_ ?_
                            · go_simp
                              try rfl
                            refine hK.out _ _ ⟨gb1, gb6, gb11, w'.heap.size, m1_, m6_, m11_, (.slice (some ⟨w'.heap.size, 0, none⟩) 1 1), (by rw [ha.out]; exact putSel_upk 7 hb_ rfl rfl rfl), below_alloc HBW.out _, fun h0_ => pw_cell_below (below_alloc (Below.refl _ _) _) (Q_HL1 h0_), fun h0_ => pw_cell_below (below_alloc (Below.refl _ _) _) (Q_HL6 h0_), fun h0_ => pw_cell_below (below_alloc (Below.refl _ _) _) (Q_HL11 h0_), fun _ => by simp, Q_X1_, Q_X6_, Q_X11_, fun _ => rfl⟩
                          refine steps_cons ?_ ?_
                          · rintro b a w' ⟨gb1, gb6, gb11, gb17, m1_, m6_, m11_, m17_, ha, Q_HBW, Q_HL1, Q_HL6, Q_HL11, Q_HL17, Q_X1_, Q_X6_, Q_X11_, Q_X17_⟩ hb_ hon hoff
                            refine ⟨_, rfl, fun K hK => ?_⟩
                            have e61 : a.tmps[61]? = some (m17_) := by rw [ha]; exact putSel_on (e := (17, 61, m17_)) 7 rfl rfl (hon 17 (by kernel_rfl)) rfl
                            rw [Q_X17_ (hon 17 (by kernel_rfl))] at e61
                            replace ha := Aside0.mk ha
                            have HBW := Aside0.mk Q_HBW
                            have HL1 := Aside0.mk (Q_HL1 (hon 1 (by kernel_rfl)))
                            have HL6 := Aside0.mk (Q_HL6 (hon 6 (by kernel_rfl)))
                            have HL11 := Aside0.mk (Q_HL11 (hon 11 (by kernel_rfl)))
                            have HL17 := Aside0.mk (Q_HL17 (hon 17 (by kernel_rfl)))
                            refine goes_ Tryd.func11 (by kernel_rfl) rfl #[.slice (some ⟨gb17, 0, none⟩) 1 1] (by rfl) rfl rfl (by first | (simp only [List.map_toArray, List.map_cons, List.map_nil, Act.eval, Array.getD_eq_getD_getElem?, Option.getD_some, e61]; done) | (simp only [List.map_toArray, List.map_cons, List.map_nil, Act.eval, Array.getD_eq_getD_getElem?, Option.getD_some, e61]; rfl)) ?_
                            with_reducible refine (crc_Of.oneV ⟨gb17, 0, none⟩ N_ c2 A2 (l2.take (ji5 : Int).toNat) t115 w' (GT.below WG.out HBW.out) HL17.out (Kd.C_below CN2.out HBW.out) HC114.out HN2.out K2.out).mono ?_
                            rintro e w3_ ⟨rfl, hw_⟩
                            subst hw_
                            refine ⟨_, rfl, ?_⟩
                            refine hK.out _ _ ⟨gb1, gb6, gb11, gb17, m1_, m6_, m11_, m17_, (by rw [ha.out]; exact putSel_upk 8 hb_ rfl rfl rfl), HBW.out, fun _ => HL1.out, fun _ => HL6.out, fun _ => HL11.out, fun _ => HL17.out, Q_X1_, Q_X6_, Q_X11_, Q_X17_⟩
                          refine steps_cons ?_ ?_
                          · rintro b a w' ⟨gb1, gb6, gb11, gb17, m1_, m6_, m11_, m17_, ha, Q_HBW, Q_HL1, Q_HL6, Q_HL11, Q_HL17, Q_X1_, Q_X6_, Q_X11_, Q_X17_⟩ hb_ hon hoff
                            refine ⟨_, rfl, fun K hK => ?_⟩
                            have e57 : a.tmps[57]? = some (.int .u32 (Go.bits .xor .u32 t111 t113)) := by rw [ha]; exact putSel_on (e := (13, 57, .int .u32 (Go.bits .xor .u32 t111 t113))) 6 rfl rfl (hon 13 (by kernel_rfl)) rfl
                            have e62 : a.tmps[62]? = some (.int .u32 t115) := by rw [ha]; exact putSel_on (e := (18, 62, .int .u32 t115)) 8 rfl rfl (hon 18 (by kernel_rfl)) rfl
                            replace ha := Aside0.mk ha
                            have HBW := Aside0.mk Q_HBW
                            have HL1 := Aside0.mk (Q_HL1 (hon 1 (by kernel_rfl)))
                            have HL6 := Aside0.mk (Q_HL6 (hon 6 (by kernel_rfl)))
                            have HL11 := Aside0.mk (Q_HL11 (hon 11 (by kernel_rfl)))
                            have HL17 := Aside0.mk (Q_HL17 (hon 17 (by kernel_rfl)))
                            refine value_ (w1 := w') (v := .int .u32 (Go.bits .xor .u32 (Go.bits .xor .u32 t111 t113) t115)) (by rfl) rfl ?_ ?_
                            · go_simp
                              (try simp only [i64_w])
                              try rfl
                            refine hK.out _ _ ⟨gb1, gb6, gb11, gb17, m1_, m6_, m11_, m17_, (by rw [ha.out]; exact putSel_upk 9 hb_ rfl rfl rfl), Q_HBW, Q_HL1, Q_HL6, Q_HL11, Q_HL17, Q_X1_, Q_X6_, Q_X11_, Q_X17_⟩
                          refine steps_cons ?_ ?_
                          · rintro b a w' ⟨gb1, gb6, gb11, gb17, m1_, m6_, m11_, m17_, ha, Q_HBW, Q_HL1, Q_HL6, Q_HL11, Q_HL17, Q_X1_, Q_X6_, Q_X11_, Q_X17_⟩ hb_ hon hoff
                            refine ⟨_, rfl, fun K hK => ?_⟩
                            have e46 : a.tmps[46]? = some (.int .u32 t109) := by rw [ha]; exact putSel_on (e := (2, 46, .int .u32 t109)) 1 rfl rfl (hon 2 (by kernel_rfl)) rfl
                            have e63 : a.tmps[63]? = some (.int .u32 (Go.bits .xor .u32 (Go.bits .xor .u32 t111 t113) t115)) := by rw [ha]; exact putSel_on (e := (19, 63, .int .u32 (Go.bits .xor .u32 (Go.bits .xor .u32 t111 t113) t115))) 9 rfl rfl (hon 19 (by kernel_rfl)) rfl
                            replace ha := Aside0.mk ha
                            have HBW := Aside0.mk Q_HBW
                            have HL1 := Aside0.mk (Q_HL1 (hon 1 (by kernel_rfl)))
                            have HL6 := Aside0.mk (Q_HL6 (hon 6 (by kernel_rfl)))
                            have HL11 := Aside0.mk (Q_HL11 (hon 11 (by kernel_rfl)))
                            have HL17 := Aside0.mk (Q_HL17 (hon 17 (by kernel_rfl)))
                            refine value_ (w1 := w') (v := .bool true) (by rfl) rfl ?_ ?_
                            · go_simp
                              (try simp only [i64_w])
                              try rfl
                            refine hK.out _ _ ⟨gb1, gb6, gb11, gb17, m1_, m6_, m11_, m17_, (by rw [ha.out]; exact putSel_upk 10 hb_ rfl rfl rfl), Q_HBW, Q_HL1, Q_HL6, Q_HL11, Q_HL17, Q_X1_, Q_X6_, Q_X11_, Q_X17_⟩
                          refine steps_cons ?_ ?_
                          · rintro b a w' ⟨gb1, gb6, gb11, gb17, m1_, m6_, m11_, m17_, ha, Q_HBW, Q_HL1, Q_HL6, Q_HL11, Q_HL17, Q_X1_, Q_X6_, Q_X11_, Q_X17_⟩ hb_ hon hoff
                            refine ⟨_, rfl, fun K hK => ?_⟩
                            have e64 : a.tmps[64]? = some (.bool true) := by rw [ha]; exact putSel_on (e := (20, 64, .bool true)) 10 rfl rfl (hon 20 (by kernel_rfl)) rfl
                            replace ha := Aside0.mk ha
                            have HBW := Aside0.mk Q_HBW
                            have HL1 := Aside0.mk (Q_HL1 (hon 1 (by kernel_rfl)))
                            have HL6 := Aside0.mk (Q_HL6 (hon 6 (by kernel_rfl)))
                            have HL11 := Aside0.mk (Q_HL11 (hon 11 (by kernel_rfl)))
                            have HL17 := Aside0.mk (Q_HL17 (hon 17 (by kernel_rfl)))
                            refine value_ (w1 := w') (v := .bool true) (by rfl) rfl ?_ ?_
                            · go_simp
                              (try simp only [i64_w])
                              try rfl
                            refine hK.out _ _ ⟨gb1, gb6, gb11, gb17, m1_, m6_, m11_, m17_, (by rw [ha.out]; exact putSel_upk 11 hb_ rfl rfl rfl), Q_HBW, Q_HL1, Q_HL6, Q_HL11, Q_HL17, Q_X1_, Q_X6_, Q_X11_, Q_X17_⟩
                          refine steps_cons ?_ ?_
                          · rintro b a w' ⟨gb1, gb6, gb11, gb17, m1_, m6_, m11_, m17_, ha, Q_HBW, Q_HL1, Q_HL6, Q_HL11, Q_HL17, Q_X1_, Q_X6_, Q_X11_, Q_X17_⟩ hb_ hon hoff
                            refine ⟨_, rfl, fun K hK => ?_⟩
                            have e65 : a.tmps[65]? = some (.bool true) := by rw [ha]; exact putSel_on (e := (21, 65, .bool true)) 11 rfl rfl (hon 21 (by kernel_rfl)) rfl
                            replace ha := Aside0.mk ha
                            have HBW := Aside0.mk Q_HBW
                            have HL1 := Aside0.mk (Q_HL1 (hon 1 (by kernel_rfl)))
                            have HL6 := Aside0.mk (Q_HL6 (hon 6 (by kernel_rfl)))
                            have HL11 := Aside0.mk (Q_HL11 (hon 11 (by kernel_rfl)))
                            have HL17 := Aside0.mk (Q_HL17 (hon 17 (by kernel_rfl)))
                            refine goes_ Tryd.func10 (by kernel_rfl) rfl #[] (wanted_on rfl rfl rfl (e65.trans rfl)) rfl rfl (by first | (simp only [List.map_toArray, List.map_cons, List.map_nil, Act.eval, Array.getD_eq_getD_getElem?, Option.getD_some, e65]; done) | (simp only [List.map_toArray, List.map_cons, List.map_nil, Act.eval, Array.getD_eq_getD_getElem?, Option.getD_some, e65]; rfl)) ?_
                            with_reducible refine (remoralaw02_awake.calls t116 w' (GT.below WG.out HBW.out) A33.out).mono ?_
                            rintro e w3_ ⟨rfl, hbb_⟩
                            refine ⟨_, rfl, ?_⟩
                            refine hK.out _ _ ⟨gb1, gb6, gb11, gb17, m1_, m6_, m11_, m17_, (by rw [ha.out]; exact putSel_upk 12 hb_ rfl rfl rfl), below_step HBW.out hbb_, fun _ => pw_cell_below hbb_ HL1.out, fun _ => pw_cell_below hbb_ HL6.out, fun _ => pw_cell_below hbb_ HL11.out, fun _ => pw_cell_below hbb_ HL17.out, Q_X1_, Q_X6_, Q_X11_, Q_X17_⟩
                          refine steps_cons ?_ ?_
                          · rintro b a w' ⟨gb1, gb6, gb11, gb17, m1_, m6_, m11_, m17_, ha, Q_HBW, Q_HL1, Q_HL6, Q_HL11, Q_HL17, Q_X1_, Q_X6_, Q_X11_, Q_X17_⟩ hb_ hon hoff
                            refine ⟨_, rfl, fun K hK => ?_⟩
                            have e65 : a.tmps[65]? = some (.bool true) := by rw [ha]; exact putSel_on (e := (21, 65, .bool true)) 11 rfl rfl (hon 21 (by kernel_rfl)) rfl
                            have e66 : a.tmps[66]? = some (.bool t116) := by rw [ha]; exact putSel_on (e := (22, 66, .bool t116)) 12 rfl rfl (hon 22 (by kernel_rfl)) rfl
                            replace ha := Aside0.mk ha
                            have HBW := Aside0.mk Q_HBW
                            have HL1 := Aside0.mk (Q_HL1 (hon 1 (by kernel_rfl)))
                            have HL6 := Aside0.mk (Q_HL6 (hon 6 (by kernel_rfl)))
                            have HL11 := Aside0.mk (Q_HL11 (hon 11 (by kernel_rfl)))
                            have HL17 := Aside0.mk (Q_HL17 (hon 17 (by kernel_rfl)))
                            refine value_ (w1 := w') (v := .bool t116) (by rfl) rfl ?_ ?_
                            · go_simp
                              (try simp only [i64_w])
                              try rfl
                            refine hK.out _ _ ⟨gb1, gb6, gb11, gb17, m1_, m6_, m11_, m17_, (by rw [ha.out]; exact putSel_upk 13 hb_ rfl rfl rfl), Q_HBW, Q_HL1, Q_HL6, Q_HL11, Q_HL17, Q_X1_, Q_X6_, Q_X11_, Q_X17_⟩
                          refine steps_cons ?_ ?_
                          · rintro b a w' ⟨gb1, gb6, gb11, gb17, m1_, m6_, m11_, m17_, ha, Q_HBW, Q_HL1, Q_HL6, Q_HL11, Q_HL17, Q_X1_, Q_X6_, Q_X11_, Q_X17_⟩ hb_ hon hoff
                            refine ⟨_, rfl, fun K hK => ?_⟩
                            have e67 : a.tmps[67]? = some (.bool t116) := by rw [ha]; exact putSel_on (e := (23, 67, .bool t116)) 13 rfl rfl (hon 23 (by kernel_rfl)) rfl
                            replace ha := Aside0.mk ha
                            have HBW := Aside0.mk Q_HBW
                            have HL1 := Aside0.mk (Q_HL1 (hon 1 (by kernel_rfl)))
                            have HL6 := Aside0.mk (Q_HL6 (hon 6 (by kernel_rfl)))
                            have HL11 := Aside0.mk (Q_HL11 (hon 11 (by kernel_rfl)))
                            have HL17 := Aside0.mk (Q_HL17 (hon 17 (by kernel_rfl)))
                            refine value_ (w1 := w') (v := .bool t116) (by rfl) rfl ?_ ?_
                            · go_simp
                              (try simp only [i64_w])
                              try rfl
                            refine hK.out _ _ ⟨gb1, gb6, gb11, gb17, m1_, m6_, m11_, m17_, (by rw [ha.out]; exact putSel_upk 14 hb_ rfl rfl rfl), Q_HBW, Q_HL1, Q_HL6, Q_HL11, Q_HL17, Q_X1_, Q_X6_, Q_X11_, Q_X17_⟩
                          exact steps_nil
                        · rintro b a w' hall ⟨gb1, gb6, gb11, gb17, m1_, m6_, m11_, m17_, ha, Q_HBW, Q_HL1, Q_HL6, Q_HL11, Q_HL17, Q_X1_, Q_X6_, Q_X11_, Q_X17_⟩
                          clear HBW
                          have hb1_ := hall 1 (by kernel_rfl)
                          have hb2_ := hall 2 (by kernel_rfl)
                          have hb6_ := hall 6 (by kernel_rfl)
                          have hb7_ := hall 7 (by kernel_rfl)
                          have hb11_ := hall 11 (by kernel_rfl)
                          have hb12_ := hall 12 (by kernel_rfl)
                          have hb13_ := hall 13 (by kernel_rfl)
                          have hb17_ := hall 17 (by kernel_rfl)
                          have hb18_ := hall 18 (by kernel_rfl)
                          have hb19_ := hall 19 (by kernel_rfl)
                          have hb20_ := hall 20 (by kernel_rfl)
                          have hb21_ := hall 21 (by kernel_rfl)
                          have hb22_ := hall 22 (by kernel_rfl)
                          have hb23_ := hall 23 (by kernel_rfl)
                          have hb24_ := hall 24 (by kernel_rfl)
                          subst ha
                          obtain rfl := Q_X1_ hb1_
                          obtain rfl := Q_X6_ hb6_
                          obtain rfl := Q_X11_ hb11_
                          obtain rfl := Q_X17_ hb17_
                          simp only [putSel, hb1_, hb2_, hb6_, hb7_, hb11_, hb12_, hb13_, hb17_, hb18_, hb19_, hb20_, hb21_, hb22_, hb23_, hb24_, if_true, Act.put, List.setIfInBounds_toArray, List.set_cons_zero, List.set_cons_succ]
                          have HBW := Aside0.mk Q_HBW
                          clear Q_HBW
                          have HL1 := Aside0.mk (Q_HL1 hb1_)
                          clear Q_HL1
                          have HL6 := Aside0.mk (Q_HL6 hb6_)
                          clear Q_HL6
                          have HL11 := Aside0.mk (Q_HL11 hb11_)
                          clear Q_HL11
                          have HL17 := Aside0.mk (Q_HL17 hb17_)
                          clear Q_HL17
                          clear hall hb1_ hb2_ hb6_ hb7_ hb11_ hb12_ hb13_ hb17_ hb18_ hb19_ hb20_ hb21_ hb22_ hb23_ hb24_
                          have n0_ := Aside0.mk (below_step HB.out HBW.out)
                          clear HB
                          have HB := n0_
                          clear n0_
                          try go_wp2
                          go_ret
                          exact ⟨by first | rfl | (simp [errW_none, errW_some] <;> rfl) | (simp only [← hji4, ← hji5]; first | rfl | (simp [errW_none, errW_some] <;> rfl)) | (simp [*, errW_none, errW_some] <;> rfl), by repeat (first | (with_reducible first | exact HB.out | apply below_alloc | apply pw_below_drewN | apply below_drew1) | exact HB.out)⟩
                      · rw [if_neg c32] at H
                        have c32b0 : (t109 == (Go.bits .xor .u32 (Go.bits .xor .u32 t111 t113) t115)) = false := beq_eq_false_iff_ne.mpr c32
                        have c32b1 : (t109 != (Go.bits .xor .u32 (Go.bits .xor .u32 t111 t113) t115)) = true := bne_iff_ne.mpr c32
                        obtain rfl := Option.some.inj H
                        try go_wp2
                        have n0_ := Aside0.mk (Kd.R_drew HO_8.out)
                        have n1_ := Aside0.mk (below_drew1 HB.out)
                        clear HO_8
                        clear HB
                        have HO_8 := n0_
                        have HB := n1_
                        clear n0_ n1_
                        obtain ⟨i045, hi045, _, hsz45, _⟩ := info_parts info5
                        obtain ⟨hcut45, hA45, hC45⟩ := print_take_of (P := Tryd.prog) (Value.int .u8) 0 24 5 .i64 Tryd.underlying24 hi045 hsz45 A0 c0 l0 ji5 (of_decide_eq_true (by first | (with_reducible assumption) | assumption)) (of_decide_eq_true (by first | (with_reducible assumption) | assumption)) HC0.out
                        have HR110 := Aside0.mk (Kd.C_of_reads (h1 := fun _ => rfl) (hA45 _ (Kd.reads_of_C HR0.out)))
                        have HC110 := Aside0.mk hC45
                        clear hA45 hC45 hi045 hsz45
                        (try (have e_ := (hcut45 w).symm.trans (hcut35 w); injection e_ with e1_ e2_; injection e1_ with e3_ e4_ e5_; subst e3_))
                        obtain ⟨i046, hi046, _, hsz46, _⟩ := info_parts info5
                        obtain ⟨hcut46, hA46, hC46⟩ := print_take_of (P := Tryd.prog) (Value.int .u8) 0 24 5 .i64 Tryd.underlying24 hi046 hsz46 A1 c1 l1 ji5 (of_decide_eq_true (by first | (with_reducible assumption) | assumption)) (of_decide_eq_true (by first | (with_reducible assumption) | assumption)) HC1.out
                        have HR112 := Aside0.mk (Kd.C_of_reads (h1 := fun _ => rfl) (hA46 _ (Kd.reads_of_C HR1.out)))
                        have HC112 := Aside0.mk hC46
                        clear hA46 hC46 hi046 hsz46
                        (try (have e_ := (hcut46 w).symm.trans (hcut36 w); injection e_ with e1_ e2_; injection e1_ with e3_ e4_ e5_; subst e3_))
                        obtain ⟨i047, hi047, _, hsz47, _⟩ := info_parts info5
                        obtain ⟨hcut47, hA47, hC47⟩ := print_take_of (P := Tryd.prog) (Value.int .u8) 0 24 5 .i64 Tryd.underlying24 hi047 hsz47 A2 c2 l2 ji5 (of_decide_eq_true (by first | (with_reducible assumption) | assumption)) (of_decide_eq_true (by first | (with_reducible assumption) | assumption)) HC2.out
                        have HR114 := Aside0.mk (Kd.C_of_reads (h1 := fun _ => rfl) (hA47 _ (Kd.reads_of_C HR2.out)))
                        have HC114 := Aside0.mk hC47
                        clear hA47 hC47 hi047 hsz47
                        (try (have e_ := (hcut47 w).symm.trans (hcut37 w); injection e_ with e1_ e2_; injection e1_ with e3_ e4_ e5_; subst e3_))
                        obtain ⟨Ao48, co48, eo48⟩ := Kd.R_slice HO_8.out
                        (first | subst eo48 | (injection eo48 with f1_ f2_ f3_; have f4_ := f1_.symm; have f5_ := f3_.symm; clear f1_ f2_ f3_; subst f4_; subst f5_))
                        obtain ⟨N_, hN_⟩ : ∃ N_ : Nat, (ji5 : Int).toNat = N_ := ⟨_, rfl⟩
                        have e0_ : (l0.take (ji5 : Int).toNat).length = N_ := by rw [List.length_take, hN_]; have h_ : (ji5 : Int) ≤ (l0.length : Int) := of_decide_eq_true (by first | (with_reducible assumption) | assumption); omega
                        rw [e0_] at hcut45 HR110 HC110
                        have HN0 := Aside0.mk e0_
                        clear e0_
                        have CN0 := Aside0.mk (show Kd.C (Kd.int .u8) (wr.drew) A0 N_ (l0.take (ji5 : Int).toNat) from Kd.C_below HR110.out HB.out)
                        have e1_ : (l1.take (ji5 : Int).toNat).length = N_ := by rw [List.length_take, hN_]; have h_ : (ji5 : Int) ≤ (l1.length : Int) := of_decide_eq_true (by first | (with_reducible assumption) | assumption); omega
                        rw [e1_] at hcut46 HR112 HC112
                        have HN1 := Aside0.mk e1_
                        clear e1_
                        have CN1 := Aside0.mk (show Kd.C (Kd.int .u8) (wr.drew) A1 N_ (l1.take (ji5 : Int).toNat) from Kd.C_below HR112.out HB.out)
                        have e2_ : (l2.take (ji5 : Int).toNat).length = N_ := by rw [List.length_take, hN_]; have h_ : (ji5 : Int) ≤ (l2.length : Int) := of_decide_eq_true (by first | (with_reducible assumption) | assumption); omega
                        rw [e2_] at hcut47 HR114 HC114
                        have HN2 := Aside0.mk e2_
                        clear e2_
                        have CN2 := Aside0.mk (show Kd.C (Kd.int .u8) (wr.drew) A2 N_ (l2.take (ji5 : Int).toNat) from Kd.C_below HR114.out HB.out)
                        clear hN_
                        have CNX := Aside0.mk (Kd.R_reads' HO_8.out).2.2
                        have CX := Aside0.mk (Kd.R_reads' HO_8.out).2.1
                        have HNX : Aside0 (x8_1.length = x8_1.length) := ⟨rfl⟩
                        have WG := Aside0.mk (GT.below HG.out HB.out)
                        have KX := Aside0.mk (Option.some.inj A22.out)
                        have K0 := Aside0.mk (Option.some.inj A25.out)
                        have K1 := Aside0.mk (Option.some.inj A28.out)
                        have K2 := Aside0.mk (Option.some.inj A31.out)
                        refine start_ (n := 25) (S := fun w' => True) (ds := []) #[false, false, false, false, false, false, false, false, false, false, false, false, false, false, false, false, false, false, false, false, false, false, false, false, false] (by kernel_rfl) rfl rfl trivial (fun hHeld => ?_)
                        have HBW := True.intro
                        refine with_tabW remoralaw02_CrcLines.tab9 remoralaw02_CrcLines.bits9 (fun HT_ HW_ => ?_)
                        generalize wr.drew = w44 at HO_8 HB CN0 CN1 CN2 CNX WG hHeld ⊢
                        refine pure_ (i := 0) (N := some 44) (v := ?_) (a' := ?_) #[true, false, false, false, false, false, false, false, false, false, false, false, false, false, false, false, false, false, false, false, false, false, false, false, false] rfl rfl (any_of HT_.out (by kernel_rfl)) (fun _ _ _ h => h) (Or.inl ⟨by rfl, ?_⟩) ?_ ?_
                        rotate_left
                        · intro w'
                          go_simp
                          with_reducible rfl
                        rotate_left
                        · simp only [Act.put, List.setIfInBounds_toArray, List.set_cons_zero, List.set_cons_succ, i64_w, i32_w]
                          rfl
                        refine pure_ (i := 3) (N := some 47) (v := ?_) (a' := ?_) #[true, false, false, true, false, false, false, false, false, false, false, false, false, false, false, false, false, false, false, false, false, false, false, false, false] rfl rfl (any_of HT_.out (by kernel_rfl)) (fun _ _ _ h => h) (Or.inl ⟨by rfl, ?_⟩) ?_ ?_
                        rotate_left
                        · intro w'
                          go_simp
                          with_reducible rfl
                        rotate_left
                        · simp only [Act.put, List.setIfInBounds_toArray, List.set_cons_zero, List.set_cons_succ, i64_w, i32_w]
                          rfl
                        refine pure_ (i := 4) (N := some 48) (v := ?_) (a' := ?_) #[true, false, false, true, true, false, false, false, false, false, false, false, false, false, false, false, false, false, false, false, false, false, false, false, false] rfl rfl (any_of HT_.out (by kernel_rfl)) (fun _ _ _ h => h) (Or.inl ⟨by rfl, ?_⟩) ?_ ?_
                        rotate_left
                        · intro w'
                          go_simp
                          with_reducible rfl
                        rotate_left
                        · simp only [Act.put, List.setIfInBounds_toArray, List.set_cons_zero, List.set_cons_succ, i64_w, i32_w]
                          rfl
                        refine pure_ (i := 5) (N := some 49) (v := ?_) (a' := ?_) #[true, false, false, true, true, true, false, false, false, false, false, false, false, false, false, false, false, false, false, false, false, false, false, false, false] rfl rfl (any_of HT_.out (by kernel_rfl)) (fun _ _ _ h => h) (Or.inl ⟨by rfl, ?_⟩) ?_ ?_
                        rotate_left
                        · intro w'
                          go_simp
                          with_reducible rfl
                        rotate_left
                        · simp only [Act.put, List.setIfInBounds_toArray, List.set_cons_zero, List.set_cons_succ, i64_w, i32_w]
                          rfl
                        refine pure_ (i := 8) (N := some 52) (v := ?_) (a' := ?_) #[true, false, false, true, true, true, false, false, true, false, false, false, false, false, false, false, false, false, false, false, false, false, false, false, false] rfl rfl (any_of HT_.out (by kernel_rfl)) (fun _ _ _ h => h) (Or.inl ⟨by rfl, ?_⟩) ?_ ?_
                        rotate_left
                        · intro w'
                          go_simp
                          with_reducible rfl
                        rotate_left
                        · simp only [Act.put, List.setIfInBounds_toArray, List.set_cons_zero, List.set_cons_succ, i64_w, i32_w]
                          rfl
                        refine pure_ (i := 9) (N := some 53) (v := ?_) (a' := ?_) #[true, false, false, true, true, true, false, false, true, true, false, false, false, false, false, false, false, false, false, false, false, false, false, false, false] rfl rfl (any_of HT_.out (by kernel_rfl)) (fun _ _ _ h => h) (Or.inl ⟨by rfl, ?_⟩) ?_ ?_
                        rotate_left
                        · intro w'
                          go_simp
                          with_reducible rfl
                        rotate_left
                        · simp only [Act.put, List.setIfInBounds_toArray, List.set_cons_zero, List.set_cons_succ, i64_w, i32_w]
                          rfl
                        refine pure_ (i := 10) (N := some 54) (v := ?_) (a' := ?_) #[true, false, false, true, true, true, false, false, true, true, true, false, false, false, false, false, false, false, false, false, false, false, false, false, false] rfl rfl (any_of HT_.out (by kernel_rfl)) (fun _ _ _ h => h) (Or.inl ⟨by rfl, ?_⟩) ?_ ?_
                        rotate_left
                        · intro w'
                          go_simp
                          with_reducible rfl
                        rotate_left
                        · simp only [Act.put, List.setIfInBounds_toArray, List.set_cons_zero, List.set_cons_succ, i64_w, i32_w]
                          rfl
                        refine pure_ (i := 14) (N := some 58) (v := ?_) (a' := ?_) #[true, false, false, true, true, true, false, false, true, true, true, false, false, false, true, false, false, false, false, false, false, false, false, false, false] rfl rfl (any_of HT_.out (by kernel_rfl)) (fun _ _ _ h => h) (Or.inl ⟨by rfl, ?_⟩) ?_ ?_
                        rotate_left
                        · intro w'
                          go_simp
                          with_reducible rfl
                        rotate_left
                        · simp only [Act.put, List.setIfInBounds_toArray, List.set_cons_zero, List.set_cons_succ, i64_w, i32_w]
                          rfl
                        refine pure_ (i := 15) (N := some 59) (v := ?_) (a' := ?_) #[true, false, false, true, true, true, false, false, true, true, true, false, false, false, true, true, false, false, false, false, false, false, false, false, false] rfl rfl (any_of HT_.out (by kernel_rfl)) (fun _ _ _ h => h) (Or.inl ⟨by rfl, ?_⟩) ?_ ?_
                        rotate_left
                        · intro w'
                          go_simp
                          with_reducible rfl
                        rotate_left
                        · simp only [Act.put, List.setIfInBounds_toArray, List.set_cons_zero, List.set_cons_succ, i64_w, i32_w]
                          rfl
                        refine pure_ (i := 16) (N := some 60) (v := ?_) (a' := ?_) #[true, false, false, true, true, true, false, false, true, true, true, false, false, false, true, true, true, false, false, false, false, false, false, false, false] rfl rfl (any_of HT_.out (by kernel_rfl)) (fun _ _ _ h => h) (Or.inl ⟨by rfl, ?_⟩) ?_ ?_
                        rotate_left
                        · intro w'
                          go_simp
                          with_reducible rfl
                        rotate_left
                        · simp only [Act.put, List.setIfInBounds_toArray, List.set_cons_zero, List.set_cons_succ, i64_w, i32_w]
                          rfl
                        refine inv_at [1, 2, 6, 7, 11, 12, 13, 17, 18, 19, 20, 21, 22, 23, 24] (fun a0_ b a w' => ∃ (gb1 : Nat) (gb6 : Nat) (gb11 : Nat) (gb17 : Nat) (m1_ : Value) (m6_ : Value) (m11_ : Value) (m17_ : Value), a = putSel a0_ b [(1, 45, m1_), (2, 46, .int .u32 t109), (6, 50, m6_), (7, 51, .int .u32 t111), (11, 55, m11_), (12, 56, .int .u32 t113), (13, 57, .int .u32 (Go.bits .xor .u32 t111 t113)), (17, 61, m17_), (18, 62, .int .u32 t115), (19, 63, .int .u32 (Go.bits .xor .u32 (Go.bits .xor .u32 t111 t113) t115)), (20, 64, .bool false), (21, 65, .bool false), (22, 66, undef), (23, 67, .bool false), (24, 6, .bool false)] ∧ (Below w44.heap.size w44 w') ∧ (b 1 = true → w'.cell? ⟨gb1, 0, none⟩ = some (.slice Ao48 x8_1.length co48)) ∧ (b 6 = true → w'.cell? ⟨gb6, 0, none⟩ = some (.slice A0 N_ c0)) ∧ (b 11 = true → w'.cell? ⟨gb11, 0, none⟩ = some (.slice A1 N_ c1)) ∧ (b 17 = true → w'.cell? ⟨gb17, 0, none⟩ = some (.slice A2 N_ c2)) ∧ (b 1 = true → (m1_ : Value) = .slice (some ⟨gb1, 0, none⟩) 1 1) ∧ (b 6 = true → (m6_ : Value) = .slice (some ⟨gb6, 0, none⟩) 1 1) ∧ (b 11 = true → (m11_ : Value) = .slice (some ⟨gb11, 0, none⟩) 1 1) ∧ (b 17 = true → (m17_ : Value) = .slice (some ⟨gb17, 0, none⟩) 1 1)) HT_.out HW_.out (by kernel_rfl) (by kernel_rfl) ?_ ?_ ?_
                        · exact ⟨0, 0, 0, 0, .bool false, .bool false, .bool false, .bool false, by simp only [putSel, Bool.false_eq_true, if_false], Below.refl _ _, fun h_ => absurd h_ (by decide), fun h_ => absurd h_ (by decide), fun h_ => absurd h_ (by decide), fun h_ => absurd h_ (by decide), fun h_ => absurd h_ (by decide), fun h_ => absurd h_ (by decide), fun h_ => absurd h_ (by decide), fun h_ => absurd h_ (by decide)⟩
                        · skip
                          clear HBW
                          refine steps_cons ?_ ?_
                          · rintro b a w' ⟨gb1, gb6, gb11, gb17, m1_, m6_, m11_, m17_, ha, Q_HBW, Q_HL1, Q_HL6, Q_HL11, Q_HL17, Q_X1_, Q_X6_, Q_X11_, Q_X17_⟩ hb_ hon hoff
                            refine ⟨_, rfl, fun K hK => ?_⟩
                            have e44 : a.tmps[44]? = some (.slice Ao48 x8_1.length co48) := by rw [ha]; exact (putSel_off rfl).trans rfl
                            replace ha := Aside0.mk ha
                            have HBW := Aside0.mk Q_HBW
                            refine value_ (w1 := w'.alloc (.cells #[.slice Ao48 x8_1.length co48] 24 (0, 0))) (v := .slice (some ⟨w'.heap.size, 0, none⟩) 1 1) (by rfl) rfl ?_ ?_
                            · go_simp
                              try rfl
                            refine hK.out _ _ ⟨w'.heap.size, gb6, gb11, gb17, (.slice (some ⟨w'.heap.size, 0, none⟩) 1 1), m6_, m11_, m17_, (by rw [ha.out]; exact putSel_upk 0 hb_ rfl rfl rfl), below_alloc HBW.out _, fun _ => by simp, fun h0_ => pw_cell_below (below_alloc (Below.refl _ _) _) (Q_HL6 h0_), fun h0_ => pw_cell_below (below_alloc (Below.refl _ _) _) (Q_HL11 h0_), fun h0_ => pw_cell_below (below_alloc (Below.refl _ _) _) (Q_HL17 h0_), fun _ => rfl, Q_X6_, Q_X11_, Q_X17_⟩
                          refine steps_cons ?_ ?_
                          · rintro b a w' ⟨gb1, gb6, gb11, gb17, m1_, m6_, m11_, m17_, ha, Q_HBW, Q_HL1, Q_HL6, Q_HL11, Q_HL17, Q_X1_, Q_X6_, Q_X11_, Q_X17_⟩ hb_ hon hoff
                            refine ⟨_, rfl, fun K hK => ?_⟩
                            have e45 : a.tmps[45]? = some (m1_) := by rw [ha]; exact putSel_on (e := (1, 45, m1_)) 0 rfl rfl (hon 1 (by kernel_rfl)) rfl
                            rw [Q_X1_ (hon 1 (by kernel_rfl))] at e45
                            replace ha := Aside0.mk ha
                            have HBW := Aside0.mk Q_HBW
                            have HL1 := Aside0.mk (Q_HL1 (hon 1 (by kernel_rfl)))
                            refine goes_ Tryd.func11 (by kernel_rfl) rfl #[.slice (some ⟨gb1, 0, none⟩) 1 1] (by rfl) rfl rfl (by first | (simp only [List.map_toArray, List.map_cons, List.map_nil, Act.eval, Array.getD_eq_getD_getElem?, Option.getD_some, e45]; done) | (simp only [List.map_toArray, List.map_cons, List.map_nil, Act.eval, Array.getD_eq_getD_getElem?, Option.getD_some, e45]; rfl)) ?_
                            with_reducible refine (crc_Of.oneV ⟨gb1, 0, none⟩ x8_1.length co48 Ao48 x8_1 t109 w' (GT.below WG.out HBW.out) HL1.out (Kd.C_below CNX.out HBW.out) CX.out HNX.out KX.out).mono ?_
                            rintro e w3_ ⟨rfl, hw_⟩
                            subst hw_
                            refine ⟨_, rfl, ?_⟩
                            refine hK.out _ _ ⟨gb1, gb6, gb11, gb17, m1_, m6_, m11_, m17_, (by rw [ha.out]; exact putSel_upk 1 hb_ rfl rfl rfl), HBW.out, fun _ => HL1.out, fun h0_ => (Q_HL6 h0_), fun h0_ => (Q_HL11 h0_), fun h0_ => (Q_HL17 h0_), Q_X1_, Q_X6_, Q_X11_, Q_X17_⟩
                          refine steps_cons ?_ ?_
                          · rintro b a w' ⟨gb1, gb6, gb11, gb17, m1_, m6_, m11_, m17_, ha, Q_HBW, Q_HL1, Q_HL6, Q_HL11, Q_HL17, Q_X1_, Q_X6_, Q_X11_, Q_X17_⟩ hb_ hon hoff
                            refine ⟨_, rfl, fun K hK => ?_⟩
                            have e49 : a.tmps[49]? = some (.slice A0 N_ c0) := by rw [ha]; exact (putSel_off rfl).trans rfl
                            replace ha := Aside0.mk ha
                            have HBW := Aside0.mk Q_HBW
                            refine value_ (w1 := w'.alloc (.cells #[.slice A0 N_ c0] 24 (0, 0))) (v := .slice (some ⟨w'.heap.size, 0, none⟩) 1 1) (by rfl) rfl ?_ ?_
                            · go_simp
                              try rfl
                            refine hK.out _ _ ⟨gb1, w'.heap.size, gb11, gb17, m1_, (.slice (some ⟨w'.heap.size, 0, none⟩) 1 1), m11_, m17_, (by rw [ha.out]; exact putSel_upk 2 hb_ rfl rfl rfl), below_alloc HBW.out _, fun h0_ => pw_cell_below (below_alloc (Below.refl _ _) _) (Q_HL1 h0_), fun _ => by simp, fun h0_ => pw_cell_below (below_alloc (Below.refl _ _) _) (Q_HL11 h0_), fun h0_ => pw_cell_below (below_alloc (Below.refl _ _) _) (Q_HL17 h0_), Q_X1_, fun _ => rfl, Q_X11_, Q_X17_⟩
                          refine steps_cons ?_ ?_
                          · rintro b a w' ⟨gb1, gb6, gb11, gb17, m1_, m6_, m11_, m17_, ha, Q_HBW, Q_HL1, Q_HL6, Q_HL11, Q_HL17, Q_X1_, Q_X6_, Q_X11_, Q_X17_⟩ hb_ hon hoff
                            refine ⟨_, rfl, fun K hK => ?_⟩
                            have e50 : a.tmps[50]? = some (m6_) := by rw [ha]; exact putSel_on (e := (6, 50, m6_)) 2 rfl rfl (hon 6 (by kernel_rfl)) rfl
                            rw [Q_X6_ (hon 6 (by kernel_rfl))] at e50
                            replace ha := Aside0.mk ha
                            have HBW := Aside0.mk Q_HBW
                            have HL1 := Aside0.mk (Q_HL1 (hon 1 (by kernel_rfl)))
                            have HL6 := Aside0.mk (Q_HL6 (hon 6 (by kernel_rfl)))
                            refine goes_ Tryd.func11 (by kernel_rfl) rfl #[.slice (some ⟨gb6, 0, none⟩) 1 1] (by rfl) rfl rfl (by first | (simp only [List.map_toArray, List.map_cons, List.map_nil, Act.eval, Array.getD_eq_getD_getElem?, Option.getD_some, e50]; done) | (simp only [List.map_toArray, List.map_cons, List.map_nil, Act.eval, Array.getD_eq_getD_getElem?, Option.getD_some, e50]; rfl)) ?_
                            with_reducible refine (crc_Of.oneV ⟨gb6, 0, none⟩ N_ c0 A0 (l0.take (ji5 : Int).toNat) t111 w' (GT.below WG.out HBW.out) HL6.out (Kd.C_below CN0.out HBW.out) HC110.out HN0.out K0.out).mono ?_
                            rintro e w3_ ⟨rfl, hw_⟩
                            subst hw_
                            refine ⟨_, rfl, ?_⟩
                            refine hK.out _ _ ⟨gb1, gb6, gb11, gb17, m1_, m6_, m11_, m17_, (by rw [ha.out]; exact putSel_upk 3 hb_ rfl rfl rfl), HBW.out, fun _ => HL1.out, fun _ => HL6.out, fun h0_ => (Q_HL11 h0_), fun h0_ => (Q_HL17 h0_), Q_X1_, Q_X6_, Q_X11_, Q_X17_⟩
                          refine steps_cons ?_ ?_
                          · rintro b a w' ⟨gb1, gb6, gb11, gb17, m1_, m6_, m11_, m17_, ha, Q_HBW, Q_HL1, Q_HL6, Q_HL11, Q_HL17, Q_X1_, Q_X6_, Q_X11_, Q_X17_⟩ hb_ hon hoff
                            refine ⟨_, rfl, fun K hK => ?_⟩
                            have e54 : a.tmps[54]? = some (.slice A1 N_ c1) := by rw [ha]; exact (putSel_off rfl).trans rfl
                            replace ha := Aside0.mk ha
                            have HBW := Aside0.mk Q_HBW
                            refine value_ (w1 := w'.alloc (.cells #[.slice A1 N_ c1] 24 (0, 0))) (v := .slice (some ⟨w'.heap.size, 0, none⟩) 1 1) (by rfl) rfl ?_ ?_
                            · go_simp
                              try rfl
                            refine hK.out _ _ ⟨gb1, gb6, w'.heap.size, gb17, m1_, m6_, (.slice (some ⟨w'.heap.size, 0, none⟩) 1 1), m17_, (by rw [ha.out]; exact putSel_upk 4 hb_ rfl rfl rfl), below_alloc HBW.out _, fun h0_ => pw_cell_below (below_alloc (Below.refl _ _) _) (Q_HL1 h0_), fun h0_ => pw_cell_below (below_alloc (Below.refl _ _) _) (Q_HL6 h0_), fun _ => by simp, fun h0_ => pw_cell_below (below_alloc (Below.refl _ _) _) (Q_HL17 h0_), Q_X1_, Q_X6_, fun _ => rfl, Q_X17_⟩
                          refine steps_cons ?_ ?_
                          · rintro b a w' ⟨gb1, gb6, gb11, gb17, m1_, m6_, m11_, m17_, ha, Q_HBW, Q_HL1, Q_HL6, Q_HL11, Q_HL17, Q_X1_, Q_X6_, Q_X11_, Q_X17_⟩ hb_ hon hoff
                            refine ⟨_, rfl, fun K hK => ?_⟩
                            have e55 : a.tmps[55]? = some (m11_) := by rw [ha]; exact putSel_on (e := (11, 55, m11_)) 4 rfl rfl (hon 11 (by kernel_rfl)) rfl
                            rw [Q_X11_ (hon 11 (by kernel_rfl))] at e55
                            replace ha := Aside0.mk ha
                            have HBW := Aside0.mk Q_HBW
                            have HL1 := Aside0.mk (Q_HL1 (hon 1 (by kernel_rfl)))
                            have HL6 := Aside0.mk (Q_HL6 (hon 6 (by kernel_rfl)))
                            have HL11 := Aside0.mk (Q_HL11 (hon 11 (by kernel_rfl)))
                            refine goes_ Tryd.func11 (by kernel_rfl) rfl #[.slice (some ⟨gb11, 0, none⟩) 1 1] (by rfl) rfl rfl (by first | (simp only [List.map_toArray, List.map_cons, List.map_nil, Act.eval, Array.getD_eq_getD_getElem?, Option.getD_some, e55]; done) | (simp only [List.map_toArray, List.map_cons, List.map_nil, Act.eval, Array.getD_eq_getD_getElem?, Option.getD_some, e55]; rfl)) ?_
                            with_reducible refine (crc_Of.oneV ⟨gb11, 0, none⟩ N_ c1 A1 (l1.take (ji5 : Int).toNat) t113 w' (GT.below WG.out HBW.out) HL11.out (Kd.C_below CN1.out HBW.out) HC112.out HN1.out K1.out).mono ?_
                            rintro e w3_ ⟨rfl, hw_⟩
                            subst hw_
                            refine ⟨_, rfl, ?_⟩
                            refine hK.out _ _ ⟨gb1, gb6, gb11, gb17, m1_, m6_, m11_, m17_, (by rw [ha.out]; exact putSel_upk 5 hb_ rfl rfl rfl), HBW.out, fun _ => HL1.out, fun _ => HL6.out, fun _ => HL11.out, fun h0_ => (Q_HL17 h0_), Q_X1_, Q_X6_, Q_X11_, Q_X17_⟩
                          refine steps_cons ?_ ?_
                          · rintro b a w' ⟨gb1, gb6, gb11, gb17, m1_, m6_, m11_, m17_, ha, Q_HBW, Q_HL1, Q_HL6, Q_HL11, Q_HL17, Q_X1_, Q_X6_, Q_X11_, Q_X17_⟩ hb_ hon hoff
                            refine ⟨_, rfl, fun K hK => ?_⟩
                            have e51 : a.tmps[51]? = some (.int .u32 t111) := by rw [ha]; exact putSel_on (e := (7, 51, .int .u32 t111)) 3 rfl rfl (hon 7 (by kernel_rfl)) rfl
                            have e56 : a.tmps[56]? = some (.int .u32 t113) := by rw [ha]; exact putSel_on (e := (12, 56, .int .u32 t113)) 5 rfl rfl (hon 12 (by kernel_rfl)) rfl
                            replace ha := Aside0.mk ha
                            have HBW := Aside0.mk Q_HBW
                            have HL1 := Aside0.mk (Q_HL1 (hon 1 (by kernel_rfl)))
                            have HL6 := Aside0.mk (Q_HL6 (hon 6 (by kernel_rfl)))
                            have HL11 := Aside0.mk (Q_HL11 (hon 11 (by kernel_rfl)))
                            refine value_ (w1 := w') (v := .int .u32 (Go.bits .xor .u32 t111 t113)) (by rfl) rfl ?_ ?_
                            · go_simp
                              (try simp only [i64_w])
                              try rfl
                            refine hK.out _ _ ⟨gb1, gb6, gb11, gb17, m1_, m6_, m11_, m17_, (by rw [ha.out]; exact putSel_upk 6 hb_ rfl rfl rfl), Q_HBW, Q_HL1, Q_HL6, Q_HL11, Q_HL17, Q_X1_, Q_X6_, Q_X11_, Q_X17_⟩
                          refine steps_cons ?_ ?_
                          · rintro b a w' ⟨gb1, gb6, gb11, gb17, m1_, m6_, m11_, m17_, ha, Q_HBW, Q_HL1, Q_HL6, Q_HL11, Q_HL17, Q_X1_, Q_X6_, Q_X11_, Q_X17_⟩ hb_ hon hoff
                            refine ⟨_, rfl, fun K hK => ?_⟩
                            have e60 : a.tmps[60]? = some (.slice A2 N_ c2) := by rw [ha]; exact (putSel_off rfl).trans rfl
                            replace ha := Aside0.mk ha
                            have HBW := Aside0.mk Q_HBW
                            refine value_ (w1 := w'.alloc (.cells #[.slice A2 N_ c2] 24 (0, 0))) (v := .slice (some ⟨w'.heap.size, 0, none⟩) 1 1) (by rfl) rfl ?_ ?_
                            · go_simp
                              try rfl
                            refine hK.out _ _ ⟨gb1, gb6, gb11, w'.heap.size, m1_, m6_, m11_, (.slice (some ⟨w'.heap.size, 0, none⟩) 1 1), (by rw [ha.out]; exact putSel_upk 7 hb_ rfl rfl rfl), below_alloc HBW.out _, fun h0_ => pw_cell_below (below_alloc (Below.refl _ _) _) (Q_HL1 h0_), fun h0_ => pw_cell_below (below_alloc (Below.refl _ _) _) (Q_HL6 h0_), fun h0_ => pw_cell_below (below_alloc (Below.refl _ _) _) (Q_HL11 h0_), fun _ => by simp, Q_X1_, Q_X6_, Q_X11_, fun _ => rfl⟩
                          refine steps_cons ?_ ?_
                          · rintro b a w' ⟨gb1, gb6, gb11, gb17, m1_, m6_, m11_, m17_, ha, Q_HBW, Q_HL1, Q_HL6, Q_HL11, Q_HL17, Q_X1_, Q_X6_, Q_X11_, Q_X17_⟩ hb_ hon hoff
                            refine ⟨_, rfl, fun K hK => ?_⟩
                            have e61 : a.tmps[61]? = some (m17_) := by rw [ha]; exact putSel_on (e := (17, 61, m17_)) 7 rfl rfl (hon 17 (by kernel_rfl)) rfl
                            rw [Q_X17_ (hon 17 (by kernel_rfl))] at e61
                            replace ha := Aside0.mk ha
                            have HBW := Aside0.mk Q_HBW
                            have HL1 := Aside0.mk (Q_HL1 (hon 1 (by kernel_rfl)))
                            have HL6 := Aside0.mk (Q_HL6 (hon 6 (by kernel_rfl)))
                            have HL11 := Aside0.mk (Q_HL11 (hon 11 (by kernel_rfl)))
                            have HL17 := Aside0.mk (Q_HL17 (hon 17 (by kernel_rfl)))
                            refine goes_ Tryd.func11 (by kernel_rfl) rfl #[.slice (some ⟨gb17, 0, none⟩) 1 1] (by rfl) rfl rfl (by first | (simp only [List.map_toArray, List.map_cons, List.map_nil, Act.eval, Array.getD_eq_getD_getElem?, Option.getD_some, e61]; done) | (simp only [List.map_toArray, List.map_cons, List.map_nil, Act.eval, Array.getD_eq_getD_getElem?, Option.getD_some, e61]; rfl)) ?_
                            with_reducible refine (crc_Of.oneV ⟨gb17, 0, none⟩ N_ c2 A2 (l2.take (ji5 : Int).toNat) t115 w' (GT.below WG.out HBW.out) HL17.out (Kd.C_below CN2.out HBW.out) HC114.out HN2.out K2.out).mono ?_
                            rintro e w3_ ⟨rfl, hw_⟩
                            subst hw_
                            refine ⟨_, rfl, ?_⟩
                            refine hK.out _ _ ⟨gb1, gb6, gb11, gb17, m1_, m6_, m11_, m17_, (by rw [ha.out]; exact putSel_upk 8 hb_ rfl rfl rfl), HBW.out, fun _ => HL1.out, fun _ => HL6.out, fun _ => HL11.out, fun _ => HL17.out, Q_X1_, Q_X6_, Q_X11_, Q_X17_⟩
                          refine steps_cons ?_ ?_
                          · rintro b a w' ⟨gb1, gb6, gb11, gb17, m1_, m6_, m11_, m17_, ha, Q_HBW, Q_HL1, Q_HL6, Q_HL11, Q_HL17, Q_X1_, Q_X6_, Q_X11_, Q_X17_⟩ hb_ hon hoff
                            refine ⟨_, rfl, fun K hK => ?_⟩
                            have e57 : a.tmps[57]? = some (.int .u32 (Go.bits .xor .u32 t111 t113)) := by rw [ha]; exact putSel_on (e := (13, 57, .int .u32 (Go.bits .xor .u32 t111 t113))) 6 rfl rfl (hon 13 (by kernel_rfl)) rfl
                            have e62 : a.tmps[62]? = some (.int .u32 t115) := by rw [ha]; exact putSel_on (e := (18, 62, .int .u32 t115)) 8 rfl rfl (hon 18 (by kernel_rfl)) rfl
                            replace ha := Aside0.mk ha
                            have HBW := Aside0.mk Q_HBW
                            have HL1 := Aside0.mk (Q_HL1 (hon 1 (by kernel_rfl)))
                            have HL6 := Aside0.mk (Q_HL6 (hon 6 (by kernel_rfl)))
                            have HL11 := Aside0.mk (Q_HL11 (hon 11 (by kernel_rfl)))
                            have HL17 := Aside0.mk (Q_HL17 (hon 17 (by kernel_rfl)))
                            refine value_ (w1 := w') (v := .int .u32 (Go.bits .xor .u32 (Go.bits .xor .u32 t111 t113) t115)) (by rfl) rfl ?_ ?_
                            · go_simp
                              (try simp only [i64_w])
                              try rfl
                            refine hK.out _ _ ⟨gb1, gb6, gb11, gb17, m1_, m6_, m11_, m17_, (by rw [ha.out]; exact putSel_upk 9 hb_ rfl rfl rfl), Q_HBW, Q_HL1, Q_HL6, Q_HL11, Q_HL17, Q_X1_, Q_X6_, Q_X11_, Q_X17_⟩
                          refine steps_cons ?_ ?_
                          · rintro b a w' ⟨gb1, gb6, gb11, gb17, m1_, m6_, m11_, m17_, ha, Q_HBW, Q_HL1, Q_HL6, Q_HL11, Q_HL17, Q_X1_, Q_X6_, Q_X11_, Q_X17_⟩ hb_ hon hoff
                            refine ⟨_, rfl, fun K hK => ?_⟩
                            have e46 : a.tmps[46]? = some (.int .u32 t109) := by rw [ha]; exact putSel_on (e := (2, 46, .int .u32 t109)) 1 rfl rfl (hon 2 (by kernel_rfl)) rfl
                            have e63 : a.tmps[63]? = some (.int .u32 (Go.bits .xor .u32 (Go.bits .xor .u32 t111 t113) t115)) := by rw [ha]; exact putSel_on (e := (19, 63, .int .u32 (Go.bits .xor .u32 (Go.bits .xor .u32 t111 t113) t115))) 9 rfl rfl (hon 19 (by kernel_rfl)) rfl
                            replace ha := Aside0.mk ha
                            have HBW := Aside0.mk Q_HBW
                            have HL1 := Aside0.mk (Q_HL1 (hon 1 (by kernel_rfl)))
                            have HL6 := Aside0.mk (Q_HL6 (hon 6 (by kernel_rfl)))
                            have HL11 := Aside0.mk (Q_HL11 (hon 11 (by kernel_rfl)))
                            have HL17 := Aside0.mk (Q_HL17 (hon 17 (by kernel_rfl)))
                            refine value_ (w1 := w') (v := .bool false) (by rfl) rfl ?_ ?_
                            · go_simp
                              (try simp only [i64_w])
                              try rfl
                            refine hK.out _ _ ⟨gb1, gb6, gb11, gb17, m1_, m6_, m11_, m17_, (by rw [ha.out]; exact putSel_upk 10 hb_ rfl rfl rfl), Q_HBW, Q_HL1, Q_HL6, Q_HL11, Q_HL17, Q_X1_, Q_X6_, Q_X11_, Q_X17_⟩
                          refine steps_cons ?_ ?_
                          · rintro b a w' ⟨gb1, gb6, gb11, gb17, m1_, m6_, m11_, m17_, ha, Q_HBW, Q_HL1, Q_HL6, Q_HL11, Q_HL17, Q_X1_, Q_X6_, Q_X11_, Q_X17_⟩ hb_ hon hoff
                            refine ⟨_, rfl, fun K hK => ?_⟩
                            have e64 : a.tmps[64]? = some (.bool false) := by rw [ha]; exact putSel_on (e := (20, 64, .bool false)) 10 rfl rfl (hon 20 (by kernel_rfl)) rfl
                            replace ha := Aside0.mk ha
                            have HBW := Aside0.mk Q_HBW
                            have HL1 := Aside0.mk (Q_HL1 (hon 1 (by kernel_rfl)))
                            have HL6 := Aside0.mk (Q_HL6 (hon 6 (by kernel_rfl)))
                            have HL11 := Aside0.mk (Q_HL11 (hon 11 (by kernel_rfl)))
                            have HL17 := Aside0.mk (Q_HL17 (hon 17 (by kernel_rfl)))
                            refine value_ (w1 := w') (v := .bool false) (by rfl) rfl ?_ ?_
                            · go_simp
                              (try simp only [i64_w])
                              try rfl
                            refine hK.out _ _ ⟨gb1, gb6, gb11, gb17, m1_, m6_, m11_, m17_, (by rw [ha.out]; exact putSel_upk 11 hb_ rfl rfl rfl), Q_HBW, Q_HL1, Q_HL6, Q_HL11, Q_HL17, Q_X1_, Q_X6_, Q_X11_, Q_X17_⟩
                          refine steps_cons ?_ ?_
                          · rintro b a w' ⟨gb1, gb6, gb11, gb17, m1_, m6_, m11_, m17_, ha, Q_HBW, Q_HL1, Q_HL6, Q_HL11, Q_HL17, Q_X1_, Q_X6_, Q_X11_, Q_X17_⟩ hb_ hon hoff
                            refine ⟨_, rfl, fun K hK => ?_⟩
                            have e65 : a.tmps[65]? = some (.bool false) := by rw [ha]; exact putSel_on (e := (21, 65, .bool false)) 11 rfl rfl (hon 21 (by kernel_rfl)) rfl
                            replace ha := Aside0.mk ha
                            have HBW := Aside0.mk Q_HBW
                            have HL1 := Aside0.mk (Q_HL1 (hon 1 (by kernel_rfl)))
                            have HL6 := Aside0.mk (Q_HL6 (hon 6 (by kernel_rfl)))
                            have HL11 := Aside0.mk (Q_HL11 (hon 11 (by kernel_rfl)))
                            have HL17 := Aside0.mk (Q_HL17 (hon 17 (by kernel_rfl)))
                            refine off_ (wanted_off rfl rfl rfl (e65.trans (by first | rfl | (simp [*]; done)))) ?_
                            refine hK.out _ _ ⟨gb1, gb6, gb11, gb17, m1_, m6_, m11_, m17_, (by rw [ha.out]; exact putSel_upk 12 hb_ rfl rfl rfl), Q_HBW, Q_HL1, Q_HL6, Q_HL11, Q_HL17, Q_X1_, Q_X6_, Q_X11_, Q_X17_⟩
                          refine steps_cons ?_ ?_
                          · rintro b a w' ⟨gb1, gb6, gb11, gb17, m1_, m6_, m11_, m17_, ha, Q_HBW, Q_HL1, Q_HL6, Q_HL11, Q_HL17, Q_X1_, Q_X6_, Q_X11_, Q_X17_⟩ hb_ hon hoff
                            refine ⟨_, rfl, fun K hK => ?_⟩
                            have e65 : a.tmps[65]? = some (.bool false) := by rw [ha]; exact putSel_on (e := (21, 65, .bool false)) 11 rfl rfl (hon 21 (by kernel_rfl)) rfl
                            have e66 : a.tmps[66]? = some (undef) := by rw [ha]; exact putSel_on (e := (22, 66, undef)) 12 rfl rfl (hon 22 (by kernel_rfl)) rfl
                            replace ha := Aside0.mk ha
                            have HBW := Aside0.mk Q_HBW
                            have HL1 := Aside0.mk (Q_HL1 (hon 1 (by kernel_rfl)))
                            have HL6 := Aside0.mk (Q_HL6 (hon 6 (by kernel_rfl)))
                            have HL11 := Aside0.mk (Q_HL11 (hon 11 (by kernel_rfl)))
                            have HL17 := Aside0.mk (Q_HL17 (hon 17 (by kernel_rfl)))
                            refine value_ (w1 := w') (v := .bool false) (by rfl) rfl ?_ ?_
                            · go_simp
                              (try simp only [i64_w])
                              try rfl
                            refine hK.out _ _ ⟨gb1, gb6, gb11, gb17, m1_, m6_, m11_, m17_, (by rw [ha.out]; exact putSel_upk 13 hb_ rfl rfl rfl), Q_HBW, Q_HL1, Q_HL6, Q_HL11, Q_HL17, Q_X1_, Q_X6_, Q_X11_, Q_X17_⟩
                          refine steps_cons ?_ ?_
                          · rintro b a w' ⟨gb1, gb6, gb11, gb17, m1_, m6_, m11_, m17_, ha, Q_HBW, Q_HL1, Q_HL6, Q_HL11, Q_HL17, Q_X1_, Q_X6_, Q_X11_, Q_X17_⟩ hb_ hon hoff
                            refine ⟨_, rfl, fun K hK => ?_⟩
                            have e67 : a.tmps[67]? = some (.bool false) := by rw [ha]; exact putSel_on (e := (23, 67, .bool false)) 13 rfl rfl (hon 23 (by kernel_rfl)) rfl
                            replace ha := Aside0.mk ha
                            have HBW := Aside0.mk Q_HBW
                            have HL1 := Aside0.mk (Q_HL1 (hon 1 (by kernel_rfl)))
                            have HL6 := Aside0.mk (Q_HL6 (hon 6 (by kernel_rfl)))
                            have HL11 := Aside0.mk (Q_HL11 (hon 11 (by kernel_rfl)))
                            have HL17 := Aside0.mk (Q_HL17 (hon 17 (by kernel_rfl)))
                            refine value_ (w1 := w') (v := .bool false) (by rfl) rfl ?_ ?_
                            · go_simp
                              (try simp only [i64_w])
                              try rfl
                            refine hK.out _ _ ⟨gb1, gb6, gb11, gb17, m1_, m6_, m11_, m17_, (by rw [ha.out]; exact putSel_upk 14 hb_ rfl rfl rfl), Q_HBW, Q_HL1, Q_HL6, Q_HL11, Q_HL17, Q_X1_, Q_X6_, Q_X11_, Q_X17_⟩
                          exact steps_nil
                        · rintro b a w' hall ⟨gb1, gb6, gb11, gb17, m1_, m6_, m11_, m17_, ha, Q_HBW, Q_HL1, Q_HL6, Q_HL11, Q_HL17, Q_X1_, Q_X6_, Q_X11_, Q_X17_⟩
                          clear HBW
                          have hb1_ := hall 1 (by kernel_rfl)
                          have hb2_ := hall 2 (by kernel_rfl)
                          have hb6_ := hall 6 (by kernel_rfl)
                          have hb7_ := hall 7 (by kernel_rfl)
                          have hb11_ := hall 11 (by kernel_rfl)
                          have hb12_ := hall 12 (by kernel_rfl)
                          have hb13_ := hall 13 (by kernel_rfl)
                          have hb17_ := hall 17 (by kernel_rfl)
                          have hb18_ := hall 18 (by kernel_rfl)
                          have hb19_ := hall 19 (by kernel_rfl)
                          have hb20_ := hall 20 (by kernel_rfl)
                          have hb21_ := hall 21 (by kernel_rfl)
                          have hb22_ := hall 22 (by kernel_rfl)
                          have hb23_ := hall 23 (by kernel_rfl)
                          have hb24_ := hall 24 (by kernel_rfl)
                          subst ha
                          obtain rfl := Q_X1_ hb1_
                          obtain rfl := Q_X6_ hb6_
                          obtain rfl := Q_X11_ hb11_
                          obtain rfl := Q_X17_ hb17_
                          simp only [putSel, hb1_, hb2_, hb6_, hb7_, hb11_, hb12_, hb13_, hb17_, hb18_, hb19_, hb20_, hb21_, hb22_, hb23_, hb24_, if_true, Act.put, List.setIfInBounds_toArray, List.set_cons_zero, List.set_cons_succ]
                          have HBW := Aside0.mk Q_HBW
                          clear Q_HBW
                          have HL1 := Aside0.mk (Q_HL1 hb1_)
                          clear Q_HL1
                          have HL6 := Aside0.mk (Q_HL6 hb6_)
                          clear Q_HL6
                          have HL11 := Aside0.mk (Q_HL11 hb11_)
                          clear Q_HL11
                          have HL17 := Aside0.mk (Q_HL17 hb17_)
                          clear Q_HL17
                          clear hall hb1_ hb2_ hb6_ hb7_ hb11_ hb12_ hb13_ hb17_ hb18_ hb19_ hb20_ hb21_ hb22_ hb23_ hb24_
                          have n0_ := Aside0.mk (below_step HB.out HBW.out)
                          clear HB
                          have HB := n0_
                          clear n0_
                          try go_wp2
                          go_ret
                          exact ⟨by first | rfl | (simp [errW_none, errW_some] <;> rfl) | (simp only [← hji4, ← hji5]; first | rfl | (simp [errW_none, errW_some] <;> rfl)) | (simp [*, errW_none, errW_some] <;> rfl), by repeat (first | (with_reducible first | exact HB.out | apply below_alloc | apply pw_below_drewN | apply below_drew1) | exact HB.out)⟩
                    · rw [if_neg c30] at H
                      exact absurd H (by simp)
                  · rw [if_neg c27] at H
                    exact absurd H (by simp)
                · rw [if_neg c24] at H
                  exact absurd H (by simp)
              · rw [if_neg c23] at H
                exact absurd H (by simp)
      · rw [if_neg c10] at H
        exact absurd H (by simp)
    · rw [if_neg c9] at H
      exact absurd H (by simp)

/-- THE ONE PURE STATEMENT of remoralaw02_CrcLines: yours. -/
def remoralaw02_CrcLines.Pure : Prop := ∀ (l0 : List Int) (l1 : List Int) (l2 : List Int), l0.length ≤ maxLen → l0.length * 1 ≤ 140737488351232 → (∀ x ∈ l0, (Lit.int .u8 x).wf = true) → l1.length ≤ maxLen → l1.length * 1 ≤ 140737488351232 → (∀ x ∈ l1, (Lit.int .u8 x).wf = true) → l2.length ≤ maxLen → l2.length * 1 ≤ 140737488351232 → (∀ x ∈ l2, (Lit.int .u8 x).wf = true) → ∃ k, remoralaw02_CrcLines.f k l0 l1 l2 = some true
theorem remoralaw02_CrcLines.walk (P : remoralaw02_CrcLines.Pure) (a0 : Option Addr) (len0 cap0 : Nat) (z0 : List Int) (a1 : Option Addr) (len1 cap1 : Nat) (z1 : List Int) (a2 : Option Addr) (len2 cap2 : Nat) (z2 : List Int) (w : World) (hG : GT w) (w0 : (a0 = none ∧ len0 = 0 ∧ cap0 = 0 ∧ z0 = []) ∨ ∃ x, a0 = some x ∧ len0 ≤ cap0 ∧ cap0 ≤ maxLen ∧ z0.length = cap0 ∧ (∀ i, i < z0.length → w.cell? (x.add i) = some (.int .u8 (z0.getD i 0))) ∧ ∀ n ∈ z0, (Lit.int .u8 n).wf = true) (y0 : len0 * 1 ≤ 140737488351232) (w1 : (a1 = none ∧ len1 = 0 ∧ cap1 = 0 ∧ z1 = []) ∨ ∃ x, a1 = some x ∧ len1 ≤ cap1 ∧ cap1 ≤ maxLen ∧ z1.length = cap1 ∧ (∀ i, i < z1.length → w.cell? (x.add i) = some (.int .u8 (z1.getD i 0))) ∧ ∀ n ∈ z1, (Lit.int .u8 n).wf = true) (y1 : len1 * 1 ≤ 140737488351232) (w2 : (a2 = none ∧ len2 = 0 ∧ cap2 = 0 ∧ z2 = []) ∨ ∃ x, a2 = some x ∧ len2 ≤ cap2 ∧ cap2 ≤ maxLen ∧ z2.length = cap2 ∧ (∀ i, i < z2.length → w.cell? (x.add i) = some (.int .u8 (z2.getD i 0))) ∧ ∀ n ∈ z2, (Lit.int .u8 n).wf = true) (y2 : len2 * 1 ≤ 140737488351232) :
    Calls Tryd.prog 4 #[.slice a0 len0 cap0, .slice a1 len1 cap1, .slice a2 len2 cap2] w fun e w' => e = .returned (.bool true) ∧ Below w.heap.size w w' := by
  obtain ⟨l0, rfl, hr0, hm0, hw0, hc0⟩ := ReadsInt.ofRowC w0
  obtain ⟨l1, rfl, hr1, hm1, hw1, hc1⟩ := ReadsInt.ofRowC w1
  obtain ⟨l2, rfl, hr2, hm2, hw2, hc2⟩ := ReadsInt.ofRowC w2
  obtain ⟨k, h⟩ := P l0 l1 l2 hm0 y0 hw0 hm1 y1 hw1 hm2 y2 hw2
  refine (remoralaw02_CrcLines.calls k _ _ l0 _ _ l1 _ _ l2 true w hG (Kd.C_of_reads (d := (0 : Int)) (h1 := fun _ => rfl) hr0) hc0 (Kd.C_of_reads (d := (0 : Int)) (h1 := fun _ => rfl) hr1) hc1 (Kd.C_of_reads (d := (0 : Int)) (h1 := fun _ => rfl) hr2) hc2 h).mono ?_
  rintro e w' ⟨rfl, hd⟩
  exact ⟨rfl, hd⟩


end Go.Proofs.YtplpckppejnicaaDoor.P
