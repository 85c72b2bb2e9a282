-- Written by a program of the session (wip/tool/mk.py) out of the translation; Lean checks it.
import Derived.Test.YtgjmcjpgajlgoaaDoorPx0
import Derived.Test.YtgjmcjpgajlgoaaDoorPx2
import Derived.Test.YtgjmcjpgajlgoaaDoorPx5
namespace Go.Proofs.YtgjmcjpgajlgoaaDoor.P
open Go.RowKit Go.Proofs.YtgjmcjpgajlgoaaDoorW.PrintWords Go.Proofs.YtgjmcjpgajlgoaaDoorW.PrintLast Go.Proofs.YtgjmcjpgajlgoaaDoorW.PrintMore
attribute [local go_sem] max2_int min2_int max_two min_two max_three min_three max_four min_four   -- for this text's walks alone
set_option linter.unusedVariables false
set_option linter.unusedSimpArgs false

/-! ### remoraref01_Get: function 19 -/
mutual
def remoraref01_Get.j0 : Nat → List Int → Int → Bool → Option (Int × Int × Int)
  | 0, _, _, _ => none
  | k + 1, x0, x1, x17 => if x17 = true then (some (0, 0, 3)) else (remoraref01_Get.l0 k x0 x1 x1)
def remoraref01_Get.j2 : Nat → List Int → Int → Int → Option (Int × Int × Int)
  | 0, _, _, _ => none
  | k + 1, x0, x1, x7 => if (wrap64 (x7 - x1)) = 9 then (some (0, 0, 5)) else (if x7 = (x0.length : Int) then (some (0, 0, 4)) else (if 0 ≤ x7 then (if x7 < (x0.length : Int) then (if (rd x0 x7) = 0 then (remoraref01_Get.j3 k x0 x1 x7 (decide (x7 > x1))) else (remoraref01_Get.j3 k x0 x1 x7 false)) else (none)) else (none)))
def remoraref01_Get.j3 : Nat → List Int → Int → Int → Bool → Option (Int × Int × Int)
  | 0, _, _, _, _ => none
  | k + 1, x0, x1, x7, x55 => if x55 = true then (some (0, 0, 5)) else (remoraref01_Get.l1 k x0 x1 x7 0 x7)
def remoraref01_Get.l1 : Nat → List Int → Int → Int → Int → Int → Option (Int × Int × Int)
  | 0, _, _, _, _, _ => none
  | k + 1, x0, x1, x7, x8, x9 => if x9 ≥ x1 then (if x8 > 36028797018963967 then (some (0, 0, 7)) else (if 0 ≤ x9 then (if x9 < (x0.length : Int) then (remoraref01_Get.l1 k x0 x1 x7 (wrap64 ((wrap64 (128 * x8)) + (wrap64 (Int.tmod (rd x0 x9) 128)))) (wrap64 (x9 - 1))) else (none)) else (none))) else (if x8 > 4611686018427387903 then (some (0, 0, 7)) else (some (x8, wrap64 (x7 + 1), 0)))
def remoraref01_Get.l0 : Nat → List Int → Int → Int → Option (Int × Int × Int)
  | 0, _, _, _ => none
  | k + 1, x0, x1, x7 => if x7 < (x0.length : Int) then (if (wrap64 (x7 - x1)) < 9 then (if 0 ≤ x7 then (if (rd x0 x7) > 127 then (remoraref01_Get.l0 k x0 x1 (wrap64 (x7 + 1))) else (remoraref01_Get.j2 k x0 x1 x7)) else (none)) else (remoraref01_Get.j2 k x0 x1 x7)) else (remoraref01_Get.j2 k x0 x1 x7)
end
def remoraref01_Get.f (k : Nat) (l0 : List Int) (a1 : Int) : Option (Int × Int × Int) := if a1 < 0 then (remoraref01_Get.j0 k l0 a1 true) else (remoraref01_Get.j0 k l0 a1 (decide (a1 > (l0.length : Int))))
theorem remoraref01_Get.mono_l : ∀ k, (∀ y0 y1 y2, LeO (remoraref01_Get.j0 k y0 y1 y2) (remoraref01_Get.j0 (k + 1) y0 y1 y2)) ∧ (∀ y0 y1 y2, LeO (remoraref01_Get.j2 k y0 y1 y2) (remoraref01_Get.j2 (k + 1) y0 y1 y2)) ∧ (∀ y0 y1 y2 y3, LeO (remoraref01_Get.j3 k y0 y1 y2 y3) (remoraref01_Get.j3 (k + 1) y0 y1 y2 y3)) ∧ (∀ y0 y1 y2 y3 y4, LeO (remoraref01_Get.l1 k y0 y1 y2 y3 y4) (remoraref01_Get.l1 (k + 1) y0 y1 y2 y3 y4)) ∧ (∀ y0 y1 y2, LeO (remoraref01_Get.l0 k y0 y1 y2) (remoraref01_Get.l0 (k + 1) y0 y1 y2))
  | 0 => ⟨fun _ _ _ r h => by simp [remoraref01_Get.j0] at h, fun _ _ _ r h => by simp [remoraref01_Get.j2] at h, fun _ _ _ _ r h => by simp [remoraref01_Get.j3] at h, fun _ _ _ _ _ r h => by simp [remoraref01_Get.l1] at h, fun _ _ _ r h => by simp [remoraref01_Get.l0] at h⟩
  | k + 1 => by
    obtain ⟨ih0, ih1, ih2, ih3, ih4⟩ := remoraref01_Get.mono_l k
    refine ⟨?_, ?_, ?_, ?_, ?_⟩
    · intro y0 y1 y2
      unfold remoraref01_Get.j0
      repeat' first
      | (with_reducible exact ih0 _ _ _)
      | (with_reducible exact ih1 _ _ _)
      | (with_reducible exact ih2 _ _ _ _)
      | (with_reducible exact ih3 _ _ _ _ _)
      | (with_reducible exact ih4 _ _ _)
      | (with_reducible exact LeO.refl _)
      | (with_reducible exact LeO.none _)
      | (with_reducible refine LeO.ite ?_ ?_)
      | (with_reducible refine LeO.bind ?_ (fun _ => ?_))
      | exact ih0 _ _ _
      | exact ih1 _ _ _
      | exact ih2 _ _ _ _
      | exact ih3 _ _ _ _ _
      | exact ih4 _ _ _
      | exact LeO.none _
      | refine LeO.ite ?_ ?_
      | refine LeO.bind ?_ (fun _ => ?_)
    · intro y0 y1 y2
      unfold remoraref01_Get.j2
      repeat' first
      | (with_reducible exact ih0 _ _ _)
      | (with_reducible exact ih1 _ _ _)
      | (with_reducible exact ih2 _ _ _ _)
      | (with_reducible exact ih3 _ _ _ _ _)
      | (with_reducible exact ih4 _ _ _)
      | (with_reducible exact LeO.refl _)
      | (with_reducible exact LeO.none _)
      | (with_reducible refine LeO.ite ?_ ?_)
      | (with_reducible refine LeO.bind ?_ (fun _ => ?_))
      | exact ih0 _ _ _
      | exact ih1 _ _ _
      | exact ih2 _ _ _ _
      | exact ih3 _ _ _ _ _
      | exact ih4 _ _ _
      | exact LeO.none _
      | refine LeO.ite ?_ ?_
      | refine LeO.bind ?_ (fun _ => ?_)
    · intro y0 y1 y2 y3
      unfold remoraref01_Get.j3
      repeat' first
      | (with_reducible exact ih0 _ _ _)
      | (with_reducible exact ih1 _ _ _)
      | (with_reducible exact ih2 _ _ _ _)
      | (with_reducible exact ih3 _ _ _ _ _)
      | (with_reducible exact ih4 _ _ _)
      | (with_reducible exact LeO.refl _)
      | (with_reducible exact LeO.none _)
      | (with_reducible refine LeO.ite ?_ ?_)
      | (with_reducible refine LeO.bind ?_ (fun _ => ?_))
      | exact ih0 _ _ _
      | exact ih1 _ _ _
      | exact ih2 _ _ _ _
      | exact ih3 _ _ _ _ _
      | exact ih4 _ _ _
      | exact LeO.none _
      | refine LeO.ite ?_ ?_
      | refine LeO.bind ?_ (fun _ => ?_)
    · intro y0 y1 y2 y3 y4
      unfold remoraref01_Get.l1
      repeat' first
      | (with_reducible exact ih0 _ _ _)
      | (with_reducible exact ih1 _ _ _)
      | (with_reducible exact ih2 _ _ _ _)
      | (with_reducible exact ih3 _ _ _ _ _)
      | (with_reducible exact ih4 _ _ _)
      | (with_reducible exact LeO.refl _)
      | (with_reducible exact LeO.none _)
      | (with_reducible refine LeO.ite ?_ ?_)
      | (with_reducible refine LeO.bind ?_ (fun _ => ?_))
      | exact ih0 _ _ _
      | exact ih1 _ _ _
      | exact ih2 _ _ _ _
      | exact ih3 _ _ _ _ _
      | exact ih4 _ _ _
      | exact LeO.none _
      | refine LeO.ite ?_ ?_
      | refine LeO.bind ?_ (fun _ => ?_)
    · intro y0 y1 y2
      unfold remoraref01_Get.l0
      repeat' first
      | (with_reducible exact ih0 _ _ _)
      | (with_reducible exact ih1 _ _ _)
      | (with_reducible exact ih2 _ _ _ _)
      | (with_reducible exact ih3 _ _ _ _ _)
      | (with_reducible exact ih4 _ _ _)
      | (with_reducible exact LeO.refl _)
      | (with_reducible exact LeO.none _)
      | (with_reducible refine LeO.ite ?_ ?_)
      | (with_reducible refine LeO.bind ?_ (fun _ => ?_))
      | exact ih0 _ _ _
      | exact ih1 _ _ _
      | exact ih2 _ _ _ _
      | exact ih3 _ _ _ _ _
      | exact ih4 _ _ _
      | exact LeO.none _
      | refine LeO.ite ?_ ?_
      | refine LeO.bind ?_ (fun _ => ?_)
theorem remoraref01_Get.mono : ∀ a0 a1 k, LeO (remoraref01_Get.f k a0 a1) (remoraref01_Get.f (k + 1) a0 a1) := by
  intro a0 a1 k
  obtain ⟨ih0, ih1, ih2, ih3, ih4⟩ := remoraref01_Get.mono_l k
  unfold remoraref01_Get.f
  repeat' first
      | (with_reducible exact ih0 _ _ _)
      | (with_reducible exact ih1 _ _ _)
      | (with_reducible exact ih2 _ _ _ _)
      | (with_reducible exact ih3 _ _ _ _ _)
      | (with_reducible exact ih4 _ _ _)
      | (with_reducible exact LeO.refl _)
      | (with_reducible exact LeO.none _)
      | (with_reducible refine LeO.ite ?_ ?_)
      | (with_reducible refine LeO.bind ?_ (fun _ => ?_))
      | exact ih0 _ _ _
      | exact ih1 _ _ _
      | exact ih2 _ _ _ _
      | exact ih3 _ _ _ _ _
      | exact ih4 _ _ _
      | exact LeO.none _
      | refine LeO.ite ?_ ?_
      | refine LeO.bind ?_ (fun _ => ?_)
set_option maxHeartbeats 8000000 in
set_option maxRecDepth 100000 in
theorem remoraref01_Get.calls (k : Nat) (A0 : Option Addr) (c0 : Nat) (l0 : List Int) (a1 : Int) (r1 : Int) (r2 : Int) (r3 : Int) (w : World) (hr0 : Kd.C (Kd.int .u8) w A0 l0.length l0) (hc0 : l0.length ≤ c0) (h : remoraref01_Get.f k l0 a1 = some (r1, r2, r3)) :
    Calls Tryd.prog 19 #[.slice A0 l0.length c0, .int .i64 a1] w fun e w' => e = .returned (.tuple #[.int .i64 r1, .int .i64 r2, .int .i64 r3]) ∧ Drawn0 w w' := by
  have HR0 := Aside0.mk hr0
  have HC0 := Aside0.mk hc0
  clear hr0 hc0
  have H : (if a1 < 0 then (remoraref01_Get.j0 k l0 a1 true) else (remoraref01_Get.j0 k l0 a1 (decide (a1 > (l0.length : Int))))) = some (r1, r2, r3) := h
  clear h
  have HC3 := Aside0.mk H
  clear H
  go_enter Tryd.func19, Tryd.ntmps19
  go_upto_region 1 with (fail)
  go_cut [17] (fun v17 wc => ∃ (kq : Nat) (x17_2 : Bool), v17 = .bool x17_2 ∧ Aside0 (remoraref01_Get.j0 kq l0 a1 x17_2 = some (r1, r2, r3)) ∧ Aside0 (kq ≤ k) ∧ Drawn0 w wc)
  case first =>
    have H := HC3.out
    clear HC3
    by_cases c4 : a1 < 0
    · rw [if_pos c4] at H
      have c4b0 : decide (a1 < 0) = true := decide_eq_true c4
      clear c4
      (first | rw [c4b0] | (simp only [i64_w, i32_w]; rw [c4b0]) | skip)
      have H' := Aside0.mk H
      clear H
      go_wp2
      go_meet
      case rel => exact ⟨_, (true), (by first | rfl | (simp; done) | (simp [*]; done)), H', ⟨by first | omega | exact Nat.le_refl _⟩, by repeat (first | exact Drawn0.refl _ | apply Drawn0.step)⟩
    · rw [if_neg c4] at H
      have c4b0 : decide (a1 < 0) = false := decide_eq_false c4
      clear c4
      (first | rw [c4b0] | (simp only [i64_w, i32_w]; rw [c4b0]) | skip)
      have H' := Aside0.mk H
      clear H
      go_wp2
      go_meet
      case rel => exact ⟨_, (decide (a1 > (l0.length : Int))), (by first | rfl | (simp; done) | (simp [*]; done)), H', ⟨by first | omega | exact Nat.le_refl _⟩, by repeat (first | exact Drawn0.refl _ | apply Drawn0.step)⟩
  case rest =>
    clear HC3
    try clear c1
    try clear p2
    try clear c4
    try clear c4b0
    obtain ⟨kq, x17_2, rfl, HA, HJ2, ⟨mc2, rfl⟩⟩ := hcut
    cases kq with
    | zero => exact absurd HA.out (by simp [remoraref01_Get.j0])
    | succ kj2 =>
      have H := HA.out
      clear HA
      simp only [remoraref01_Get.j0] at H
      by_cases c5 : x17_2 = true
      · subst c5
        have H1 : (some (0, 0, 3)) = some (r1, r2, r3) := by rw [if_pos rfl] at H; exact H
        clear H
        have H := H1
        clear H1
        simp only [Option.some.injEq, Prod.mk.injEq] at H
        obtain ⟨rfl, rfl, rfl⟩ := H
        go_wp2
        go_ret3
        exact ⟨by first | rfl | (simp; done) | (simp [*]; done), by repeat (first | exact Drawn0.refl _ | apply Drawn0.step)⟩
      · replace c5 := Bool.eq_false_iff.mpr c5
        subst c5
        have H1 : (remoraref01_Get.l0 kj2 l0 a1 a1) = some (r1, r2, r3) := by rw [if_neg (show ¬ (false = true) by decide)] at H; exact H
        clear H
        have H := H1
        clear H1
        have HC6 := Aside0.mk H
        clear H
        go_upto_block 0 with (fail)
        go_cut [7] (fun v7 wc => ∃ (kq : Nat) (x7_5 : Int), v7 = .int .i64 x7_5 ∧ Aside0 (remoraref01_Get.j2 kq l0 a1 x7_5 = some (r1, r2, r3)) ∧ Aside0 (kq ≤ kj2) ∧ Drawn0 w wc)
        case first =>
          have H := HC6.out
          clear HC6
          have H' := Aside0.mk H
          clear H
          go_wp2
          go_loopg [7] kj2 (fun kq v7 w' => ∃ (x7_2 : Int), v7 = .int .i64 x7_2 ∧ Aside0 (remoraref01_Get.l0 kq l0 a1 x7_2 = some (r1, r2, r3)) ∧ Aside0 (kq ≤ kj2) ∧ Drawn0 w w')
          case atStart => exact ⟨(a1), (by first | rfl | (simp; done) | (simp [*]; done)), H', ⟨Nat.le_refl _⟩, by repeat (first | exact Drawn0.refl _ | apply Drawn0.step)⟩
          case round =>
            clear H'
            try clear c1
            try clear c2
            try clear p2
            try clear c4
            try clear c4b0
            try clear c5
            try clear p2
            obtain ⟨x7_2, rfl, HA, HK2, ⟨m2, rfl⟩⟩ := hrel
            cases gk with
            | zero => exact absurd HA.out (by simp [remoraref01_Get.l0])
            | succ k2 =>
              have H := HA.out
              clear HA
              simp only [remoraref01_Get.l0] at H
              by_cases c7 : x7_2 < (l0.length : Int)
              · rw [if_pos c7] at H
                have c7b0 : decide (x7_2 < (l0.length : Int)) = true := decide_eq_true c7
                clear c7
                (first | rw [c7b0] | (simp only [i64_w, i32_w]; rw [c7b0]) | skip)
                by_cases c8 : (wrap64 (x7_2 - a1)) < 9
                · rw [if_pos c8] at H
                  have c8b0 : decide ((wrap64 (x7_2 - a1)) < 9) = true := decide_eq_true c8
                  clear c8
                  by_cases c9 : 0 ≤ x7_2
                  · rw [if_pos c9] at H
                    have c9b0 : decide (0 ≤ x7_2) = true := decide_eq_true c9
                    clear c9
                    by_cases c10 : (rd l0 x7_2) > 127
                    · rw [if_pos c10] at H
                      have c10b0 : decide (127 < (rd l0 x7_2)) = true := decide_eq_true c10
                      clear c10
                      have H' := Aside0.mk H
                      clear H
                      have p213 : 0 ≤ (x7_2 : Int) := of_decide_eq_true (by first | (with_reducible assumption) | assumption)
                      have q213 : x7_2 < (l0.length : Int) := of_decide_eq_true (by first | (with_reducible assumption) | assumption)
                      obtain ⟨ad213, e213, hx213_0⟩ := Kd.at_int HR0.out x7_2 p213 q213
                      cases e213
                      replace p213 := eq_true p213
                      replace q213 := eq_true q213
                      go_wp2
                      go_roundg k2
                      case measure => have := HJ2.out; have := HK2.out; omega
                      case rel => exact ⟨(wrap64 (x7_2 + 1)), (by first | rfl | (simp; done) | (simp [*]; done)), H', ⟨by have := HJ2.out; have := HK2.out; omega⟩, by repeat (first | exact Drawn0.refl _ | apply Drawn0.step)⟩
                    · rw [if_neg c10] at H
                      have c10b0 : decide (127 < (rd l0 x7_2)) = false := decide_eq_false c10
                      clear c10
                      have H' := Aside0.mk H
                      clear H
                      have p213 : 0 ≤ (x7_2 : Int) := of_decide_eq_true (by first | (with_reducible assumption) | assumption)
                      have q213 : x7_2 < (l0.length : Int) := of_decide_eq_true (by first | (with_reducible assumption) | assumption)
                      obtain ⟨ad213, e213, hx213_0⟩ := Kd.at_int HR0.out x7_2 p213 q213
                      cases e213
                      replace p213 := eq_true p213
                      replace q213 := eq_true q213
                      go_wp2
                      go_meet
                      case rel => exact ⟨_, (x7_2), (by first | rfl | (simp; done) | (simp [*]; done)), H', ⟨by have := HJ2.out; have := HK2.out; first | omega | exact Nat.le_refl _⟩, by repeat (first | exact Drawn0.refl _ | apply Drawn0.step)⟩
                  · rw [if_neg c9] at H
                    exact absurd H (by simp)
                · rw [if_neg c8] at H
                  have c8b0 : decide ((wrap64 (x7_2 - a1)) < 9) = false := decide_eq_false c8
                  clear c8
                  have H' := Aside0.mk H
                  clear H
                  go_wp2
                  go_meet
                  case rel => exact ⟨_, (x7_2), (by first | rfl | (simp; done) | (simp [*]; done)), H', ⟨by have := HJ2.out; have := HK2.out; first | omega | exact Nat.le_refl _⟩, by repeat (first | exact Drawn0.refl _ | apply Drawn0.step)⟩
              · rw [if_neg c7] at H
                have c7b0 : decide (x7_2 < (l0.length : Int)) = false := decide_eq_false c7
                clear c7
                (first | rw [c7b0] | (simp only [i64_w, i32_w]; rw [c7b0]) | skip)
                have H' := Aside0.mk H
                clear H
                go_wp2
                go_meet
                case rel => exact ⟨_, (x7_2), (by first | rfl | (simp; done) | (simp [*]; done)), H', ⟨by have := HJ2.out; have := HK2.out; first | omega | exact Nat.le_refl _⟩, by repeat (first | exact Drawn0.refl _ | apply Drawn0.step)⟩
        case rest =>
          clear HC6
          try clear c1
          try clear c2
          try clear p2
          try clear q2
          try clear hx2
          try clear c4
          try clear c4b0
          try clear c5
          try clear p6
          try clear c7
          try clear c7b0
          try clear c8
          try clear c8b0
          try clear c9
          try clear c9b0
          try clear c10
          try clear c10b0
          try clear hx213_0
          try clear p2
          try clear p213
          try clear q213
          obtain ⟨kq, x7_5, rfl, HA, HJ5, ⟨mc5, rfl⟩⟩ := hcut
          cases kq with
          | zero => exact absurd HA.out (by simp [remoraref01_Get.j2])
          | succ kj5 =>
            have H := HA.out
            clear HA
            simp only [remoraref01_Get.j2] at H
            by_cases c11 : (wrap64 (x7_5 - a1)) = 9
            · rw [if_pos c11] at H
              have c11b0 : ((wrap64 (x7_5 - a1)) == 9) = true := beq_iff_eq.mpr c11
              have c11b1 : ((wrap64 (x7_5 - a1)) != 9) = false := bne_eq_false_iff_eq.mpr c11
              clear c11
              simp only [Option.some.injEq, Prod.mk.injEq] at H
              obtain ⟨rfl, rfl, rfl⟩ := H
              go_wp2
              go_ret3
              exact ⟨by first | rfl | (simp; done) | (simp [*]; done), by repeat (first | exact Drawn0.refl _ | apply Drawn0.step)⟩
            · rw [if_neg c11] at H
              have c11b0 : ((wrap64 (x7_5 - a1)) == 9) = false := beq_eq_false_iff_ne.mpr c11
              have c11b1 : ((wrap64 (x7_5 - a1)) != 9) = true := bne_iff_ne.mpr c11
              by_cases c12 : x7_5 = (l0.length : Int)
              · rw [if_pos c12] at H
                have c12b0 : (x7_5 == (l0.length : Int)) = true := beq_iff_eq.mpr c12
                have c12b1 : (x7_5 != (l0.length : Int)) = false := bne_eq_false_iff_eq.mpr c12
                clear c12
                simp only [Option.some.injEq, Prod.mk.injEq] at H
                obtain ⟨rfl, rfl, rfl⟩ := H
                go_wp2
                go_ret3
                exact ⟨by first | rfl | (simp; done) | (simp [*]; done), by repeat (first | exact Drawn0.refl _ | apply Drawn0.step)⟩
              · rw [if_neg c12] at H
                have c12b0 : (x7_5 == (l0.length : Int)) = false := beq_eq_false_iff_ne.mpr c12
                have c12b1 : (x7_5 != (l0.length : Int)) = true := bne_iff_ne.mpr c12
                have HC13 := Aside0.mk H
                clear H
                go_upto_region 10 with (fail)
                go_cut [55] (fun v55 wc => ∃ (kq : Nat) (x55_12 : Bool), v55 = .bool x55_12 ∧ Aside0 (remoraref01_Get.j3 kq l0 a1 x7_5 x55_12 = some (r1, r2, r3)) ∧ Aside0 (kq ≤ kj5) ∧ Drawn0 w wc)
                case first =>
                  have H := HC13.out
                  clear HC13
                  by_cases c14 : 0 ≤ x7_5
                  · rw [if_pos c14] at H
                    have c14b0 : decide (0 ≤ x7_5) = true := decide_eq_true c14
                    clear c14
                    (first | rw [c14b0] | (simp only [i64_w, i32_w]; rw [c14b0]) | skip)
                    by_cases c15 : x7_5 < (l0.length : Int)
                    · rw [if_pos c15] at H
                      have c15b0 : decide (x7_5 < (l0.length : Int)) = true := decide_eq_true c15
                      clear c15
                      by_cases c16 : (rd l0 x7_5) = 0
                      · rw [if_pos c16] at H
                        have c16b0 : ((rd l0 x7_5) == 0) = true := beq_iff_eq.mpr c16
                        have c16b1 : ((rd l0 x7_5) != 0) = false := bne_eq_false_iff_eq.mpr c16
                        clear c16
                        have H' := Aside0.mk H
                        clear H
                        have p214 : 0 ≤ (x7_5 : Int) := of_decide_eq_true (by first | (with_reducible assumption) | assumption)
                        have q214 : x7_5 < (l0.length : Int) := of_decide_eq_true (by first | (with_reducible assumption) | assumption)
                        obtain ⟨ad214, e214, hx214_0⟩ := Kd.at_int HR0.out x7_5 p214 q214
                        cases e214
                        replace p214 := eq_true p214
                        replace q214 := eq_true q214
                        go_wp2
                        go_meet
                        case rel => exact ⟨_, (decide (x7_5 > a1)), (by first | rfl | (simp; done) | (simp [*]; done)), H', ⟨by have := HJ2.out; have := HJ5.out; first | omega | exact Nat.le_refl _⟩, by repeat (first | exact Drawn0.refl _ | apply Drawn0.step)⟩
                      · rw [if_neg c16] at H
                        have c16b0 : ((rd l0 x7_5) == 0) = false := beq_eq_false_iff_ne.mpr c16
                        have c16b1 : ((rd l0 x7_5) != 0) = true := bne_iff_ne.mpr c16
                        have H' := Aside0.mk H
                        clear H
                        have p214 : 0 ≤ (x7_5 : Int) := of_decide_eq_true (by first | (with_reducible assumption) | assumption)
                        have q214 : x7_5 < (l0.length : Int) := of_decide_eq_true (by first | (with_reducible assumption) | assumption)
                        obtain ⟨ad214, e214, hx214_0⟩ := Kd.at_int HR0.out x7_5 p214 q214
                        cases e214
                        replace p214 := eq_true p214
                        replace q214 := eq_true q214
                        go_wp2
                        go_meet
                        case rel => exact ⟨_, (false), (by first | rfl | (simp; done) | (simp [*]; done)), H', ⟨by have := HJ2.out; have := HJ5.out; first | omega | exact Nat.le_refl _⟩, by repeat (first | exact Drawn0.refl _ | apply Drawn0.step)⟩
                    · rw [if_neg c15] at H
                      exact absurd H (by simp)
                  · rw [if_neg c14] at H
                    exact absurd H (by simp)
                case rest =>
                  clear HC13
                  try clear c1
                  try clear c2
                  try clear p2
                  try clear q2
                  try clear hx2
                  try clear c4
                  try clear c4b0
                  try clear c5
                  try clear p6
                  try clear c7
                  try clear c7b0
                  try clear c8
                  try clear c8b0
                  try clear c9
                  try clear c9b0
                  try clear c10
                  try clear c10b0
                  try clear c11
                  try clear c11b0
                  try clear c11b1
                  try clear c12
                  try clear c12b0
                  try clear c12b1
                  try clear c14
                  try clear c14b0
                  try clear c15
                  try clear c15b0
                  try clear c16
                  try clear c16b0
                  try clear c16b1
                  try clear hx213_0
                  try clear hx214_0
                  try clear p2
                  try clear p213
                  try clear p214
                  try clear p6
                  try clear q2
                  try clear q213
                  try clear q214
                  obtain ⟨kq, x55_12, rfl, HA, HJ12, ⟨mc12, rfl⟩⟩ := hcut
                  cases kq with
                  | zero => exact absurd HA.out (by simp [remoraref01_Get.j3])
                  | succ kj12 =>
                    have H := HA.out
                    clear HA
                    simp only [remoraref01_Get.j3] at H
                    by_cases c17 : x55_12 = true
                    · subst c17
                      have H1 : (some (0, 0, 5)) = some (r1, r2, r3) := by rw [if_pos rfl] at H; exact H
                      clear H
                      have H := H1
                      clear H1
                      simp only [Option.some.injEq, Prod.mk.injEq] at H
                      obtain ⟨rfl, rfl, rfl⟩ := H
                      go_wp2
                      go_ret3
                      exact ⟨by first | rfl | (simp; done) | (simp [*]; done), by repeat (first | exact Drawn0.refl _ | apply Drawn0.step)⟩
                    · replace c17 := Bool.eq_false_iff.mpr c17
                      subst c17
                      have H1 : (remoraref01_Get.l1 kj12 l0 a1 x7_5 0 x7_5) = some (r1, r2, r3) := by rw [if_neg (show ¬ (false = true) by decide)] at H; exact H
                      clear H
                      have H := H1
                      clear H1
                      have H' := Aside0.mk H
                      clear H
                      go_wp2
                      go_loopg [8, 9] kj12 (fun kq v8 v9 w' => ∃ (x8_4 : Int) (x9_4 : Int), v8 = .int .i64 x8_4 ∧ v9 = .int .i64 x9_4 ∧ Aside0 (remoraref01_Get.l1 kq l0 a1 x7_5 x8_4 x9_4 = some (r1, r2, r3)) ∧ Aside0 (kq ≤ kj12) ∧ Drawn0 w w')
                      case atStart => exact ⟨(0), (x7_5), (by first | rfl | (simp; done) | (simp [*]; done)), (by first | rfl | (simp; done) | (simp [*]; done)), H', ⟨Nat.le_refl _⟩, by repeat (first | exact Drawn0.refl _ | apply Drawn0.step)⟩
                      case round =>
                        clear H'
                        try clear c1
                        try clear c2
                        try clear p2
                        try clear q2
                        try clear hx2
                        try clear c4
                        try clear c4b0
                        try clear c5
                        try clear p6
                        try clear c7
                        try clear c7b0
                        try clear c8
                        try clear c8b0
                        try clear c9
                        try clear c9b0
                        try clear c10
                        try clear c10b0
                        try clear c11
                        try clear c11b0
                        try clear c11b1
                        try clear c12
                        try clear c12b0
                        try clear c12b1
                        try clear c14
                        try clear c14b0
                        try clear c15
                        try clear c15b0
                        try clear c16
                        try clear c16b0
                        try clear c16b1
                        try clear c17
                        try clear hx213_0
                        try clear hx214_0
                        try clear p2
                        try clear p213
                        try clear p214
                        try clear p6
                        try clear q2
                        try clear q213
                        try clear q214
                        obtain ⟨x8_4, x9_4, rfl, rfl, HA, HK4, ⟨m4, rfl⟩⟩ := hrel
                        cases gk with
                        | zero => exact absurd HA.out (by simp [remoraref01_Get.l1])
                        | succ k4 =>
                          have H := HA.out
                          clear HA
                          simp only [remoraref01_Get.l1] at H
                          by_cases c18 : x9_4 ≥ a1
                          · rw [if_pos c18] at H
                            have c18b0 : decide (a1 ≤ x9_4) = true := decide_eq_true c18
                            clear c18
                            by_cases c19 : x8_4 > 36028797018963967
                            · rw [if_pos c19] at H
                              have c19b0 : decide (36028797018963967 < x8_4) = true := decide_eq_true c19
                              clear c19
                              simp only [Option.some.injEq, Prod.mk.injEq] at H
                              obtain ⟨rfl, rfl, rfl⟩ := H
                              go_wp2
                              go_ret3
                              exact ⟨by first | rfl | (simp; done) | (simp [*]; done), by repeat (first | exact Drawn0.refl _ | apply Drawn0.step)⟩
                            · rw [if_neg c19] at H
                              have c19b0 : decide (36028797018963967 < x8_4) = false := decide_eq_false c19
                              clear c19
                              by_cases c20 : 0 ≤ x9_4
                              · rw [if_pos c20] at H
                                have c20b0 : decide (0 ≤ x9_4) = true := decide_eq_true c20
                                clear c20
                                by_cases c21 : x9_4 < (l0.length : Int)
                                · rw [if_pos c21] at H
                                  have c21b0 : decide (x9_4 < (l0.length : Int)) = true := decide_eq_true c21
                                  clear c21
                                  have H' := Aside0.mk H
                                  clear H
                                  have p215 : 0 ≤ (x9_4 : Int) := of_decide_eq_true (by first | (with_reducible assumption) | assumption)
                                  have q215 : x9_4 < (l0.length : Int) := of_decide_eq_true (by first | (with_reducible assumption) | assumption)
                                  obtain ⟨ad215, e215, hx215_0⟩ := Kd.at_int HR0.out x9_4 p215 q215
                                  cases e215
                                  replace p215 := eq_true p215
                                  replace q215 := eq_true q215
                                  go_wp2
                                  go_roundg k4
                                  case measure => have := HJ2.out; have := HJ5.out; have := HJ12.out; have := HK4.out; omega
                                  case rel => exact ⟨(wrap64 ((wrap64 (128 * x8_4)) + (wrap64 (Int.tmod (rd l0 x9_4) 128)))), (wrap64 (x9_4 - 1)), (by first | rfl | (simp; done) | (simp [*]; done)), (by first | rfl | (simp; done) | (simp [*]; done)), H', ⟨by have := HJ2.out; have := HJ5.out; have := HJ12.out; have := HK4.out; omega⟩, by repeat (first | exact Drawn0.refl _ | apply Drawn0.step)⟩
                                · rw [if_neg c21] at H
                                  exact absurd H (by simp)
                              · rw [if_neg c20] at H
                                exact absurd H (by simp)
                          · rw [if_neg c18] at H
                            have c18b0 : decide (a1 ≤ x9_4) = false := decide_eq_false c18
                            clear c18
                            by_cases c22 : x8_4 > 4611686018427387903
                            · rw [if_pos c22] at H
                              have c22b0 : decide (4611686018427387903 < x8_4) = true := decide_eq_true c22
                              clear c22
                              simp only [Option.some.injEq, Prod.mk.injEq] at H
                              obtain ⟨rfl, rfl, rfl⟩ := H
                              go_wp2
                              go_ret3
                              exact ⟨by first | rfl | (simp; done) | (simp [*]; done), by repeat (first | exact Drawn0.refl _ | apply Drawn0.step)⟩
                            · rw [if_neg c22] at H
                              have c22b0 : decide (4611686018427387903 < x8_4) = false := decide_eq_false c22
                              clear c22
                              simp only [Option.some.injEq, Prod.mk.injEq] at H
                              obtain ⟨rfl, rfl, rfl⟩ := H
                              go_wp2
                              go_ret3
                              exact ⟨by first | rfl | (simp; done) | (simp [*]; done), by repeat (first | exact Drawn0.refl _ | apply Drawn0.step)⟩

/-! ### remoraref32_Read: function 8, a contract of my own -/
set_option maxHeartbeats 2000000 in
theorem rref_bad (A0 : Option Addr) (c0 : Nat) (l O : List Int) (e : Int) (w : World) (ko : Nat) (hC : Kd.C (Kd.int .u8) w A0 l.length l) (hc0 : l.length ≤ c0) (ho : remoraref02_Open.f ko l = some (O, e)) (he : (e != 0) = true) :
    Calls Tryd.prog 8 #[.slice A0 l.length c0] w fun r w' => r = .returned (.tuple #[.agg off0, .int .i64 e]) ∧ Below w.heap.size w w' := by
  have HB0 := Aside0.mk (below_alloc (Below.refl _ w) (.cells off0 29))
  have u0 := fr_new w (.cells off0 29)
  have sz0 := fr_size w (.cells off0 29)
  have HC := Aside0.mk (Kd.C_alloc hC (.cells off0 29))
  have HO := Aside0.mk ho
  clear hC ho
  go_enter Tryd.func8, Tryd.ntmps8
  go_wp2_with fail
  refine (remoraref02_Open.calls ko A0 c0 l O e _ HC.out hc0 HO.out).mono ?_
  rintro r w1 ⟨v, rfl, hR, hb⟩
  obtain ⟨A1, c1, rfl, hc1, hC1⟩ := R_sl hR
  have u1 := (hb.block w.heap.size (by omega)).trans u0
  have hz := hb.size
  have f0 := fun j => blk_frozen u1 j
  have HB1 := Aside0.mk (below_step HB0.out hb)
  have U1 := Aside0.mk u1
  have c0_ : ∀ j, j < 5 → w1.cell? ⟨w.heap.size, j, none⟩ = some (.int .i64 0) := fun j hj => by
    rw [cell_of_row _ _ _ _ 29 (0, 0) u1]
    match j, hj with
    | 0, _ => rfl
    | 1, _ => rfl
    | 2, _ => rfl
    | 3, _ => rfl
    | 4, _ => rfl
  have d0 := c0_ 0 (by omega)
  have d1 := c0_ 1 (by omega)
  have d2 := c0_ 2 (by omega)
  have d3 := c0_ 3 (by omega)
  have d4 := c0_ 4 (by omega)
  have f0' := f0 0
  have f1' := f0 1
  have f2' := f0 2
  have f3' := f0 3
  have f4' := f0 4
  clear hb u1 u0 sz0 hR hC1 hz f0 c0_
  go_wp2
  refine bodyPost_ret (results_ct rfl _ _ w.heap.size 29 off0 (0, 0) _ rfl (blk_put (blk_put (blk_put (blk_put (blk_put U1.out 0 (.int .i64 0) rfl) 1 (.int .i64 0) rfl) 2 (.int .i64 0) rfl) 3 (.int .i64 0) rfl) 4 (.int .i64 0) rfl) Tryd.underlying29 rfl (by kernel_rfl)) rfl ?_
  exact ⟨rfl, below_set (below_set (below_set (below_set (below_set HB1.out (Nat.le_refl _)) (Nat.le_refl _)) (Nat.le_refl _)) (Nat.le_refl _)) (Nat.le_refl _)⟩

set_option maxHeartbeats 2000000 in
theorem rref_empty (A0 : Option Addr) (c0 : Nat) (l O : List Int) (w : World) (ko : Nat) (hC : Kd.C (Kd.int .u8) w A0 l.length l) (hc0 : l.length ≤ c0) (ho : remoraref02_Open.f ko l = some (O, 0)) (hO : O.length = 0) :
    Calls Tryd.prog 8 #[.slice A0 l.length c0] w fun r w' => r = .returned (.tuple #[.agg off0, .int .i64 5]) ∧ Below w.heap.size w w' := by
  have HB0 := Aside0.mk (below_alloc (Below.refl _ w) (.cells off0 29))
  have u0 := fr_new w (.cells off0 29)
  have sz0 := fr_size w (.cells off0 29)
  have HC := Aside0.mk (Kd.C_alloc hC (.cells off0 29))
  have HO := Aside0.mk ho
  clear hC ho
  go_enter Tryd.func8, Tryd.ntmps8
  go_wp2_with fail
  refine (remoraref02_Open.calls ko A0 c0 l O 0 _ HC.out hc0 HO.out).mono ?_
  rintro r w1 ⟨v, rfl, hR, hb⟩
  obtain ⟨A1, c1, rfl, hc1, hC1⟩ := R_sl hR
  have u1 := (hb.block w.heap.size (by omega)).trans u0
  have hz := hb.size
  have f0 := fun j => blk_frozen u1 j
  have HB1 := Aside0.mk (below_step HB0.out hb)
  have U1 := Aside0.mk u1
  have c0_ : ∀ j, j < 5 → w1.cell? ⟨w.heap.size, j, none⟩ = some (.int .i64 0) := fun j hj => by
    rw [cell_of_row _ _ _ _ 29 (0, 0) u1]
    match j, hj with
    | 0, _ => rfl
    | 1, _ => rfl
    | 2, _ => rfl
    | 3, _ => rfl
    | 4, _ => rfl
  have d0 := c0_ 0 (by omega)
  have d1 := c0_ 1 (by omega)
  have d2 := c0_ 2 (by omega)
  have d3 := c0_ 3 (by omega)
  have d4 := c0_ 4 (by omega)
  have f0' := f0 0
  have f1' := f0 1
  have f2' := f0 2
  have f3' := f0 3
  have f4' := f0 4
  have o1 : ((O.length : Int) == 0) = true := by rw [hO]; rfl
  have o2 : (O.length == 0) = true := by rw [hO]; rfl
  clear hO
  clear hb u1 u0 sz0 hR hC1 hz f0 c0_
  go_wp2
  refine bodyPost_ret (results_ct rfl _ _ w.heap.size 29 off0 (0, 0) _ rfl (blk_put (blk_put (blk_put (blk_put (blk_put U1.out 0 (.int .i64 0) rfl) 1 (.int .i64 0) rfl) 2 (.int .i64 0) rfl) 3 (.int .i64 0) rfl) 4 (.int .i64 0) rfl) Tryd.underlying29 rfl (by kernel_rfl)) rfl ?_
  exact ⟨rfl, below_set (below_set (below_set (below_set (below_set HB1.out (Nat.le_refl _)) (Nat.le_refl _)) (Nat.le_refl _)) (Nat.le_refl _)) (Nat.le_refl _)⟩


set_option maxHeartbeats 2000000 in
theorem rref_letter (A0 : Option Addr) (c0 : Nat) (l O : List Int) (w : World) (ko : Nat) (hC : Kd.C (Kd.int .u8) w A0 l.length l) (hc0 : l.length ≤ c0) (ho : remoraref02_Open.f ko l = some (O, 0)) (hO : 0 < O.length) (hL : (rd O 0 == 82) = false) :
    Calls Tryd.prog 8 #[.slice A0 l.length c0] w fun r w' => r = .returned (.tuple #[.agg off0, .int .i64 5]) ∧ Below w.heap.size w w' := by
  have HB0 := Aside0.mk (below_alloc (Below.refl _ w) (.cells off0 29))
  have u0 := fr_new w (.cells off0 29)
  have sz0 := fr_size w (.cells off0 29)
  have HC := Aside0.mk (Kd.C_alloc hC (.cells off0 29))
  have HO := Aside0.mk ho
  clear hC ho
  go_enter Tryd.func8, Tryd.ntmps8
  go_wp2_with fail
  refine (remoraref02_Open.calls ko A0 c0 l O 0 _ HC.out hc0 HO.out).mono ?_
  rintro r w1 ⟨v, rfl, hR, hb⟩
  obtain ⟨A1, c1, rfl, hc1, hC1⟩ := R_sl hR
  have u1 := (hb.block w.heap.size (by omega)).trans u0
  have hz := hb.size
  have f0 := fun j => blk_frozen u1 j
  have HB1 := Aside0.mk (below_step HB0.out hb)
  have U1 := Aside0.mk u1
  have c0_ : ∀ j, j < 5 → w1.cell? ⟨w.heap.size, j, none⟩ = some (.int .i64 0) := fun j hj => by
    rw [cell_of_row _ _ _ _ 29 (0, 0) u1]
    match j, hj with
    | 0, _ => rfl
    | 1, _ => rfl
    | 2, _ => rfl
    | 3, _ => rfl
    | 4, _ => rfl
  have d0 := c0_ 0 (by omega)
  have d1 := c0_ 1 (by omega)
  have d2 := c0_ 2 (by omega)
  have d3 := c0_ 3 (by omega)
  have d4 := c0_ 4 (by omega)
  have f0' := f0 0
  have f1' := f0 1
  have f2' := f0 2
  have f3' := f0 3
  have f4' := f0 4
  have o1 : ((O.length : Int) == 0) = false := by simp; intro h; rw [h] at hO; simp at hO
  have o2 : (O.length == 0) = false := by simp; intro h; rw [h] at hO; simp at hO
  have o3 : (rd O 0 != 82) = true := by simpa using hL
  have o4 : (0 < O.length) = True := eq_true hO
  obtain ⟨ad, rfl, hx⟩ := off_read hC1 hO
  generalize rd O 0 = x at hx hL o3
  clear hb u1 u0 sz0 hR hC1 hz f0 c0_
  go_wp2
  refine bodyPost_ret (results_ct rfl _ _ w.heap.size 29 off0 (0, 0) _ rfl (blk_put (blk_put (blk_put (blk_put (blk_put U1.out 0 (.int .i64 0) rfl) 1 (.int .i64 0) rfl) 2 (.int .i64 0) rfl) 3 (.int .i64 0) rfl) 4 (.int .i64 0) rfl) Tryd.underlying29 rfl (by kernel_rfl)) rfl ?_
  exact ⟨rfl, below_set (below_set (below_set (below_set (below_set HB1.out (Nat.le_refl _)) (Nat.le_refl _)) (Nat.le_refl _)) (Nat.le_refl _)) (Nat.le_refl _)⟩


set_option maxHeartbeats 2000000 in
theorem rref_main (A0 : Option Addr) (c0 : Nat) (l O : List Int) (w : World) (ko : Nat) (hC : Kd.C (Kd.int .u8) w A0 l.length l) (hc0 : l.length ≤ c0) (ho : remoraref02_Open.f ko l = some (O, 0)) (hO : 0 < O.length) (hL : rd O 0 = 82) (k : Nat) (vs : List Int) (af ef : Int) (hN : readN (remoraref01_Get.f k) O 5 1 = some (vs, af, ef)) (res : Array Value) (er : Int)
    (hres : (ef ≠ 0 ∧ res = off0 ∧ er = ef) ∨ (ef = 0 ∧ af < (O.length : Int) ∧ res = off0 ∧ er = 5) ∨ (ef = 0 ∧ ¬ af < (O.length : Int) ∧ ∃ c, remoraref32_Check.f (five vs 0) (five vs 1) (five vs 2) (five vs 3) (five vs 4) = some c ∧ ((c ≠ 0 ∧ res = off0 ∧ er = 2) ∨ (c = 0 ∧ res = fiveC vs ∧ er = 0)))) :
    Calls Tryd.prog 8 #[.slice A0 l.length c0] w fun r w' => r = .returned (.tuple #[.agg res, .int .i64 er]) ∧ Below w.heap.size w w' := by
  have HB0 := Aside0.mk (below_alloc (Below.refl _ w) (.cells off0 29))
  have u0 := fr_new w (.cells off0 29)
  have sz0 := fr_size w (.cells off0 29)
  have HC := Aside0.mk (Kd.C_alloc hC (.cells off0 29))
  have HO := Aside0.mk ho
  clear hC ho
  go_enter Tryd.func8, Tryd.ntmps8
  go_wp2_with fail
  refine (remoraref02_Open.calls ko A0 c0 l O 0 _ HC.out hc0 HO.out).mono ?_
  rintro r w1 ⟨v, rfl, hR, hb⟩
  obtain ⟨A1, c1, rfl, hc1, hC1⟩ := R_sl hR
  have u1 := (hb.block w.heap.size (by omega)).trans u0
  have hz := hb.size
  have HB1 := Aside0.mk (below_step HB0.out hb)
  have U1 := Aside0.mk u1
  have o1 : ((O.length : Int) == 0) = false := by simp; intro h; rw [h] at hO; simp at hO
  have o2 : (O.length == 0) = false := by simp; intro h; rw [h] at hO; simp at hO
  have o4 : (0 < O.length) = True := eq_true hO
  obtain ⟨ad, rfl, hx⟩ := off_read hC1 hO
  rw [hL] at hx
  have HN := Aside0.mk hN
  have HRES := Aside0.mk hres
  have HC1 := Aside0.mk hC1
  have HOL := Aside0.mk (show O.length ≤ 9223372036854775807 from by have := hC1.2.1; omega)
  have Hz1 := Aside0.mk (show w.heap.size < w1.heap.size by omega)
  have St0 := Aside0.mk (RdRf.start w1)
  clear hb u1 u0 sz0 hR hC1 hz hL hN hres hO
  go_wp2_with fail
  generalize w1.alloc (.cells off0 47) = w2 at St0 ⊢
  go_loopg [7, 8] 5 (fun g v7 v8 w' => ∃ (i : Nat) (pre rest : List Int) (a : Int), i ≤ 5 ∧ g = 5 - i ∧ v7 = .int .i64 a ∧ v8 = .int .i64 i ∧ Aside0 (pre.length = i) ∧ Aside0 (RdRf w1 pre w') ∧ Aside0 (readN (remoraref01_Get.f k) O (5 - i) a = some (rest, af, ef)) ∧ Aside0 (vs = pre ++ rest))
  case atStart => exact ⟨0, [], vs, 1, by omega, rfl, rfl, rfl, ⟨rfl⟩, St0, HN, ⟨rfl⟩⟩
  case round =>
    obtain ⟨i, pre, rest, a, hi, rfl, rfl, rfl, HL, HS, HR, HV⟩ := hrel
    by_cases hlt : i < 5
    · have e1 : decide ((i : Int) < 5) = true := decide_eq_true (by omega)
      have e2 : decide (i < 5) = true := decide_eq_true hlt
      have hq0 : (0 ≤ (i : Int)) = True := eq_true (by omega)
      have hq1 : ((i : Int) < 5) = True := eq_true (by omega)
      have hq2 : (i < 5) = True := eq_true hlt
      have HLT := Aside0.mk hlt
      have HC2 := Aside0.mk (Kd.C_below HC1.out HS.out.hB)
      obtain ⟨m, hm⟩ : ∃ m, 5 - i = m + 1 := ⟨4 - i, by omega⟩
      have hr := HR.out
      rw [hm] at hr
      unfold readN at hr
      obtain ⟨⟨x, nx, ew⟩, hg, hr⟩ := Option.bind_eq_some_iff.1 hr
      dsimp only at hr
      have HGE := Aside0.mk hg
      have HM := Aside0.mk hm
      have sz := HS.out.size
      clear hg hm hlt HR
      by_cases hw : ew = 0
      · rw [if_pos hw] at hr
        subst hw
        obtain ⟨⟨r1, r2, r3⟩, hr', he⟩ := Option.bind_eq_some_iff.1 hr
        simp only [Option.some.injEq, Prod.mk.injEq] at he
        obtain ⟨rfl, rfl, rfl⟩ := he
        have HR' := Aside0.mk hr'
        clear hr hr'
        go_wp2_with fail
        refine (remoraref01_Get.calls k (some ad) c1 O a x nx 0 _ HC2.out hc1 HGE.out).mono ?_
        rintro r w3 ⟨rfl, hd⟩
        have HS3 := Aside0.mk (HS.out.step hd.below)
        have f3 := blk_frozen HS3.out.hQ i
        have cc3 := HS3.out.cell i HLT.out
        clear hd HC2
        go_wp2
        have HS4 := Aside0.mk (HS3.out.put x (by rw [HL.out]; exact HLT.out))
        rw [HL.out] at HS4
        go_roundg (5 - (i + 1))
        case measure => have := HLT.out; omega
        case rel => exact ⟨i + 1, pre ++ [x], r1, nx, by have := HLT.out; omega, rfl, rfl, by simp, ⟨by rw [List.length_append, HL.out]; rfl⟩, HS4, ⟨by have := HM.out; rw [show 5 - (i + 1) = m by omega]; exact HR'.out⟩, ⟨by rw [HV.out]; simp⟩⟩
      · rw [if_neg hw] at hr
        simp only [Option.some.injEq, Prod.mk.injEq] at hr
        obtain ⟨rfl, rfl, rfl⟩ := hr
        have hw1 : (ew != 0) = true := by simpa using hw
        have hw2 : (ew == 0) = false := by simpa using hw
        obtain ⟨rfl, rfl⟩ : res = off0 ∧ er = ew := by
          rcases HRES.out with ⟨_, h1, h2⟩ | ⟨h, _⟩ | ⟨h, _⟩
          · exact ⟨h1, h2⟩
          · exact absurd h hw
          · exact absurd h hw
        clear hw
        go_wp2_with fail
        refine (remoraref01_Get.calls k (some ad) c1 O a x nx er _ HC2.out hc1 HGE.out).mono ?_
        rintro r w3 ⟨rfl, hd⟩
        have HS3 := Aside0.mk (HS.out.step hd.below)
        have U3 := Aside0.mk ((HS3.out.hB.block w.heap.size Hz1.out).trans U1.out)
        have HB3 := Aside0.mk (HB1.out.trans (HS3.out.hB.mono (Nat.le_of_lt Hz1.out)))
        have d0 := (off_cells U3.out).1
        have d1 := (off_cells U3.out).2.1
        have d2 := (off_cells U3.out).2.2.1
        have d3 := (off_cells U3.out).2.2.2.1
        have d4 := (off_cells U3.out).2.2.2.2
        have f0' := blk_frozen U3.out 0
        have f1' := blk_frozen U3.out 1
        have f2' := blk_frozen U3.out 2
        have f3' := blk_frozen U3.out 3
        have f4' := blk_frozen U3.out 4
        clear hd HC2
        go_wp2
        refine bodyPost_ret (results_ct rfl _ _ w.heap.size 29 off0 (0, 0) _ rfl (blk_put (blk_put (blk_put (blk_put (blk_put U3.out 0 (.int .i64 0) rfl) 1 (.int .i64 0) rfl) 2 (.int .i64 0) rfl) 3 (.int .i64 0) rfl) 4 (.int .i64 0) rfl) Tryd.underlying29 rfl (by kernel_rfl)) rfl ?_
        exact ⟨rfl, below_set (below_set (below_set (below_set (below_set HB3.out (Nat.le_refl _)) (Nat.le_refl _)) (Nat.le_refl _)) (Nat.le_refl _)) (Nat.le_refl _)⟩
    · obtain rfl : i = 5 := by omega
      have e1 : decide (((5 : Nat) : Int) < 5) = false := rfl
      have hr := HR.out
      rw [show 5 - 5 = 0 from rfl] at hr
      unfold readN at hr
      simp only [Option.some.injEq, Prod.mk.injEq] at hr
      obtain ⟨rfl, rfl, rfl⟩ := hr
      have hv := HV.out
      rw [List.append_nil] at hv
      subst hv
      have HB3 := Aside0.mk (HB1.out.trans (HS.out.hB.mono (Nat.le_of_lt Hz1.out)))
      have U3 := Aside0.mk ((HS.out.hB.block w.heap.size Hz1.out).trans U1.out)
      have x0 := HS.out.cell 0 (by omega)
      have x1 := HS.out.cell 1 (by omega)
      have x2 := HS.out.cell 2 (by omega)
      have x3 := HS.out.cell 3 (by omega)
      have x4 := HS.out.cell 4 (by omega)
      have hba := below_alloc (Below.refl _ wr) (.cells #[.int .i64 (five vs 0), .int .i64 (five vs 1), .int .i64 (five vs 2), .int .i64 (five vs 3), .int .i64 (five vs 4)] 29)
      have HB4 := Aside0.mk (below_step HB3.out hba)
      have U4 := Aside0.mk ((hba.block w.heap.size (blk_lt U3.out)).trans U3.out)
      have V4 := Aside0.mk (fr_new wr (.cells #[.int .i64 (five vs 0), .int .i64 (five vs 1), .int .i64 (five vs 2), .int .i64 (five vs 3), .int .i64 (five vs 4)] 29))
      have hne : w.heap.size ≠ wr.heap.size := Nat.ne_of_lt (blk_lt U3.out)
      clear hlt HR HV hi HL hba
      rcases HRES.out with ⟨h, _⟩ | ⟨_, ha, rfl, rfl⟩ | ⟨_, ha, c, hc, hres⟩
      · exact absurd rfl h
      · have a1 : decide (a < (O.length : Int)) = true := decide_eq_true ha
        clear ha
        have d0 := (off_cells U4.out).1
        have d1 := (off_cells U4.out).2.1
        have d2 := (off_cells U4.out).2.2.1
        have d3 := (off_cells U4.out).2.2.2.1
        have d4 := (off_cells U4.out).2.2.2.2
        have f0' := blk_frozen U4.out 0
        have f1' := blk_frozen U4.out 1
        have f2' := blk_frozen U4.out 2
        have f3' := blk_frozen U4.out 3
        have f4' := blk_frozen U4.out 4
        go_wp2
        refine bodyPost_ret (results_ct rfl _ _ w.heap.size 29 off0 (0, 0) _ rfl (blk_put (blk_put (blk_put (blk_put (blk_put U4.out 0 (.int .i64 0) rfl) 1 (.int .i64 0) rfl) 2 (.int .i64 0) rfl) 3 (.int .i64 0) rfl) 4 (.int .i64 0) rfl) Tryd.underlying29 rfl (by kernel_rfl)) rfl ?_
        exact ⟨rfl, below_set (below_set (below_set (below_set (below_set HB4.out (Nat.le_refl _)) (Nat.le_refl _)) (Nat.le_refl _)) (Nat.le_refl _)) (Nat.le_refl _)⟩
      · have a1 : decide (a < (O.length : Int)) = false := decide_eq_false (by omega)
        have HCK := Aside0.mk hc
        clear ha hc
        have z0 := five_cell (vs := vs) V4.out 0 (by omega)
        have z1 := five_cell (vs := vs) V4.out 1 (by omega)
        have z2 := five_cell (vs := vs) V4.out 2 (by omega)
        have z3 := five_cell (vs := vs) V4.out 3 (by omega)
        have z4 := five_cell (vs := vs) V4.out 4 (by omega)
        go_wp2_with fail
        refine (remoraref32_Check.calls _ _ _ _ _ c _ HCK.out).mono ?_
        rintro r w5 ⟨rfl, hb5⟩
        have HB5 := Aside0.mk (below_step HB4.out hb5)
        have U5 := Aside0.mk ((hb5.block w.heap.size (blk_lt U4.out)).trans U4.out)
        have V5 := Aside0.mk ((hb5.block wr.heap.size (blk_lt V4.out)).trans V4.out)
        have y0 := five_cell (vs := vs) V5.out 0 (by omega)
        have y1 := five_cell (vs := vs) V5.out 1 (by omega)
        have y2 := five_cell (vs := vs) V5.out 2 (by omega)
        have y3 := five_cell (vs := vs) V5.out 3 (by omega)
        have y4 := five_cell (vs := vs) V5.out 4 (by omega)
        have d0 := (off_cells U5.out).1
        have d1 := (off_cells U5.out).2.1
        have d2 := (off_cells U5.out).2.2.1
        have d3 := (off_cells U5.out).2.2.2.1
        have d4 := (off_cells U5.out).2.2.2.2
        have f0' := blk_frozen U5.out 0
        have f1' := blk_frozen U5.out 1
        have f2' := blk_frozen U5.out 2
        have f3' := blk_frozen U5.out 3
        have f4' := blk_frozen U5.out 4
        clear hb5 x0 x1 x2 x3 x4 z0 z1 z2 z3 z4
        rcases hres with ⟨hc0, rfl, rfl⟩ | ⟨rfl, rfl, rfl⟩
        · have c1_ : (c != 0) = true := by simpa using hc0
          have c2_ : (c == 0) = false := by simpa using hc0
          clear hc0
          go_wp2
          refine bodyPost_ret (results_ct rfl _ _ w.heap.size 29 off0 (0, 0) _ rfl (blk_put (blk_put (blk_put (blk_put (blk_put U5.out 0 (.int .i64 0) rfl) 1 (.int .i64 0) rfl) 2 (.int .i64 0) rfl) 3 (.int .i64 0) rfl) 4 (.int .i64 0) rfl) Tryd.underlying29 rfl (by kernel_rfl)) rfl ?_
          exact ⟨rfl, below_set (below_set (below_set (below_set (below_set HB5.out (Nat.le_refl _)) (Nat.le_refl _)) (Nat.le_refl _)) (Nat.le_refl _)) (Nat.le_refl _)⟩
        · go_wp2
          refine bodyPost_ret (results_ct rfl _ _ w.heap.size 29 (fiveC vs) (0, 0) _ rfl (blk_put (blk_put (blk_put (blk_put (blk_put U5.out 0 (.int .i64 (five vs 0)) rfl) 1 (.int .i64 (five vs 1)) rfl) 2 (.int .i64 (five vs 2)) rfl) 3 (.int .i64 (five vs 3)) rfl) 4 (.int .i64 (five vs 4)) rfl) Tryd.underlying29 rfl (by kernel_rfl)) rfl ?_
          exact ⟨rfl, below_set (below_set (below_set (below_set (below_set HB5.out (Nat.le_refl _)) (Nat.le_refl _)) (Nat.le_refl _)) (Nat.le_refl _)) (Nat.le_refl _)⟩

def remoraref32_Read.f (k : Nat) (l0 : List Int) : Option (Int × Int × Int × Int × Int × Int) :=
  (remoraref02_Open.f k l0).bind fun o => if o.2 = 0 then (if o.1.length = 0 then some (0, 0, 0, 0, 0, 5) else if rd o.1 0 = 82 then ((readN (remoraref01_Get.f k) o.1 5 1).bind fun r => if r.2.2 = 0 then (if r.2.1 < (o.1.length : Int) then some (0, 0, 0, 0, 0, 5) else
    ((remoraref32_Check.f (five r.1 0) (five r.1 1) (five r.1 2) (five r.1 3) (five r.1 4)).bind fun c => if c = 0 then some (five r.1 0, five r.1 1, five r.1 2, five r.1 3, five r.1 4, 0) else some (0, 0, 0, 0, 0, 2))) else some (0, 0, 0, 0, 0, r.2.2)) else some (0, 0, 0, 0, 0, 5)) else some (0, 0, 0, 0, 0, o.2)
theorem remoraref32_Read.monoN (k : Nat) (l : List Int) : ∀ (m : Nat) (a : Int), LeO (readN (remoraref01_Get.f k) l m a) (readN (remoraref01_Get.f (k + 1)) l m a)
  | 0, a => LeO.refl _
  | m + 1, a => by
    unfold readN
    refine LeO.bind (remoraref01_Get.mono _ _ _) (fun g => ?_)
    refine LeO.ite ?_ (LeO.refl _)
    exact LeO.bind (remoraref32_Read.monoN k l m _) (fun _ => LeO.refl _)
theorem remoraref32_Read.mono : ∀ a0 k, LeO (remoraref32_Read.f k a0) (remoraref32_Read.f (k + 1) a0) := by
  intro a0 k
  unfold remoraref32_Read.f
  refine LeO.bind (remoraref02_Open.mono _ _) (fun o => ?_)
  refine LeO.ite (LeO.ite (LeO.refl _) (LeO.ite ?_ (LeO.refl _))) (LeO.refl _)
  refine LeO.bind (remoraref32_Read.monoN k _ _ _) (fun r => LeO.refl _)
theorem remoraref32_Read.calls (k : Nat) (A0 : Option Addr) (c0 : Nat) (l0 : List Int) (r1 r2 r3 r4 r5 r6 : Int) (w : World) (hr0 : Kd.C (Kd.int .u8) w A0 l0.length l0) (hc0 : l0.length ≤ c0) (h : remoraref32_Read.f k l0 = some (r1, r2, r3, r4, r5, r6)) :
    Calls Tryd.prog 8 #[.slice A0 l0.length c0] w fun e w' => e = .returned (.tuple #[.agg #[.int .i64 r1, .int .i64 r2, .int .i64 r3, .int .i64 r4, .int .i64 r5], .int .i64 r6]) ∧ Below w.heap.size w w' := by
  unfold remoraref32_Read.f at h
  obtain ⟨⟨O, e⟩, ho, h⟩ := Option.bind_eq_some_iff.mp h
  dsimp only at h
  by_cases he : e = 0
  rotate_left
  · rw [if_neg he] at h
    simp only [Option.some.injEq, Prod.mk.injEq] at h
    obtain ⟨rfl, rfl, rfl, rfl, rfl, rfl⟩ := h
    exact rref_bad A0 c0 l0 O e w k hr0 hc0 ho (by simpa using he)
  subst he
  rw [if_pos rfl] at h
  by_cases h0 : O.length = 0
  · rw [if_pos h0] at h
    simp only [Option.some.injEq, Prod.mk.injEq] at h
    obtain ⟨rfl, rfl, rfl, rfl, rfl, rfl⟩ := h
    exact rref_empty A0 c0 l0 O w k hr0 hc0 ho h0
  rw [if_neg h0] at h
  by_cases hL : rd O 0 = 82
  rotate_left
  · rw [if_neg hL] at h
    simp only [Option.some.injEq, Prod.mk.injEq] at h
    obtain ⟨rfl, rfl, rfl, rfl, rfl, rfl⟩ := h
    exact rref_letter A0 c0 l0 O w k hr0 hc0 ho (by omega) (by simpa using hL)
  rw [if_pos hL] at h
  obtain ⟨⟨vs, af, ef⟩, hN, h⟩ := Option.bind_eq_some_iff.mp h
  dsimp only at h
  by_cases hf : ef = 0
  rotate_left
  · rw [if_neg hf] at h
    simp only [Option.some.injEq, Prod.mk.injEq] at h
    obtain ⟨rfl, rfl, rfl, rfl, rfl, rfl⟩ := h
    exact rref_main A0 c0 l0 O w k hr0 hc0 ho (by omega) hL k vs af ef hN off0 ef (.inl ⟨hf, rfl, rfl⟩)
  rw [if_pos hf] at h
  by_cases ha : af < (O.length : Int)
  · rw [if_pos ha] at h
    simp only [Option.some.injEq, Prod.mk.injEq] at h
    obtain ⟨rfl, rfl, rfl, rfl, rfl, rfl⟩ := h
    exact rref_main A0 c0 l0 O w k hr0 hc0 ho (by omega) hL k vs af ef hN off0 5 (.inr (.inl ⟨hf, ha, rfl, rfl⟩))
  rw [if_neg ha] at h
  obtain ⟨c, hc, h⟩ := Option.bind_eq_some_iff.mp h
  by_cases h1 : c = 0
  · rw [if_pos h1] at h
    simp only [Option.some.injEq, Prod.mk.injEq] at h
    obtain ⟨rfl, rfl, rfl, rfl, rfl, rfl⟩ := h
    exact rref_main A0 c0 l0 O w k hr0 hc0 ho (by omega) hL k vs af ef hN (fiveC vs) 0 (.inr (.inr ⟨hf, ha, c, hc, .inr ⟨h1, rfl, rfl⟩⟩))
  · rw [if_neg h1] at h
    simp only [Option.some.injEq, Prod.mk.injEq] at h
    obtain ⟨rfl, rfl, rfl, rfl, rfl, rfl⟩ := h
    exact rref_main A0 c0 l0 O w k hr0 hc0 ho (by omega) hL k vs af ef hN off0 (2) (.inr (.inr ⟨hf, ha, c, hc, .inl ⟨h1, rfl, rfl⟩⟩))


end Go.Proofs.YtgjmcjpgajlgoaaDoor.P
