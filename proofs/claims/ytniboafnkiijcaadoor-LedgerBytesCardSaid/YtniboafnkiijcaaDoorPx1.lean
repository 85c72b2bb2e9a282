-- Written by a program of the session (wip/tool/mk.py) out of the translation; Lean checks it.
import Derived.Test.YtniboafnkiijcaaDoorPx0
namespace Go.Proofs.YtniboafnkiijcaaDoor.P
open Go.RowKit Go.Proofs.YtniboafnkiijcaaDoorW.PrintWords Go.Proofs.YtniboafnkiijcaaDoorW.PrintLast Go.Proofs.YtniboafnkiijcaaDoorW.PrintMore
attribute [local go_sem] max2_int min2_int max_two min_two max_three min_three max_four min_four   -- for this text's walks alone
set_option linter.unusedVariables false
set_option linter.unusedSimpArgs false

-- NOT PRINTED: function 7 (ledger_New)

-- NOT PRINTED: function 8 (remoraref33_New)

/-! ### remoraref33_Small: function 9 -/
def remoraref33_Small.l0 : Nat → List (S39) → Int → Option (Bool)
  | 0, _, _ => none
  | k + 1, x0, x3 => if x3 < (x0.length : Int) then (if 0 ≤ x3 then (if (((rd_T39 x0 x3).f1).size : Int) > 600 then (some false) else (if (((rd_T39 x0 x3).f3).size : Int) > 100 then (some false) else (remoraref33_Small.l0 k x0 (wrap64 (x3 + 1))))) else (none)) else (some (decide ((x0.length : Int) ≤ 60)))
def remoraref33_Small.f (k : Nat) (l0 : List (S39)) : Option (Bool) := remoraref33_Small.l0 k l0 0
theorem remoraref33_Small.mono_l : ∀ k, (∀ y0 y1, LeO (remoraref33_Small.l0 k y0 y1) (remoraref33_Small.l0 (k + 1) y0 y1))
  | 0 => fun _ _ r h => by simp [remoraref33_Small.l0] at h
  | k + 1 => by
    have ih0 := remoraref33_Small.mono_l k
    · intro y0 y1
      unfold remoraref33_Small.l0
      repeat' first
      | (with_reducible exact ih0 _ _)
      | (with_reducible exact LeO.refl _)
      | (with_reducible exact LeO.none _)
      | (with_reducible refine LeO.ite ?_ ?_)
      | (with_reducible refine LeO.bind ?_ (fun _ => ?_))
      | exact ih0 _ _
      | exact LeO.none _
      | refine LeO.ite ?_ ?_
      | refine LeO.bind ?_ (fun _ => ?_)
theorem remoraref33_Small.mono : ∀ a0 k, LeO (remoraref33_Small.f k a0) (remoraref33_Small.f (k + 1) a0) := by
  intro a0 k
  have ih0 := remoraref33_Small.mono_l k
  unfold remoraref33_Small.f
  repeat' first
      | (with_reducible exact ih0 _ _)
      | (with_reducible exact LeO.refl _)
      | (with_reducible exact LeO.none _)
      | (with_reducible refine LeO.ite ?_ ?_)
      | (with_reducible refine LeO.bind ?_ (fun _ => ?_))
      | exact ih0 _ _
      | exact LeO.none _
      | refine LeO.ite ?_ ?_
      | refine LeO.bind ?_ (fun _ => ?_)
set_option maxHeartbeats 8000000 in
set_option maxRecDepth 100000 in
theorem remoraref33_Small.calls (k : Nat) (A0 : Option Addr) (c0 : Nat) (l0 : List (S39)) (r : Bool) (w : World) (hr0 : Kd.C k39 w A0 l0.length l0) (hc0 : l0.length ≤ c0) (h : remoraref33_Small.f k l0 = some r) :
    Calls Tryd.prog 9 #[.slice A0 l0.length c0] w fun e w' => e = .returned (.bool r) ∧ Drawn0 w w' := by
  have HR0 := Aside0.mk hr0
  have HC0 := Aside0.mk hc0
  clear hr0 hc0
  have H : (remoraref33_Small.l0 k l0 0) = some r := h
  clear h
  have H' := Aside0.mk H
  clear H
  go_enter Tryd.func9, Tryd.ntmps9
  go_wp2
  go_loopg [3] k (fun kq v3 w' => ∃ (x3_1 : Int), v3 = .int .i64 x3_1 ∧ Aside0 (remoraref33_Small.l0 kq l0 x3_1 = some r) ∧ Aside0 (kq ≤ k) ∧ Drawn0 w w')
  case atStart => exact ⟨(0), (by first | rfl | (simp; done) | (simp [*]; done)), H', ⟨Nat.le_refl _⟩, by repeat (first | exact Drawn0.refl _ | apply Drawn0.step)⟩
  case round =>
    clear H'
    obtain ⟨x3_1, rfl, HA, HK1, ⟨m1, rfl⟩⟩ := hrel
    cases gk with
    | zero => exact absurd HA.out (by simp [remoraref33_Small.l0])
    | succ k1 =>
      have H := HA.out
      clear HA
      simp only [remoraref33_Small.l0] at H
      by_cases c2 : x3_1 < (l0.length : Int)
      · rw [if_pos c2] at H
        have c2b0 : decide (x3_1 < (l0.length : Int)) = true := decide_eq_true c2
        clear c2
        by_cases c3 : 0 ≤ x3_1
        · rw [if_pos c3] at H
          have c3b0 : decide (0 ≤ x3_1) = true := decide_eq_true c3
          clear c3
          by_cases c4 : (((rd_T39 l0 x3_1).f1).size : Int) > 600
          · rw [if_pos c4] at H
            have c4b0 : decide (600 < (((rd_T39 l0 x3_1).f1).size : Int)) = true := decide_eq_true c4
            have c4b1 : decide (600 < ((rd_T39 l0 x3_1).f1).size) = true := decide_eq_true (by omega)
            clear c4
            obtain rfl := Option.some.inj H
            have p101 : 0 ≤ (x3_1 : Int) := of_decide_eq_true (by first | (with_reducible assumption) | assumption)
            have q101 : x3_1 < (l0.length : Int) := of_decide_eq_true (by first | (with_reducible assumption) | assumption)
            obtain ⟨ad101, e101, hx101_0, hx101_1, hx101_2, hx101_3, hx101_4, hx101_5, hx101_6, hx101_7, hx101_8, hx101_9, hx101_10, hx101_11, hx101_12⟩ := at_T39 HR0.out x3_1 p101 q101
            cases e101
            replace p101 := eq_true p101
            replace q101 := eq_true q101
            go_wp2
            go_ret
            exact ⟨by first | rfl | (simp; done) | (simp [*]; done), by repeat (first | exact Drawn0.refl _ | apply Drawn0.step)⟩
          · rw [if_neg c4] at H
            have c4b0 : decide (600 < (((rd_T39 l0 x3_1).f1).size : Int)) = false := decide_eq_false c4
            have c4b1 : decide (600 < ((rd_T39 l0 x3_1).f1).size) = false := decide_eq_false (by omega)
            clear c4
            by_cases c5 : (((rd_T39 l0 x3_1).f3).size : Int) > 100
            · rw [if_pos c5] at H
              have c5b0 : decide (100 < (((rd_T39 l0 x3_1).f3).size : Int)) = true := decide_eq_true c5
              have c5b1 : decide (100 < ((rd_T39 l0 x3_1).f3).size) = true := decide_eq_true (by omega)
              clear c5
              obtain rfl := Option.some.inj H
              have p101 : 0 ≤ (x3_1 : Int) := of_decide_eq_true (by first | (with_reducible assumption) | assumption)
              have q101 : x3_1 < (l0.length : Int) := of_decide_eq_true (by first | (with_reducible assumption) | assumption)
              obtain ⟨ad101, e101, hx101_0, hx101_1, hx101_2, hx101_3, hx101_4, hx101_5, hx101_6, hx101_7, hx101_8, hx101_9, hx101_10, hx101_11, hx101_12⟩ := at_T39 HR0.out x3_1 p101 q101
              cases e101
              replace p101 := eq_true p101
              replace q101 := eq_true q101
              have p102 : 0 ≤ (x3_1 : Int) := of_decide_eq_true (by first | (with_reducible assumption) | assumption)
              have q102 : x3_1 < (l0.length : Int) := of_decide_eq_true (by first | (with_reducible assumption) | assumption)
              obtain ⟨ad102, e102, hx102_0, hx102_1, hx102_2, hx102_3, hx102_4, hx102_5, hx102_6, hx102_7, hx102_8, hx102_9, hx102_10, hx102_11, hx102_12⟩ := at_T39 HR0.out x3_1 p102 q102
              obtain rfl : ad101 = ad102 := (by injection e102)
              replace p102 := eq_true p102
              replace q102 := eq_true q102
              go_wp2
              go_ret
              exact ⟨by first | rfl | (simp; done) | (simp [*]; done), by repeat (first | exact Drawn0.refl _ | apply Drawn0.step)⟩
            · rw [if_neg c5] at H
              have c5b0 : decide (100 < (((rd_T39 l0 x3_1).f3).size : Int)) = false := decide_eq_false c5
              have c5b1 : decide (100 < ((rd_T39 l0 x3_1).f3).size) = false := decide_eq_false (by omega)
              clear c5
              have H' := Aside0.mk H
              clear H
              have p101 : 0 ≤ (x3_1 : Int) := of_decide_eq_true (by first | (with_reducible assumption) | assumption)
              have q101 : x3_1 < (l0.length : Int) := of_decide_eq_true (by first | (with_reducible assumption) | assumption)
              obtain ⟨ad101, e101, hx101_0, hx101_1, hx101_2, hx101_3, hx101_4, hx101_5, hx101_6, hx101_7, hx101_8, hx101_9, hx101_10, hx101_11, hx101_12⟩ := at_T39 HR0.out x3_1 p101 q101
              cases e101
              replace p101 := eq_true p101
              replace q101 := eq_true q101
              have p102 : 0 ≤ (x3_1 : Int) := of_decide_eq_true (by first | (with_reducible assumption) | assumption)
              have q102 : x3_1 < (l0.length : Int) := of_decide_eq_true (by first | (with_reducible assumption) | assumption)
              obtain ⟨ad102, e102, hx102_0, hx102_1, hx102_2, hx102_3, hx102_4, hx102_5, hx102_6, hx102_7, hx102_8, hx102_9, hx102_10, hx102_11, hx102_12⟩ := at_T39 HR0.out x3_1 p102 q102
              obtain rfl : ad101 = ad102 := (by injection e102)
              replace p102 := eq_true p102
              replace q102 := eq_true q102
              go_wp2
              go_roundg k1
              case measure => have := HK1.out; omega
              case rel => exact ⟨(wrap64 (x3_1 + 1)), (by first | rfl | (simp; done) | (simp [*]; done)), H', ⟨by have := HK1.out; omega⟩, by repeat (first | exact Drawn0.refl _ | apply Drawn0.step)⟩
        · rw [if_neg c3] at H
          exact absurd H (by simp)
      · rw [if_neg c2] at H
        have c2b0 : decide (x3_1 < (l0.length : Int)) = false := decide_eq_false c2
        clear c2
        obtain rfl := Option.some.inj H
        go_wp2
        go_ret
        exact ⟨by first | rfl | (simp; done) | (simp [*]; done), by repeat (first | exact Drawn0.refl _ | apply Drawn0.step)⟩

/-! ### remoraref17_Texts: function 17 -/
def remoraref17_Texts.l0 : Nat → List ByteArray → List ByteArray → Int → Option (Bool)
  | 0, _, _, _ => none
  | k + 1, x0, x1, x5 => if x5 < (x0.length : Int) then (if 0 ≤ x5 then (if x5 < (x1.length : Int) then (if (rdOf ByteArray.empty x0 x5).toList = (rdOf ByteArray.empty x1 x5).toList then (remoraref17_Texts.l0 k x0 x1 (wrap64 (x5 + 1))) else (some false)) else (none)) else (none)) else (some true)
def remoraref17_Texts.f (k : Nat) (l0 : List ByteArray) (l1 : List ByteArray) : Option (Bool) := if (l0.length : Int) = (l1.length : Int) then (remoraref17_Texts.l0 k l0 l1 0) else (some false)
theorem remoraref17_Texts.mono_l : ∀ k, (∀ y0 y1 y2, LeO (remoraref17_Texts.l0 k y0 y1 y2) (remoraref17_Texts.l0 (k + 1) y0 y1 y2))
  | 0 => fun _ _ _ r h => by simp [remoraref17_Texts.l0] at h
  | k + 1 => by
    have ih0 := remoraref17_Texts.mono_l k
    · intro y0 y1 y2
      unfold remoraref17_Texts.l0
      repeat' first
      | (with_reducible exact ih0 _ _ _)
      | (with_reducible exact LeO.refl _)
      | (with_reducible exact LeO.none _)
      | (with_reducible refine LeO.ite ?_ ?_)
      | (with_reducible refine LeO.bind ?_ (fun _ => ?_))
      | exact ih0 _ _ _
      | exact LeO.none _
      | refine LeO.ite ?_ ?_
      | refine LeO.bind ?_ (fun _ => ?_)
theorem remoraref17_Texts.mono : ∀ a0 a1 k, LeO (remoraref17_Texts.f k a0 a1) (remoraref17_Texts.f (k + 1) a0 a1) := by
  intro a0 a1 k
  have ih0 := remoraref17_Texts.mono_l k
  unfold remoraref17_Texts.f
  repeat' first
      | (with_reducible exact ih0 _ _ _)
      | (with_reducible exact LeO.refl _)
      | (with_reducible exact LeO.none _)
      | (with_reducible refine LeO.ite ?_ ?_)
      | (with_reducible refine LeO.bind ?_ (fun _ => ?_))
      | exact ih0 _ _ _
      | exact LeO.none _
      | refine LeO.ite ?_ ?_
      | refine LeO.bind ?_ (fun _ => ?_)
set_option maxHeartbeats 8000000 in
set_option maxRecDepth 100000 in
theorem remoraref17_Texts.calls (k : Nat) (A0 : Option Addr) (c0 : Nat) (l0 : List ByteArray) (A1 : Option Addr) (c1 : Nat) (l1 : List ByteArray) (r : Bool) (w : World) (hr0 : Kd.C Kd.string w A0 l0.length l0) (hc0 : l0.length ≤ c0) (hr1 : Kd.C Kd.string w A1 l1.length l1) (hc1 : l1.length ≤ c1) (h : remoraref17_Texts.f k l0 l1 = some r) :
    Calls Tryd.prog 17 #[.slice A0 l0.length c0, .slice A1 l1.length c1] w fun e w' => e = .returned (.bool r) ∧ Drawn0 w w' := by
  have HR0 := Aside0.mk hr0
  have HC0 := Aside0.mk hc0
  clear hr0 hc0
  have HR1 := Aside0.mk hr1
  have HC1 := Aside0.mk hc1
  clear hr1 hc1
  have H : (if (l0.length : Int) = (l1.length : Int) then (remoraref17_Texts.l0 k l0 l1 0) else (some false)) = some r := h
  clear h
  by_cases c3 : (l0.length : Int) = (l1.length : Int)
  · rw [if_pos c3] at H
    have c3b0 : ((l0.length : Int) == (l1.length : Int)) = true := beq_iff_eq.mpr c3
    have c3b1 : ((l0.length : Int) != (l1.length : Int)) = false := bne_eq_false_iff_eq.mpr c3
    have c3b2 : (l0.length == l1.length) = true := by first | simpa using c3 | (simp at c3 ⊢; omega)
    clear c3
    have H' := Aside0.mk H
    clear H
    go_enter Tryd.func17, Tryd.ntmps17
    go_wp2
    repeat (go_quiet (fail); try go_wp2)
    go_loopg [5] k (fun kq v5 w' => ∃ (x5_1 : Int), v5 = .int .i64 x5_1 ∧ Aside0 (remoraref17_Texts.l0 kq l0 l1 x5_1 = some r) ∧ Aside0 (kq ≤ k) ∧ Drawn0 w w')
    case atStart => exact ⟨(0), (by first | rfl | (simp; done) | (simp [*]; done)), H', ⟨Nat.le_refl _⟩, by repeat (first | exact Drawn0.refl _ | apply Drawn0.step)⟩
    case round =>
      clear H'
      try clear c1
      try clear p2
      try clear c3
      try clear c3b0
      try clear c3b1
      try clear c3b2
      obtain ⟨x5_1, rfl, HA, HK1, ⟨m1, rfl⟩⟩ := hrel
      cases gk with
      | zero => exact absurd HA.out (by simp [remoraref17_Texts.l0])
      | succ k1 =>
        have H := HA.out
        clear HA
        simp only [remoraref17_Texts.l0] at H
        by_cases c4 : x5_1 < (l0.length : Int)
        · rw [if_pos c4] at H
          have c4b0 : decide (x5_1 < (l0.length : Int)) = true := decide_eq_true c4
          clear c4
          by_cases c5 : 0 ≤ x5_1
          · rw [if_pos c5] at H
            have c5b0 : decide (0 ≤ x5_1) = true := decide_eq_true c5
            clear c5
            by_cases c6 : x5_1 < (l1.length : Int)
            · rw [if_pos c6] at H
              have c6b0 : decide (x5_1 < (l1.length : Int)) = true := decide_eq_true c6
              clear c6
              by_cases c7 : (rdOf ByteArray.empty l0 x5_1).toList = (rdOf ByteArray.empty l1 x5_1).toList
              · rw [if_pos c7] at H
                have c7b0 : ((rdOf ByteArray.empty l0 x5_1).toList == (rdOf ByteArray.empty l1 x5_1).toList) = true := beq_iff_eq.mpr c7
                have c7b1 : ((rdOf ByteArray.empty l0 x5_1).toList != (rdOf ByteArray.empty l1 x5_1).toList) = false := bne_eq_false_iff_eq.mpr c7
                clear c7
                have H' := Aside0.mk H
                clear H
                have p103 : 0 ≤ (x5_1 : Int) := of_decide_eq_true (by first | (with_reducible assumption) | assumption)
                have q103 : x5_1 < (l0.length : Int) := of_decide_eq_true (by first | (with_reducible assumption) | assumption)
                obtain ⟨ad103, e103, hx103_0⟩ := Kd.at_string HR0.out x5_1 p103 q103
                cases e103
                replace p103 := eq_true p103
                replace q103 := eq_true q103
                have p104 : 0 ≤ (x5_1 : Int) := of_decide_eq_true (by first | (with_reducible assumption) | assumption)
                have q104 : x5_1 < (l1.length : Int) := of_decide_eq_true (by first | (with_reducible assumption) | assumption)
                obtain ⟨ad104, e104, hx104_0⟩ := Kd.at_string HR1.out x5_1 p104 q104
                cases e104
                replace p104 := eq_true p104
                replace q104 := eq_true q104
                go_wp2
                repeat (go_quiet (fail); try go_wp2)
                go_roundg k1
                case measure => have := HK1.out; omega
                case rel => exact ⟨(wrap64 (x5_1 + 1)), (by first | rfl | (simp; done) | (simp [*]; done)), H', ⟨by have := HK1.out; omega⟩, by repeat (first | exact Drawn0.refl _ | apply Drawn0.step)⟩
              · rw [if_neg c7] at H
                have c7b0 : ((rdOf ByteArray.empty l0 x5_1).toList == (rdOf ByteArray.empty l1 x5_1).toList) = false := beq_eq_false_iff_ne.mpr c7
                have c7b1 : ((rdOf ByteArray.empty l0 x5_1).toList != (rdOf ByteArray.empty l1 x5_1).toList) = true := bne_iff_ne.mpr c7
                obtain rfl := Option.some.inj H
                have p103 : 0 ≤ (x5_1 : Int) := of_decide_eq_true (by first | (with_reducible assumption) | assumption)
                have q103 : x5_1 < (l0.length : Int) := of_decide_eq_true (by first | (with_reducible assumption) | assumption)
                obtain ⟨ad103, e103, hx103_0⟩ := Kd.at_string HR0.out x5_1 p103 q103
                cases e103
                replace p103 := eq_true p103
                replace q103 := eq_true q103
                have p104 : 0 ≤ (x5_1 : Int) := of_decide_eq_true (by first | (with_reducible assumption) | assumption)
                have q104 : x5_1 < (l1.length : Int) := of_decide_eq_true (by first | (with_reducible assumption) | assumption)
                obtain ⟨ad104, e104, hx104_0⟩ := Kd.at_string HR1.out x5_1 p104 q104
                cases e104
                replace p104 := eq_true p104
                replace q104 := eq_true q104
                go_wp2
                repeat (go_quiet (fail); try go_wp2)
                go_ret
                exact ⟨by first | rfl | (simp; done) | (simp [*]; done), by repeat (first | exact Drawn0.refl _ | apply Drawn0.step)⟩
            · rw [if_neg c6] at H
              exact absurd H (by simp)
          · rw [if_neg c5] at H
            exact absurd H (by simp)
        · rw [if_neg c4] at H
          have c4b0 : decide (x5_1 < (l0.length : Int)) = false := decide_eq_false c4
          clear c4
          obtain rfl := Option.some.inj H
          go_wp2
          repeat (go_quiet (fail); try go_wp2)
          go_ret
          exact ⟨by first | rfl | (simp; done) | (simp [*]; done), by repeat (first | exact Drawn0.refl _ | apply Drawn0.step)⟩
  · rw [if_neg c3] at H
    have c3b0 : ((l0.length : Int) == (l1.length : Int)) = false := beq_eq_false_iff_ne.mpr c3
    have c3b1 : ((l0.length : Int) != (l1.length : Int)) = true := bne_iff_ne.mpr c3
    have c3b2 : (l0.length == l1.length) = false := by first | simpa using c3 | (simp at c3 ⊢; omega)
    obtain rfl := Option.some.inj H
    go_enter Tryd.func17, Tryd.ntmps17
    go_wp2
    repeat (go_quiet (fail); try go_wp2)
    go_ret
    exact ⟨by first | rfl | (simp; done) | (simp [*]; done), by repeat (first | exact Drawn0.refl _ | apply Drawn0.step)⟩

-- NOT PRINTED: function 18 (ledger_Ledger_Paths)

-- NOT PRINTED: function 52 (ledger_line_out)

-- NOT PRINTED: function 42 (ledger_line_last)

/-! ### path_Split: function 71, a contract of my own -/
theorem ld_info9 : (Tryd.prog.info? 9).map (fun i => (i.zero, i.size, i.bytes)) = some (some (.string ⟨#[]⟩), 1, 16) := by kernel_rfl
theorem R_iterAt {α : Type} {d : Kd α} {e : Nat} {w : World} {b : Nat} {ok : Nat → Prop} {v : Value} {xs : List α} (h : Kd.R d e w b ok v xs) (k : Nat) (s : ByteArray) (pos : Nat) (hk : ∀ j, ok j → j ≠ k) : Kd.R d e (w.iterAt k s pos) b ok v xs :=
  Kd.R_step h (fun j ho _ => Lib.iterAt_other w k j s pos (hk j ho))
/-- The parts of a text, from a place on: pos the place, fr where the part begins. -/
def spl (s : ByteArray) : Nat → Nat → Nat → List ByteArray → List ByteArray
  | 0, _, fr, acc => acc ++ [s.extract fr s.size]
  | q + 1, pos, fr, acc => if pos < s.size then (if (Utf8.decode s pos).1 = 47 then spl s q (pos + (Utf8.decode s pos).2) (pos + 1) (acc ++ [s.extract fr pos]) else spl s q (pos + (Utf8.decode s pos).2) fr acc) else acc ++ [s.extract fr s.size]
theorem spl_end (s : ByteArray) (q pos fr : Nat) (acc : List ByteArray) (h : ¬ pos < s.size) : spl s q pos fr acc = acc ++ [s.extract fr s.size] := by
  cases q with
  | zero => rfl
  | succ q => rw [spl, if_neg h]
def splitF (s : ByteArray) : List ByteArray := if s.toList = [] then [] else spl s s.size 0 0 []
theorem dec_pos (s : ByteArray) (pos : Nat) (h : pos < s.size) : 1 ≤ (Utf8.decode s pos).2 := by
  by_cases ha : (s[pos]'h).toNat < 128
  · rw [decode_ascii s pos h ha]
    exact Nat.le_refl _
  · exact (decode_high s pos h (by omega)).2
set_option maxHeartbeats 4000000 in
set_option maxRecDepth 20000 in
theorem path_Split.at_ (s : ByteArray) (hs : s.size ≤ 1000000) (w : World) :
    Calls Tryd.prog 71 #[.string s] w fun e w' => ∃ v, e = .returned v ∧ Kd.R Kd.string 9 w' w.heap.size (fun _ => True) v (splitF s) ∧ Below w.heap.size w w' := by
  unfold splitF
  by_cases h0 : s.toList = []
  · have h0' : s.toList.isEmpty = true := by rw [h0]; rfl
    rw [if_pos h0]
    clear h0
    go_enter Tryd.func71, Tryd.ntmps71
    go_wp2
    go_ret
    exact ⟨_, rfl, Kd.R_nil _ _ _ _ _, Below.refl _ _⟩
  have h0' : s.toList.isEmpty = false := by simpa using h0
  rw [if_neg h0]
  have HS := Aside0.mk hs
  obtain ⟨k0, hk0⟩ : ∃ k0, w.heap.size = k0 := ⟨_, rfl⟩
  clear h0 hs
  go_enter Tryd.func71, Tryd.ntmps71
  go_wp2
  have HI0 : Aside0 ((w.iter s 0).heap[k0]? = some (.stringIter s 0)) := ⟨by rw [← hk0]; exact World.iter_heap w s 0⟩
  have HB0 : Aside0 (Below k0 w (w.iter s 0)) := ⟨by rw [← hk0]; exact below_alloc (Below.refl _ w) (.stringIter s 0)⟩
  have HK := Aside0.mk hk0
  go_loopg [3, 4, 5, 6] s.size (fun g v3 v4 v5 v6 w' => ∃ (pos fr q : Nat) (acc : List ByteArray), g = s.size - pos ∧ v4 = .int .i64 fr ∧ Aside0 (fr ≤ pos ∧ s.size - pos ≤ q ∧ acc.length ≤ fr ∧ fr ≤ s.size) ∧ Aside0 (spl s q pos fr acc = spl s s.size 0 0 []) ∧ Aside0 (w'.heap[k0]? = some (.stringIter s pos)) ∧ Aside0 (Kd.R Kd.string 9 w' k0 (fun j => j ≠ k0) v3 acc) ∧ Aside0 (Below k0 w w'))
  case atStart => exact ⟨0, 0, s.size, [], rfl, rfl, ⟨Nat.le_refl _, by omega, Nat.le_refl _, Nat.zero_le _⟩, ⟨rfl⟩, HI0, ⟨Kd.R_nil _ _ _ _ _⟩, HB0⟩
  case round =>
    clear HI0 HB0
    obtain ⟨pos, fr, q, acc, rfl, rfl, HP, HQ, HI, HR, HB⟩ := hrel
    by_cases hp : pos < s.size
    · have hnx : ∀ ty, (Instr.next (.pointer (some ⟨k0, 0, none⟩)) true ty).run Tryd.prog wr = _ := fun ty => Lib.run_next_any_at wr k0 s pos ty HI.out hp
      have hwd := dec_pos s pos hp
      have hq : spl s q pos fr acc = (if (Utf8.decode s pos).1 = 47 then spl s (q - 1) (pos + (Utf8.decode s pos).2) (pos + 1) (acc ++ [s.extract fr pos]) else spl s (q - 1) (pos + (Utf8.decode s pos).2) fr acc) := by
        obtain ⟨q', rfl⟩ : ∃ q', q = q' + 1 := ⟨q - 1, by have := HP.out; omega⟩
        rw [spl, if_pos hp, Nat.add_sub_cancel]
      rw [HQ.out] at hq
      generalize Utf8.decode s pos = cw at hnx hwd hq
      obtain ⟨c, wd⟩ := cw
      dsimp only at hnx hwd hq
      have HW := Aside0.mk (And.intro hp hwd)
      have HI2 := Aside0.mk (Lib.iterAt_heap wr k0 s pos (pos + wd) HI.out)
      have HR2 := Aside0.mk (R_iterAt HR.out k0 s (pos + wd) (fun j hj => hj))
      have HB2 := Aside0.mk (Lib.below_iterAt HB.out (Nat.le_refl _) s (pos + wd))
      clear hp hwd
      by_cases c1 : c = 47
      · have e1 : ((c : Int) == 47) = true := beq_iff_eq.mpr (by omega)
        rw [if_pos c1] at hq
        have HQ2 := Aside0.mk hq
        clear hq c1
        obtain ⟨f2, hf2⟩ : ∃ f2 : Nat, f2 = pos + 1 := ⟨_, rfl⟩
        have hadd : wrap64 ((pos : Int) + 1) = (f2 : Int) := by have := HW.out; have := HS.out; unfold wrap64; omega
        have HF2 := Aside0.mk hf2
        have hsl : ∀ W : World, (Instr.slice 9 (.string s) (some (.int .i64 (fr : Int))) (some (.int .i64 (pos : Int))) none).run Tryd.prog W = .ok (.string (s.extract fr pos)) W := fun W => by
          have := run_slice_string (P := Tryd.prog) W 9 s .i64 .i64 (fr : Int) (pos : Int) Tryd.underlying9 (by omega) (by have := HP.out; omega) (by have := HW.out; omega)
          simpa using this
        have HL : Aside0 ((acc.length + 1) * 16 ≤ 140737488355328) := ⟨by have := HP.out; have := HS.out; omega⟩
        have HLT : Aside0 (k0 < (wr.iterAt k0 s (pos + wd)).heap.size) := ⟨blk_lt HI2.out⟩
        have HBS : Aside0 (Below k0 w (wr.iterAt k0 s (pos + wd))) := HB2
        clear hf2
        go_wp2_with (first | ((with_reducible refine gate_builtin (b := .append) (xs := #[.tmp 17, .tmp 22]) rfl ?_); at_builtin; refine Kd.R_append Kd.string (w0 := w) k0 rfl (.tmp 17) (.tmp 22) 46 9 (.string ⟨#[]⟩) 16 rfl Tryd.underlying46 ld_info9 rfl (by decide) (by omega) u3 acc (s.extract fr pos) [.string (s.extract fr pos)] (fun j => j ≠ k0) (fun _ => False) rfl rfl rfl (fun _ hk => hk.elim) (fun j hj => by have := HLT.out; omega) HR2.out HB2.out (Nat.le_of_lt HLT.out) HL.out ?_; intro v9 w9 ho9 hb9 hg9 ha9; clear ha9))
        have HR9 := Aside0.mk ho9
        have HB9 := Aside0.mk hb9
        have HI9 := Aside0.mk ((hg9.block k0 HLT.out (fun e => HR2.out.1 k0 e.symm rfl)).trans HI2.out)
        clear ho9 hb9 hg9
        go_wp2
        go_roundg (s.size - (pos + wd))
        case measure => have := HW.out; omega
        case rel => exact ⟨pos + wd, f2, q - 1, acc ++ [s.extract fr pos], rfl, by first | rfl | rw [hadd], ⟨by have := HP.out; have := HW.out; have := HF2.out; simp only [List.length_append, List.length_cons, List.length_nil]; omega⟩, ⟨by rw [HF2.out]; exact HQ2.out.symm⟩, HI9, HR9, HB9⟩
      · have e1 : ((c : Int) == 47) = false := beq_eq_false_iff_ne.mpr (by omega)
        rw [if_neg c1] at hq
        have HQ2 := Aside0.mk hq
        clear hq c1
        go_wp2
        go_roundg (s.size - (pos + wd))
        case measure => have := HW.out; omega
        case rel => exact ⟨pos + wd, fr, q - 1, acc, rfl, rfl, ⟨by have := HP.out; have := HW.out; omega⟩, ⟨HQ2.out.symm⟩, HI2, HR2, HB2⟩
    · have hnx : ∀ ty, (Instr.next (.pointer (some ⟨k0, 0, none⟩)) true ty).run Tryd.prog wr = _ := fun ty => Lib.run_next_end_at wr k0 s pos ty HI.out hp
      have hq := HQ.out
      rw [spl_end _ _ _ _ _ hp] at hq
      have HQ2 := Aside0.mk hq
      clear hp hq HQ
      have hsl : ∀ W : World, (Instr.slice 9 (.string s) (some (.int .i64 (fr : Int))) none none).run Tryd.prog W = .ok (.string (s.extract fr s.size)) W := fun W => by
        have := run_slice_string_l (P := Tryd.prog) (t := 9) (w := W) (s := s) Tryd.underlying9 .i64 (fr : Int) (by omega) (by have := HP.out; omega)
        simpa using this
      have HL : Aside0 ((acc.length + 1) * 16 ≤ 140737488355328) := ⟨by have := HP.out; have := HS.out; omega⟩
      have HLT : Aside0 (k0 < wr.heap.size) := ⟨blk_lt HI.out⟩
      have HBS : Aside0 (Below k0 w wr) := HB
      go_wp2_with (first | ((with_reducible refine gate_builtin (b := .append) (xs := #[.tmp 26, .tmp 30]) rfl ?_); at_builtin; refine Kd.R_append Kd.string (w0 := w) k0 rfl (.tmp 26) (.tmp 30) 46 9 (.string ⟨#[]⟩) 16 rfl Tryd.underlying46 ld_info9 rfl (by decide) (by omega) u3 acc (s.extract fr s.size) [.string (s.extract fr s.size)] (fun j => j ≠ k0) (fun _ => False) rfl rfl rfl (fun _ hk => hk.elim) (fun j hj => by have := HLT.out; omega) HR.out HB.out (Nat.le_of_lt HLT.out) HL.out ?_; intro v9 w9 ho9 hb9 hg9 ha9; clear ha9))
      have HR9 := Aside0.mk ho9
      have HB9 := Aside0.mk hb9
      clear ho9 hb9 hg9
      go_wp2
      go_ret
      refine ⟨_, rfl, ?_, ?_⟩
      · rw [← HQ2.out]
        rw [hk0]
        exact Kd.R_mono HR9.out (fun _ _ => trivial)
      · rw [hk0]
        exact HB9.out


-- NOT PRINTED: function 79 (bytealg_IndexByteString)

-- NOT PRINTED: function 78 (stringslite_IndexByte)

-- NOT PRINTED: function 77 (strings_IndexByte)

/-! ### path_part: function 76, a contract of my own -/
theorem sl_IndexByte (s : ByteArray) (c : Int) (w : World) :
    Calls Tryd.prog 78 #[.string s, .int .u8 c] w fun e w' => e = .returned (.int .i64 (Lib.indexByte s.data.toList c.toNat.toUInt8)) ∧ w' = w := by
  go_enter Tryd.func78, Tryd.ntmps78
  go_wp2
  rw [run_callFunc_extern Tryd.func79 (by kernel_rfl) (by kernel_rfl) (by kernel_rfl) (e := Extern.BytealgIndexByte.indexByte) (by kernel_rfl), Lib.run_indexByteString]
  simp only [Result.andThen]
  rw [Oper.upon_value]
  go_wp2
  go_ret
  exact ⟨rfl, rfl⟩
theorem st_IndexByte (s : ByteArray) (c : Int) (w : World) :
    Calls Tryd.prog 77 #[.string s, .int .u8 c] w fun e w' => e = .returned (.int .i64 (Lib.indexByte s.data.toList c.toNat.toUInt8)) ∧ w' = w := by
  go_enter Tryd.func77, Tryd.ntmps77
  go_wp2_with fail
  refine (sl_IndexByte s c w).mono ?_
  rintro e w1 ⟨rfl, rfl⟩
  go_wp2
  go_ret
  exact ⟨rfl, rfl⟩
/-- Is a text a part? -/
def partF (s : ByteArray) : Bool := !(s.toList == []) && decide (s.size ≤ 48) && !(s.toList == [46]) && !(s.toList == [46, 46]) && decide (Lib.indexByte s.data.toList 0 < 0)
theorem path_part.at_ (s : ByteArray) (hs : s.size ≤ 140737488351232) (w : World) :
    Calls Tryd.prog 76 #[.string s] w fun e w' => e = .returned (.bool (partF s)) ∧ w' = w := by
  have HI := Aside0.mk (st_IndexByte s 0 w)
  have hz : (0 : Int).toNat.toUInt8 = 0 := rfl
  rw [hz] at HI
  unfold partF
  cases h1 : (s.toList == []) with
  | true =>
    have h1' : s.toList = [] := by simpa using h1
    have h1'' : s.toList.isEmpty = true := by rw [h1']; rfl
    clear hs h1'
    go_enter Tryd.func76, Tryd.ntmps76
    go_wp2
    go_ret
    exact ⟨by simp [h1''], rfl⟩
  | false =>
  have h1' : ¬ s.toList = [] := by simpa using h1
  have h1'' : s.toList.isEmpty = false := by simpa using h1'
  by_cases c2 : s.size ≤ 48
  rotate_left
  · have e2 : decide (s.size ≤ 48) = false := decide_eq_false c2
    have e2' : decide ((s.size : Int) ≤ 48) = false := decide_eq_false (by omega)
    rw [e2]
    clear c2 hs h1'
    go_enter Tryd.func76, Tryd.ntmps76
    go_wp2
    go_ret
    exact ⟨by simp, rfl⟩
  have e2 : decide (s.size ≤ 48) = true := decide_eq_true c2
  have e2' : decide ((s.size : Int) ≤ 48) = true := decide_eq_true (by omega)
  rw [e2]
  cases h3 : (s.toList == [46]) with
  | true =>
    clear c2 hs h1'
    go_enter Tryd.func76, Tryd.ntmps76
    go_wp2
    go_ret
    exact ⟨by simp, rfl⟩
  | false =>
  cases h4 : (s.toList == [46, 46]) with
  | true =>
    clear c2 hs h1'
    go_enter Tryd.func76, Tryd.ntmps76
    go_wp2
    go_ret
    exact ⟨by simp, rfl⟩
  | false =>
  generalize Lib.indexByte s.data.toList 0 = x at HI ⊢
  clear c2 hs h1'
  go_enter Tryd.func76, Tryd.ntmps76
  go_wp2_with fail
  refine HI.out.mono ?_
  rintro e w1 ⟨rfl, rfl⟩
  go_wp2
  go_ret
  exact ⟨rfl, rfl⟩


/-! ### path_Right: function 70, a contract of my own -/
theorem spl_mem (s : ByteArray) : ∀ q pos fr acc, (∀ x ∈ acc, x.size ≤ s.size) → ∀ x ∈ spl s q pos fr acc, x.size ≤ s.size
  | 0, pos, fr, acc, h, x, hx => by
    rw [spl] at hx
    rcases List.mem_append.1 hx with hx | hx
    · exact h x hx
    · simp only [List.mem_singleton] at hx
      rw [hx, ByteArray.size_extract]; omega
  | q + 1, pos, fr, acc, h, x, hx => by
    rw [spl] at hx
    by_cases c : pos < s.size
    · rw [if_pos c] at hx
      by_cases c2 : (Utf8.decode s pos).1 = 47
      · rw [if_pos c2] at hx
        refine spl_mem s q _ _ _ (fun y hy => ?_) x hx
        rcases List.mem_append.1 hy with hy | hy
        · exact h y hy
        · simp only [List.mem_singleton] at hy
          rw [hy, ByteArray.size_extract]; omega
      · rw [if_neg c2] at hx
        exact spl_mem s q _ _ _ h x hx
    · rw [if_neg c] at hx
      rcases List.mem_append.1 hx with hx | hx
      · exact h x hx
      · simp only [List.mem_singleton] at hx
        rw [hx, ByteArray.size_extract]; omega
theorem splitF_mem (s x : ByteArray) (h : x ∈ splitF s) : x.size ≤ s.size := by
  unfold splitF at h
  split at h
  · cases h
  · exact spl_mem s _ _ _ _ (fun y hy => by cases hy) x h
def rightF (p : ByteArray) : Bool := (splitF p).all partF && decide ((splitF p).length ≤ 12) && decide (p.size ≤ 200)
theorem str_at {w : World} {L : List ByteArray} {A : Option Addr} (hC : Kd.C Kd.string w A L.length L) (i : Nat) (h : i < L.length) : ∃ ad x, A = some ad ∧ L[i]? = some x ∧ w.cell? (ad.add i) = some (.string x) := by
  obtain ⟨ad, e, hx⟩ := Kd.at_string hC (i : Int) (by omega) (by omega)
  refine ⟨ad, L[i], e, by simp [h], ?_⟩
  rw [Int.toNat_natCast] at hx
  rw [hx]
  simp [rdOf, List.getD_eq_getElem?_getD, h]
set_option maxHeartbeats 4000000 in
set_option maxRecDepth 20000 in
theorem path_Right.at_ (p : ByteArray) (hp : p.size ≤ 1000000) (w : World) :
    Calls Tryd.prog 70 #[.string p] w fun e w' => e = .returned (.bool (rightF p)) ∧ Below w.heap.size w w' := by
  have HSp := Aside0.mk (path_Split.at_ p hp w)
  have HM := Aside0.mk (splitF_mem p)
  have HP := Aside0.mk hp
  unfold rightF
  obtain ⟨L, hL⟩ : ∃ L, splitF p = L := ⟨_, rfl⟩
  rw [hL] at HSp ⊢
  have HL := Aside0.mk hL
  obtain ⟨r, hr⟩ : ∃ r, (L.all partF && decide (L.length ≤ 12) && decide (p.size ≤ 200)) = r := ⟨_, rfl⟩
  rw [hr]
  have HRr := Aside0.mk hr
  clear hp hL hr
  go_enter Tryd.func70, Tryd.ntmps70
  go_wp2_with fail
  refine HSp.out.mono ?_
  rintro e w1 ⟨v, rfl, hR, hb⟩
  obtain ⟨A, c, rfl, hc, hC⟩ := Kd.R_reads hR
  obtain ⟨m, hm⟩ : ∃ m, m = L.length := ⟨_, rfl⟩
  rw [← hm]
  have HC := Aside0.mk hC
  have HB := Aside0.mk hb
  have HMm := Aside0.mk hm
  clear hR hb hC hm HSp
  go_wp2
  go_loopg [5, 10] m (fun g v5 v10 w' => ∃ i : Nat, g = m - i ∧ v10 = .int .i64 i ∧ w' = w1 ∧ Aside0 (i ≤ m ∧ (L.take i).all partF = true))
  case atStart => exact ⟨0, rfl, rfl, rfl, ⟨Nat.zero_le _, rfl⟩⟩
  case round =>
    obtain ⟨i, rfl, rfl, rfl, HI⟩ := hrel
    by_cases c1 : i < m
    · have e1 : decide ((i : Int) < (m : Int)) = true := decide_eq_true (by omega)
      have e1' : decide (i < m) = true := decide_eq_true c1
      have e1t : ((i : Int) < (m : Int)) = True := eq_true (by omega)
      have e1n : (i < m) = True := eq_true c1
      obtain ⟨ad, x, rfl, hx, hcell⟩ := str_at HC.out i (by have := HMm.out; omega)
      have HX := Aside0.mk hx
      have hi0 : (0 ≤ (i : Int)) = True := eq_true (by omega)
      have HXs : Aside0 (x.size ≤ 140737488351232) := ⟨by have := HM.out x (by rw [HL.out]; exact List.mem_of_getElem? hx); have := HP.out; omega⟩
      have C1 := Aside0.mk c1
      have hadd : wrap64 ((i : Int) + 1) = ((i + 1 : Nat) : Int) := by have := HMm.out; have := HI.out; have := HC.out.2.1; unfold wrap64; omega
      clear hx c1
      go_wp2_with fail
      refine (path_part.at_ x HXs.out wr).mono ?_
      rintro e w2 ⟨rfl, rfl⟩
      cases hpx : partF x with
      | true =>
        have HPX := Aside0.mk hpx
        clear hpx
        go_wp2
        go_roundg (m - (i + 1))
        case measure => have := C1.out; omega
        case rel =>
          refine ⟨i + 1, rfl, by first | rfl | rw [hadd], rfl, ⟨by have := C1.out; omega, ?_⟩⟩
          rw [List.take_add_one, HX.out, List.all_append, HI.out.2]
          simp [HPX.out]
      | false =>
        have HPX := Aside0.mk hpx
        clear hpx
        go_wp2
        go_ret
        have : L.all partF = false := by
          rw [List.all_eq_false]
          exact ⟨x, List.mem_of_getElem? HX.out, by rw [HPX.out]; decide⟩
        exact ⟨by rw [← HRr.out, this]; rfl, HB.out⟩
    · have e1 : decide ((i : Int) < (m : Int)) = false := decide_eq_false (by omega)
      have e1' : decide (i < m) = false := decide_eq_false c1
      have e1t : ((i : Int) < (m : Int)) = False := eq_false (by omega)
      have e1n : (i < m) = False := eq_false c1
      have hall : L.all partF = true := by
        have h := HI.out.2
        rwa [List.take_of_length_le (by have := HMm.out; omega)] at h
      have HALL := Aside0.mk hall
      clear c1 hall
      cases h2 : decide (m ≤ 12) with
      | true =>
        have h2' : decide ((m : Int) ≤ 12) = true := decide_eq_true (by have := of_decide_eq_true h2; omega)
        cases h3 : decide (p.size ≤ 200) with
        | true =>
          have h3' : decide ((p.size : Int) ≤ 200) = true := decide_eq_true (by have := of_decide_eq_true h3; omega)
          go_wp2
          go_ret
          refine ⟨?_, HB.out⟩
          rw [← HRr.out, HALL.out, ← HMm.out, h2, h3]
          rfl
        | false =>
          have h3' : decide ((p.size : Int) ≤ 200) = false := decide_eq_false (by have := of_decide_eq_false h3; omega)
          go_wp2
          go_ret
          refine ⟨?_, HB.out⟩
          rw [← HRr.out, HALL.out, ← HMm.out, h2, h3]
          rfl
      | false =>
        have h2' : decide ((m : Int) ≤ 12) = false := decide_eq_false (by have := of_decide_eq_false h2; omega)
        go_wp2
        go_ret
        refine ⟨?_, HB.out⟩
        rw [← HRr.out, HALL.out, ← HMm.out, h2]
        simp


end Go.Proofs.YtniboafnkiijcaaDoor.P
