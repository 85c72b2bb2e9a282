-- Written by a program of the session (wip/tool/mk.py) out of the translation; Lean checks it.
import Derived.Test.YtnbekpmkjpjneaaPx0
namespace Go.Proofs.Ytnbekpmkjpjneaa.P
open Go.RowKit Go.Proofs.YtnbekpmkjpjneaaW.PrintWords Go.Proofs.YtnbekpmkjpjneaaW.PrintLast Go.Proofs.YtnbekpmkjpjneaaW.PrintMore
attribute [local go_sem] max2_int min2_int max_two min_two max_three min_three max_four min_four   -- for this text's walks alone
set_option linter.unusedVariables false
set_option linter.unusedSimpArgs false

/-! ### roll_halves: function 37 -/
def roll_halves.f (a0 : Int) : Option (Int × Int) := some (Go.bits .and .u32 a0 65535, a0 / 65536)
set_option maxHeartbeats 8000000 in
set_option maxRecDepth 100000 in
theorem roll_halves.calls (a0 : Int) (r1 : Int) (r2 : Int) (w : World) (h : roll_halves.f a0 = some (r1, r2)) :
    Calls Try.prog 37 #[.int .u32 a0] w fun e w' => e = .returned (.tuple #[.int .u32 r1, .int .u32 r2]) ∧ Drawn0 w w' := by
  have H : (some (Go.bits .and .u32 a0 65535, a0 / 65536)) = some (r1, r2) := h
  clear h
  simp only [Option.some.injEq, Prod.mk.injEq] at H
  obtain ⟨rfl, rfl⟩ := H
  go_enter Try.func37, Try.ntmps37
  go_wp2
  go_ret2
  exact ⟨by first | rfl | (simp; done) | (simp [*]; done), by repeat (first | exact Drawn0.refl _ | apply Drawn0.step)⟩

/-! ### roll_join: function 38 -/
def roll_join.f (a0 : Int) (a1 : Int) : Option (Int) := some (Go.bits .or .u32 (Go.bits .and .u32 a0 65535) ((a1 * 65536) % 4294967296))
set_option maxHeartbeats 8000000 in
set_option maxRecDepth 100000 in
theorem roll_join.calls (a0 : Int) (a1 : Int) (r : Int) (w : World) (h : roll_join.f a0 a1 = some r) :
    Calls Try.prog 38 #[.int .u32 a0, .int .u32 a1] w fun e w' => e = .returned (.int .u32 r) ∧ Drawn0 w w' := by
  have H : (some (Go.bits .or .u32 (Go.bits .and .u32 a0 65535) ((a1 * 65536) % 4294967296))) = some r := h
  clear h
  obtain rfl := Option.some.inj H
  go_enter Try.func38, Try.ntmps38
  go_wp2
  go_ret
  exact ⟨by first | rfl | (simp; done) | (simp [*]; done), by repeat (first | exact Drawn0.refl _ | apply Drawn0.step)⟩

/-! ### roll_In: function 13 -/
def roll_In.f (a0 : Int) (a1 : Int) (a2 : Int) : Option (Int) := (roll_halves.f a0).bind fun bt101 => ((roll_join.f ((bt101.1 + ((((a2) % 4294967296) + 31) % 4294967296)) % 4294967296) ((bt101.2 + ((bt101.1 + ((((a2) % 4294967296) + 31) % 4294967296)) % 4294967296)) % 4294967296)).bind fun t103 => (some t103))
set_option maxHeartbeats 8000000 in
set_option maxRecDepth 100000 in
theorem roll_In.calls (a0 : Int) (a1 : Int) (a2 : Int) (r : Int) (w : World) (h : roll_In.f a0 a1 a2 = some r) :
    Calls Try.prog 13 #[.int .u32 a0, .int .i64 a1, .int .u8 a2] w fun e w' => e = .returned (.int .u32 r) ∧ Drawn0 w w' := by
  have H : ((roll_halves.f a0).bind fun bt101 => ((roll_join.f ((bt101.1 + ((((a2) % 4294967296) + 31) % 4294967296)) % 4294967296) ((bt101.2 + ((bt101.1 + ((((a2) % 4294967296) + 31) % 4294967296)) % 4294967296)) % 4294967296)).bind fun t103 => (some t103))) = some r := h
  clear h
  replace H := Option.bind_eq_some_iff.mp H
  obtain ⟨⟨t101, t102⟩, A40, H⟩ := H
  replace H : ((roll_join.f ((t101 + ((((a2) % 4294967296) + 31) % 4294967296)) % 4294967296) ((t102 + ((t101 + ((((a2) % 4294967296) + 31) % 4294967296)) % 4294967296)) % 4294967296)).bind fun t103 => (some t103)) = some r := H
  have A4 := Aside0.mk A40
  clear A40
  replace H := Option.bind_eq_some_iff.mp H
  obtain ⟨t103, A50, H⟩ := H
  replace H : (some t103) = some r := H
  have A5 := Aside0.mk A50
  clear A50
  obtain rfl := Option.some.inj H
  go_enter Try.func13, Try.ntmps13
  go_wp2_with (first | ((with_reducible refine gate_callee (f := 37) rfl ?_); refine goesL_ (some 11) rfl rfl Try.func37 (by kernel_rfl) rfl #[.int .u32 a0] rfl (by (try simp only [List.map_toArray, List.map_cons, List.map_nil]); first | done | rfl | (simp only [List.length_drop, List.length_take]; rfl) | (simp; done) | (simp; (repeat' apply And.intro) <;> rfl)) ?_; (with_reducible refine (roll_halves.calls a0 t101 t102 _ A4.out).mono ?_); rintro e w' ⟨rfl, ⟨nd, rfl⟩⟩; refine ⟨_, rfl, ?_⟩) | ((with_reducible refine gate_callee (f := 38) rfl ?_); refine goesL_ (some 23) rfl rfl Try.func38 (by kernel_rfl) rfl #[.int .u32 ((t101 + ((((a2) % 4294967296) + 31) % 4294967296)) % 4294967296), .int .u32 ((t102 + ((t101 + ((((a2) % 4294967296) + 31) % 4294967296)) % 4294967296)) % 4294967296)] rfl (by (try simp only [List.map_toArray, List.map_cons, List.map_nil]); first | done | rfl | (simp only [List.length_drop, List.length_take]; rfl) | (simp; done) | (simp; (repeat' apply And.intro) <;> rfl)) ?_; (with_reducible refine (roll_join.calls ((t101 + ((((a2) % 4294967296) + 31) % 4294967296)) % 4294967296) ((t102 + ((t101 + ((((a2) % 4294967296) + 31) % 4294967296)) % 4294967296)) % 4294967296) t103 _ A5.out).mono ?_); rintro e w' ⟨rfl, ⟨nd, rfl⟩⟩; refine ⟨_, rfl, ?_⟩))
  go_ret
  exact ⟨by first | rfl | (simp; done) | (simp [*]; done), by repeat (first | exact Drawn0.refl _ | apply Drawn0.step)⟩

/-! ### roll_Of: function 10 -/
def roll_Of.l0 : Nat → Int → List Int → Int → Int → Option (Int)
  | 0, _, _, _, _ => none
  | k + 1, x3, x6, x7, x8 => if x8 < x7 then (if 0 ≤ x8 then (if x8 < (x6.length : Int) then ((roll_In.f x3 0 (rd x6 x8)).bind fun t105 => (roll_Of.l0 k t105 x6 x7 (wrap64 (x8 + 1)))) else (none)) else (none)) else (some x3)
def roll_Of.f (k : Nat) (l0 : List Int) : Option (Int) := roll_Of.l0 k 0 l0 (l0.length : Int) 0
theorem roll_Of.mono_l : ∀ k, (∀ y0 y1 y2 y3, LeO (roll_Of.l0 k y0 y1 y2 y3) (roll_Of.l0 (k + 1) y0 y1 y2 y3))
  | 0 => fun _ _ _ _ r h => by simp [roll_Of.l0] at h
  | k + 1 => by
    have ih0 := roll_Of.mono_l k
    · intro y0 y1 y2 y3
      unfold roll_Of.l0
      repeat' first
      | (with_reducible exact ih0 _ _ _ _)
      | (with_reducible exact LeO.refl _)
      | (with_reducible exact LeO.none _)
      | (with_reducible refine LeO.ite ?_ ?_)
      | (with_reducible refine LeO.bind ?_ (fun _ => ?_))
      | exact ih0 _ _ _ _
      | exact LeO.none _
      | refine LeO.ite ?_ ?_
      | refine LeO.bind ?_ (fun _ => ?_)
theorem roll_Of.mono : ∀ a0 k, LeO (roll_Of.f k a0) (roll_Of.f (k + 1) a0) := by
  intro a0 k
  have ih0 := roll_Of.mono_l k
  unfold roll_Of.f
  repeat' first
      | (with_reducible exact ih0 _ _ _ _)
      | (with_reducible exact LeO.refl _)
      | (with_reducible exact LeO.none _)
      | (with_reducible refine LeO.ite ?_ ?_)
      | (with_reducible refine LeO.bind ?_ (fun _ => ?_))
      | exact ih0 _ _ _ _
      | exact LeO.none _
      | refine LeO.ite ?_ ?_
      | refine LeO.bind ?_ (fun _ => ?_)
set_option maxHeartbeats 8000000 in
set_option maxRecDepth 100000 in
theorem roll_Of.calls (k : Nat) (A0 : Option Addr) (c0 : Nat) (l0 : List Int) (r : Int) (w : World) (hr0 : Kd.C (Kd.int .u8) w A0 l0.length l0) (hc0 : l0.length ≤ c0) (h : roll_Of.f k l0 = some r) :
    Calls Try.prog 10 #[.slice A0 l0.length c0] w fun e w' => e = .returned (.int .u32 r) ∧ Drawn0 w w' := by
  have HR0 := Aside0.mk hr0
  have HC0 := Aside0.mk hc0
  clear hr0 hc0
  have H : (roll_Of.l0 k 0 l0 (l0.length : Int) 0) = some r := h
  clear h
  have H' := Aside0.mk H
  clear H
  go_enter Try.func10, Try.ntmps10
  go_wp2
  go_loopg [3, 8] k (fun kq v3 v8 w' => ∃ (x3_1 : Int) (x8_1 : Int), v3 = .int .u32 x3_1 ∧ v8 = .int .i64 x8_1 ∧ Aside0 (roll_Of.l0 kq x3_1 l0 (l0.length : Int) x8_1 = some r) ∧ Aside0 (kq ≤ k) ∧ Drawn0 w w')
  case atStart => exact ⟨(0), (0), (by first | rfl | (simp; done) | (simp [*]; done)), (by first | rfl | (simp; done) | (simp [*]; done)), H', ⟨Nat.le_refl _⟩, by repeat (first | exact Drawn0.refl _ | apply Drawn0.step)⟩
  case round =>
    clear H'
    try clear c1
    obtain ⟨x3_1, x8_1, rfl, rfl, HA, HK1, ⟨m1, rfl⟩⟩ := hrel
    cases gk with
    | zero => exact absurd HA.out (by simp [roll_Of.l0])
    | succ k1 =>
      have H := HA.out
      clear HA
      simp only [roll_Of.l0] at H
      by_cases c2 : x8_1 < (l0.length : Int)
      · rw [if_pos c2] at H
        have c2b0 : decide (x8_1 < (l0.length : Int)) = true := decide_eq_true c2
        clear c2
        by_cases c3 : 0 ≤ x8_1
        · rw [if_pos c3] at H
          have c3b0 : decide (0 ≤ x8_1) = true := decide_eq_true c3
          clear c3
          by_cases c4 : x8_1 < (l0.length : Int)
          · rw [if_pos c4] at H
            have c4b0 : decide (x8_1 < (l0.length : Int)) = true := decide_eq_true c4
            clear c4
            replace H := Option.bind_eq_some_iff.mp H
            obtain ⟨t105, A50, H⟩ := H
            replace H : (roll_Of.l0 k1 t105 l0 (l0.length : Int) (wrap64 (x8_1 + 1))) = some r := H
            have A5 := Aside0.mk A50
            clear A50
            have H' := Aside0.mk H
            clear H
            have p104 : 0 ≤ (x8_1 : Int) := of_decide_eq_true (by first | (with_reducible assumption) | assumption)
            have q104 : x8_1 < (l0.length : Int) := of_decide_eq_true (by first | (with_reducible assumption) | assumption)
            obtain ⟨ad104, e104, hx104_0⟩ := Kd.at_int HR0.out x8_1 p104 q104
            cases e104
            replace p104 := eq_true p104
            replace q104 := eq_true q104
            go_wp2_with (first | ((with_reducible refine gate_callee (f := 13) rfl ?_); refine goesL_ (some 14) rfl rfl Try.func13 (by kernel_rfl) rfl #[.int .u32 x3_1, .int .i64 0, .int .u8 (rd l0 x8_1)] rfl (by (try simp only [List.map_toArray, List.map_cons, List.map_nil]); first | done | rfl | (simp only [List.length_drop, List.length_take]; rfl) | (simp; done) | (simp; (repeat' apply And.intro) <;> rfl)) ?_; (with_reducible refine (roll_In.calls x3_1 0 (rd l0 x8_1) t105 _ A5.out).mono ?_); rintro e w' ⟨rfl, ⟨nd, rfl⟩⟩; refine ⟨_, rfl, ?_⟩))
            go_roundg k1
            case measure => have := HK1.out; omega
            case rel => exact ⟨(t105), (wrap64 (x8_1 + 1)), (by first | rfl | (simp; done) | (simp [*]; done)), (by first | rfl | (simp; done) | (simp [*]; done)), H', ⟨by have := HK1.out; omega⟩, by repeat (first | exact Drawn0.refl _ | apply Drawn0.step)⟩
          · rw [if_neg c4] at H
            exact absurd H (by simp)
        · rw [if_neg c3] at H
          exact absurd H (by simp)
      · rw [if_neg c2] at H
        have c2b0 : decide (x8_1 < (l0.length : Int)) = false := decide_eq_false c2
        clear c2
        obtain rfl := Option.some.inj H
        go_wp2
        go_ret
        exact ⟨by first | rfl | (simp; done) | (simp [*]; done), by repeat (first | exact Drawn0.refl _ | apply Drawn0.step)⟩

/-! ### remoraref04_whole: function 36 -/
def remoraref04_whole.f (a0 : Int) (a1 : Int) : Option (Int) := if (Int.tmod a0 65536) < 0 then (if (Int.tmod a1 65536) < 0 then (some ((((wrap64 ((Int.tmod a0 65536) + 65536)) % 4294967296) + ((65536 * ((wrap64 ((Int.tmod a1 65536) + 65536)) % 4294967296)) % 4294967296)) % 4294967296)) else (some ((((wrap64 ((Int.tmod a0 65536) + 65536)) % 4294967296) + ((65536 * ((Int.tmod a1 65536) % 4294967296)) % 4294967296)) % 4294967296))) else (if (Int.tmod a1 65536) < 0 then (some ((((Int.tmod a0 65536) % 4294967296) + ((65536 * ((wrap64 ((Int.tmod a1 65536) + 65536)) % 4294967296)) % 4294967296)) % 4294967296)) else (some ((((Int.tmod a0 65536) % 4294967296) + ((65536 * ((Int.tmod a1 65536) % 4294967296)) % 4294967296)) % 4294967296)))
set_option maxHeartbeats 8000000 in
set_option maxRecDepth 100000 in
theorem remoraref04_whole.calls (a0 : Int) (a1 : Int) (r : Int) (w : World) (h : remoraref04_whole.f a0 a1 = some r) :
    Calls Try.prog 36 #[.int .i64 a0, .int .i64 a1] w fun e w' => e = .returned (.int .u32 r) ∧ Drawn0 w w' := by
  have H : (if (Int.tmod a0 65536) < 0 then (if (Int.tmod a1 65536) < 0 then (some ((((wrap64 ((Int.tmod a0 65536) + 65536)) % 4294967296) + ((65536 * ((wrap64 ((Int.tmod a1 65536) + 65536)) % 4294967296)) % 4294967296)) % 4294967296)) else (some ((((wrap64 ((Int.tmod a0 65536) + 65536)) % 4294967296) + ((65536 * ((Int.tmod a1 65536) % 4294967296)) % 4294967296)) % 4294967296))) else (if (Int.tmod a1 65536) < 0 then (some ((((Int.tmod a0 65536) % 4294967296) + ((65536 * ((wrap64 ((Int.tmod a1 65536) + 65536)) % 4294967296)) % 4294967296)) % 4294967296)) else (some ((((Int.tmod a0 65536) % 4294967296) + ((65536 * ((Int.tmod a1 65536) % 4294967296)) % 4294967296)) % 4294967296)))) = some r := h
  clear h
  by_cases c3 : (Int.tmod a0 65536) < 0
  · rw [if_pos c3] at H
    have c3b0 : decide ((Int.tmod a0 65536) < 0) = true := decide_eq_true c3
    clear c3
    by_cases c4 : (Int.tmod a1 65536) < 0
    · rw [if_pos c4] at H
      have c4b0 : decide ((Int.tmod a1 65536) < 0) = true := decide_eq_true c4
      clear c4
      obtain rfl := Option.some.inj H
      go_enter Try.func36, Try.ntmps36
      go_wp2
      go_ret
      exact ⟨by first | rfl | (simp; done) | (simp [*]; done), by repeat (first | exact Drawn0.refl _ | apply Drawn0.step)⟩
    · rw [if_neg c4] at H
      have c4b0 : decide ((Int.tmod a1 65536) < 0) = false := decide_eq_false c4
      clear c4
      obtain rfl := Option.some.inj H
      go_enter Try.func36, Try.ntmps36
      go_wp2
      go_ret
      exact ⟨by first | rfl | (simp; done) | (simp [*]; done), by repeat (first | exact Drawn0.refl _ | apply Drawn0.step)⟩
  · rw [if_neg c3] at H
    have c3b0 : decide ((Int.tmod a0 65536) < 0) = false := decide_eq_false c3
    clear c3
    by_cases c5 : (Int.tmod a1 65536) < 0
    · rw [if_pos c5] at H
      have c5b0 : decide ((Int.tmod a1 65536) < 0) = true := decide_eq_true c5
      clear c5
      obtain rfl := Option.some.inj H
      go_enter Try.func36, Try.ntmps36
      go_wp2
      go_ret
      exact ⟨by first | rfl | (simp; done) | (simp [*]; done), by repeat (first | exact Drawn0.refl _ | apply Drawn0.step)⟩
    · rw [if_neg c5] at H
      have c5b0 : decide ((Int.tmod a1 65536) < 0) = false := decide_eq_false c5
      clear c5
      obtain rfl := Option.some.inj H
      go_enter Try.func36, Try.ntmps36
      go_wp2
      go_ret
      exact ⟨by first | rfl | (simp; done) | (simp [*]; done), by repeat (first | exact Drawn0.refl _ | apply Drawn0.step)⟩

/-! ### remoraref04_Of: function 11 -/
def remoraref04_Of.l0 : Nat → List Int → Int → Int → Int → Option (Int)
  | 0, _, _, _, _ => none
  | k + 1, x0, x3, x4, x5 => if x5 < (x0.length : Int) then (if 0 ≤ x5 then (remoraref04_Of.l0 k x0 (Int.tmod (wrap64 ((wrap64 (x3 + (wrap64 (rd x0 x5)))) + 31)) 65536) (Int.tmod (wrap64 (x4 + (wrap64 ((Int.tmod (wrap64 ((x0.length : Int) - x5)) 65536) * (wrap64 ((wrap64 (rd x0 x5)) + 31)))))) 65536) (wrap64 (x5 + 1))) else (none)) else ((remoraref04_whole.f x3 x4).bind fun t108 => (some t108))
def remoraref04_Of.f (k : Nat) (l0 : List Int) : Option (Int) := remoraref04_Of.l0 k l0 0 0 0
theorem remoraref04_Of.mono_l : ∀ k, (∀ y0 y1 y2 y3, LeO (remoraref04_Of.l0 k y0 y1 y2 y3) (remoraref04_Of.l0 (k + 1) y0 y1 y2 y3))
  | 0 => fun _ _ _ _ r h => by simp [remoraref04_Of.l0] at h
  | k + 1 => by
    have ih0 := remoraref04_Of.mono_l k
    · intro y0 y1 y2 y3
      unfold remoraref04_Of.l0
      repeat' first
      | (with_reducible exact ih0 _ _ _ _)
      | (with_reducible exact LeO.refl _)
      | (with_reducible exact LeO.none _)
      | (with_reducible refine LeO.ite ?_ ?_)
      | (with_reducible refine LeO.bind ?_ (fun _ => ?_))
      | exact ih0 _ _ _ _
      | exact LeO.none _
      | refine LeO.ite ?_ ?_
      | refine LeO.bind ?_ (fun _ => ?_)
theorem remoraref04_Of.mono : ∀ a0 k, LeO (remoraref04_Of.f k a0) (remoraref04_Of.f (k + 1) a0) := by
  intro a0 k
  have ih0 := remoraref04_Of.mono_l k
  unfold remoraref04_Of.f
  repeat' first
      | (with_reducible exact ih0 _ _ _ _)
      | (with_reducible exact LeO.refl _)
      | (with_reducible exact LeO.none _)
      | (with_reducible refine LeO.ite ?_ ?_)
      | (with_reducible refine LeO.bind ?_ (fun _ => ?_))
      | exact ih0 _ _ _ _
      | exact LeO.none _
      | refine LeO.ite ?_ ?_
      | refine LeO.bind ?_ (fun _ => ?_)
set_option maxHeartbeats 8000000 in
set_option maxRecDepth 100000 in
theorem remoraref04_Of.calls (k : Nat) (A0 : Option Addr) (c0 : Nat) (l0 : List Int) (r : Int) (w : World) (hr0 : Kd.C (Kd.int .u8) w A0 l0.length l0) (hc0 : l0.length ≤ c0) (h : remoraref04_Of.f k l0 = some r) :
    Calls Try.prog 11 #[.slice A0 l0.length c0] w fun e w' => e = .returned (.int .u32 r) ∧ Drawn0 w w' := by
  have HR0 := Aside0.mk hr0
  have HC0 := Aside0.mk hc0
  clear hr0 hc0
  have H : (remoraref04_Of.l0 k l0 0 0 0) = some r := h
  clear h
  have H' := Aside0.mk H
  clear H
  go_enter Try.func11, Try.ntmps11
  go_wp2
  go_loopg [3, 4, 5] k (fun kq v3 v4 v5 w' => ∃ (x3_1 : Int) (x4_1 : Int) (x5_1 : Int), v3 = .int .i64 x3_1 ∧ v4 = .int .i64 x4_1 ∧ v5 = .int .i64 x5_1 ∧ Aside0 (remoraref04_Of.l0 kq l0 x3_1 x4_1 x5_1 = some r) ∧ Aside0 (kq ≤ k) ∧ Drawn0 w w')
  case atStart => exact ⟨(0), (0), (0), (by first | rfl | (simp; done) | (simp [*]; done)), (by first | rfl | (simp; done) | (simp [*]; done)), (by first | rfl | (simp; done) | (simp [*]; done)), H', ⟨Nat.le_refl _⟩, by repeat (first | exact Drawn0.refl _ | apply Drawn0.step)⟩
  case round =>
    clear H'
    try clear c1
    obtain ⟨x3_1, x4_1, x5_1, rfl, rfl, rfl, HA, HK1, ⟨m1, rfl⟩⟩ := hrel
    cases gk with
    | zero => exact absurd HA.out (by simp [remoraref04_Of.l0])
    | succ k1 =>
      have H := HA.out
      clear HA
      simp only [remoraref04_Of.l0] at H
      by_cases c2 : x5_1 < (l0.length : Int)
      · rw [if_pos c2] at H
        have c2b0 : decide (x5_1 < (l0.length : Int)) = true := decide_eq_true c2
        clear c2
        by_cases c3 : 0 ≤ x5_1
        · rw [if_pos c3] at H
          have c3b0 : decide (0 ≤ x5_1) = true := decide_eq_true c3
          clear c3
          have H' := Aside0.mk H
          clear H
          have p106 : 0 ≤ (x5_1 : Int) := of_decide_eq_true (by first | (with_reducible assumption) | assumption)
          have q106 : x5_1 < (l0.length : Int) := of_decide_eq_true (by first | (with_reducible assumption) | assumption)
          obtain ⟨ad106, e106, hx106_0⟩ := Kd.at_int HR0.out x5_1 p106 q106
          cases e106
          replace p106 := eq_true p106
          replace q106 := eq_true q106
          have p107 : 0 ≤ (x5_1 : Int) := of_decide_eq_true (by first | (with_reducible assumption) | assumption)
          have q107 : x5_1 < (l0.length : Int) := of_decide_eq_true (by first | (with_reducible assumption) | assumption)
          obtain ⟨ad107, e107, hx107_0⟩ := Kd.at_int HR0.out x5_1 p107 q107
          obtain rfl : ad106 = ad107 := (by injection e107)
          replace p107 := eq_true p107
          replace q107 := eq_true q107
          go_wp2
          go_roundg k1
          case measure => have := HK1.out; omega
          case rel => exact ⟨(Int.tmod (wrap64 ((wrap64 (x3_1 + (wrap64 (rd l0 x5_1)))) + 31)) 65536), (Int.tmod (wrap64 (x4_1 + (wrap64 ((Int.tmod (wrap64 ((l0.length : Int) - x5_1)) 65536) * (wrap64 ((wrap64 (rd l0 x5_1)) + 31)))))) 65536), (wrap64 (x5_1 + 1)), (by first | rfl | (simp; done) | (simp [*]; done)), (by first | rfl | (simp; done) | (simp [*]; done)), (by first | rfl | (simp; done) | (simp [*]; done)), H', ⟨by have := HK1.out; omega⟩, by repeat (first | exact Drawn0.refl _ | apply Drawn0.step)⟩
        · rw [if_neg c3] at H
          exact absurd H (by simp)
      · rw [if_neg c2] at H
        have c2b0 : decide (x5_1 < (l0.length : Int)) = false := decide_eq_false c2
        clear c2
        replace H := Option.bind_eq_some_iff.mp H
        obtain ⟨t108, A40, H⟩ := H
        replace H : (some t108) = some r := H
        have A4 := Aside0.mk A40
        clear A40
        obtain rfl := Option.some.inj H
        go_wp2_with (first | ((with_reducible refine gate_callee (f := 36) rfl ?_); refine goesL_ (some 38) rfl rfl Try.func36 (by kernel_rfl) rfl #[.int .i64 x3_1, .int .i64 x4_1] rfl (by (try simp only [List.map_toArray, List.map_cons, List.map_nil]); first | done | rfl | (simp only [List.length_drop, List.length_take]; rfl) | (simp; done) | (simp; (repeat' apply And.intro) <;> rfl)) ?_; (with_reducible refine (remoraref04_whole.calls x3_1 x4_1 t108 _ A4.out).mono ?_); rintro e w' ⟨rfl, ⟨nd, rfl⟩⟩; refine ⟨_, rfl, ?_⟩))
        go_ret
        exact ⟨by first | rfl | (simp; done) | (simp [*]; done), by repeat (first | exact Drawn0.refl _ | apply Drawn0.step)⟩

/-! ### roll_small: function 41 -/
def roll_small.f (a0 : Int) : Option (Int) := some ((Go.bits .and .i64 a0 65535) % 4294967296)
set_option maxHeartbeats 8000000 in
set_option maxRecDepth 100000 in
theorem roll_small.calls (a0 : Int) (r : Int) (w : World) (h : roll_small.f a0 = some r) :
    Calls Try.prog 41 #[.int .i64 a0] w fun e w' => e = .returned (.int .u32 r) ∧ Drawn0 w w' := by
  have H : (some ((Go.bits .and .i64 a0 65535) % 4294967296)) = some r := h
  clear h
  obtain rfl := Option.some.inj H
  go_enter Try.func41, Try.ntmps41
  go_wp2
  go_ret
  exact ⟨by first | rfl | (simp; done) | (simp [*]; done), by repeat (first | exact Drawn0.refl _ | apply Drawn0.step)⟩

/-! ### roll_Out: function 15 -/
def roll_Out.f (a0 : Int) (a1 : Int) (a2 : Int) : Option (Int) := (roll_halves.f a0).bind fun bt109 => ((roll_small.f a1).bind fun t111 => ((roll_join.f ((bt109.1 - ((((a2) % 4294967296) + 31) % 4294967296)) % 4294967296) ((bt109.2 - ((t111 * ((((a2) % 4294967296) + 31) % 4294967296)) % 4294967296)) % 4294967296)).bind fun t112 => (some t112)))
set_option maxHeartbeats 8000000 in
set_option maxRecDepth 100000 in
theorem roll_Out.calls (a0 : Int) (a1 : Int) (a2 : Int) (r : Int) (w : World) (h : roll_Out.f a0 a1 a2 = some r) :
    Calls Try.prog 15 #[.int .u32 a0, .int .i64 a1, .int .u8 a2] w fun e w' => e = .returned (.int .u32 r) ∧ Drawn0 w w' := by
  have H : ((roll_halves.f a0).bind fun bt109 => ((roll_small.f a1).bind fun t111 => ((roll_join.f ((bt109.1 - ((((a2) % 4294967296) + 31) % 4294967296)) % 4294967296) ((bt109.2 - ((t111 * ((((a2) % 4294967296) + 31) % 4294967296)) % 4294967296)) % 4294967296)).bind fun t112 => (some t112)))) = some r := h
  clear h
  replace H := Option.bind_eq_some_iff.mp H
  obtain ⟨⟨t109, t110⟩, A40, H⟩ := H
  replace H : ((roll_small.f a1).bind fun t111 => ((roll_join.f ((t109 - ((((a2) % 4294967296) + 31) % 4294967296)) % 4294967296) ((t110 - ((t111 * ((((a2) % 4294967296) + 31) % 4294967296)) % 4294967296)) % 4294967296)).bind fun t112 => (some t112))) = some r := H
  have A4 := Aside0.mk A40
  clear A40
  replace H := Option.bind_eq_some_iff.mp H
  obtain ⟨t111, A50, H⟩ := H
  replace H : ((roll_join.f ((t109 - ((((a2) % 4294967296) + 31) % 4294967296)) % 4294967296) ((t110 - ((t111 * ((((a2) % 4294967296) + 31) % 4294967296)) % 4294967296)) % 4294967296)).bind fun t112 => (some t112)) = some r := H
  have A5 := Aside0.mk A50
  clear A50
  replace H := Option.bind_eq_some_iff.mp H
  obtain ⟨t112, A60, H⟩ := H
  replace H : (some t112) = some r := H
  have A6 := Aside0.mk A60
  clear A60
  obtain rfl := Option.some.inj H
  go_enter Try.func15, Try.ntmps15
  go_wp2_with (first | ((with_reducible refine gate_callee (f := 37) rfl ?_); refine goesL_ (some 12) rfl rfl Try.func37 (by kernel_rfl) rfl #[.int .u32 a0] rfl (by (try simp only [List.map_toArray, List.map_cons, List.map_nil]); first | done | rfl | (simp only [List.length_drop, List.length_take]; rfl) | (simp; done) | (simp; (repeat' apply And.intro) <;> rfl)) ?_; (with_reducible refine (roll_halves.calls a0 t109 t110 _ A4.out).mono ?_); rintro e w' ⟨rfl, ⟨nd, rfl⟩⟩; refine ⟨_, rfl, ?_⟩) | ((with_reducible refine gate_callee (f := 41) rfl ?_); refine goesL_ (some 23) rfl rfl Try.func41 (by kernel_rfl) rfl #[.int .i64 a1] rfl (by (try simp only [List.map_toArray, List.map_cons, List.map_nil]); first | done | rfl | (simp only [List.length_drop, List.length_take]; rfl) | (simp; done) | (simp; (repeat' apply And.intro) <;> rfl)) ?_; (with_reducible refine (roll_small.calls a1 t111 _ A5.out).mono ?_); rintro e w' ⟨rfl, ⟨nd, rfl⟩⟩; refine ⟨_, rfl, ?_⟩) | ((with_reducible refine gate_callee (f := 38) rfl ?_); refine goesL_ (some 27) rfl rfl Try.func38 (by kernel_rfl) rfl #[.int .u32 ((t109 - ((((a2) % 4294967296) + 31) % 4294967296)) % 4294967296), .int .u32 ((t110 - ((t111 * ((((a2) % 4294967296) + 31) % 4294967296)) % 4294967296)) % 4294967296)] rfl (by (try simp only [List.map_toArray, List.map_cons, List.map_nil]); first | done | rfl | (simp only [List.length_drop, List.length_take]; rfl) | (simp; done) | (simp; (repeat' apply And.intro) <;> rfl)) ?_; (with_reducible refine (roll_join.calls ((t109 - ((((a2) % 4294967296) + 31) % 4294967296)) % 4294967296) ((t110 - ((t111 * ((((a2) % 4294967296) + 31) % 4294967296)) % 4294967296)) % 4294967296) t112 _ A6.out).mono ?_); rintro e w' ⟨rfl, ⟨nd, rfl⟩⟩; refine ⟨_, rfl, ?_⟩))
  go_ret
  exact ⟨by first | rfl | (simp; done) | (simp [*]; done), by repeat (first | exact Drawn0.refl _ | apply Drawn0.step)⟩

/-! ### roll_Roll: function 17 -/
def roll_Roll.f (a0 : Int) (a1 : Int) (a2 : Int) (a3 : Int) : Option (Int) := (roll_Out.f a0 a1 a2).bind fun t113 => ((roll_In.f t113 a1 a3).bind fun t114 => (some t114))
set_option maxHeartbeats 8000000 in
set_option maxRecDepth 100000 in
theorem roll_Roll.calls (a0 : Int) (a1 : Int) (a2 : Int) (a3 : Int) (r : Int) (w : World) (h : roll_Roll.f a0 a1 a2 a3 = some r) :
    Calls Try.prog 17 #[.int .u32 a0, .int .i64 a1, .int .u8 a2, .int .u8 a3] w fun e w' => e = .returned (.int .u32 r) ∧ Drawn0 w w' := by
  have H : ((roll_Out.f a0 a1 a2).bind fun t113 => ((roll_In.f t113 a1 a3).bind fun t114 => (some t114))) = some r := h
  clear h
  replace H := Option.bind_eq_some_iff.mp H
  obtain ⟨t113, A50, H⟩ := H
  replace H : ((roll_In.f t113 a1 a3).bind fun t114 => (some t114)) = some r := H
  have A5 := Aside0.mk A50
  clear A50
  replace H := Option.bind_eq_some_iff.mp H
  obtain ⟨t114, A60, H⟩ := H
  replace H : (some t114) = some r := H
  have A6 := Aside0.mk A60
  clear A60
  obtain rfl := Option.some.inj H
  go_enter Try.func17, Try.ntmps17
  go_wp2_with (first | ((with_reducible refine gate_callee (f := 15) rfl ?_); refine goesL_ (some 12) rfl rfl Try.func15 (by kernel_rfl) rfl #[.int .u32 a0, .int .i64 a1, .int .u8 a2] rfl (by (try simp only [List.map_toArray, List.map_cons, List.map_nil]); first | done | rfl | (simp only [List.length_drop, List.length_take]; rfl) | (simp; done) | (simp; (repeat' apply And.intro) <;> rfl)) ?_; (with_reducible refine (roll_Out.calls a0 a1 a2 t113 _ A5.out).mono ?_); rintro e w' ⟨rfl, ⟨nd, rfl⟩⟩; refine ⟨_, rfl, ?_⟩) | ((with_reducible refine gate_callee (f := 13) rfl ?_); refine goesL_ (some 15) rfl rfl Try.func13 (by kernel_rfl) rfl #[.int .u32 t113, .int .i64 a1, .int .u8 a3] rfl (by (try simp only [List.map_toArray, List.map_cons, List.map_nil]); first | done | rfl | (simp only [List.length_drop, List.length_take]; rfl) | (simp; done) | (simp; (repeat' apply And.intro) <;> rfl)) ?_; (with_reducible refine (roll_In.calls t113 a1 a3 t114 _ A6.out).mono ?_); rintro e w' ⟨rfl, ⟨nd, rfl⟩⟩; refine ⟨_, rfl, ?_⟩))
  go_ret
  exact ⟨by first | rfl | (simp; done) | (simp [*]; done), by repeat (first | exact Drawn0.refl _ | apply Drawn0.step)⟩

/-! ### remoralaw04_awake: function 12, a contract of my own -/
def remoralaw04_awake.f : Option Bool := some true
theorem remoralaw04_awake.e1 : roll_Of.f 10 [97] = some 8388736 := by kernel_rfl
theorem remoralaw04_awake.e2 : roll_Of.f 10 [97, 98] = some 25231617 := by kernel_rfl
theorem remoralaw04_awake.e3 : roll_Roll.f 25231617 2 97 99 = some 25428227 := by kernel_rfl
theorem remoralaw04_awake.e4 : roll_Of.f 10 [98, 99] = some 25428227 := by kernel_rfl
set_option maxHeartbeats 1000000 in
theorem remoralaw04_awake.calls (r : Bool) (w : World) (h : remoralaw04_awake.f = some r) :
    Calls Try.prog 12 #[] w fun e w' => e = .returned (.bool r) ∧ Below w.heap.size w w' := by
  obtain rfl : true = r := Option.some.inj h
  have kc := fun (w : World) (C : Array Value) (n c : Nat) => Lib.run_convert_bytes_const (P := Try.prog) w 22 5 C n c Try.underlying22 Try.underlying5
  go_enter Try.func12, Try.ntmps12
  go_wp2_with fail
  refine (roll_Of.calls 10 _ _ [97] 8388736 _ (Kd.C_const w 5 [97] (1, 2) (by decide)) (Nat.le_refl _) remoralaw04_awake.e1).mono ?_
  rintro e w1 ⟨rfl, hb1⟩
  have b1 := Aside0.mk (below_step (below_alloc (Below.refl _ w) _) hb1.below)
  clear hb1
  go_wp2_with fail
  refine (roll_Of.calls 10 _ _ [97, 98] 25231617 _ (Kd.C_const w1 5 [97, 98] (2, 3) (by decide)) (Nat.le_refl _) remoralaw04_awake.e2).mono ?_
  rintro e w2 ⟨rfl, hb2⟩
  have b2 := Aside0.mk (below_step (below_alloc b1.out _) hb2.below)
  clear hb2
  go_wp2_with fail
  refine (roll_Roll.calls 25231617 2 97 99 25428227 _ remoralaw04_awake.e3).mono ?_
  rintro e w3 ⟨rfl, hb3⟩
  have b3 := Aside0.mk (below_step b2.out hb3.below)
  clear hb3
  go_wp2_with fail
  refine (roll_Of.calls 10 _ _ [98, 99] 25428227 _ (Kd.C_const w3 5 [98, 99] (2, 3) (by decide)) (Nat.le_refl _) remoralaw04_awake.e4).mono ?_
  rintro e w4 ⟨rfl, hb4⟩
  have b4 := Aside0.mk (below_step (below_alloc b3.out _) hb4.below)
  clear hb4
  go_wp2
  go_ret
  exact ⟨rfl, b4.out⟩


/-! ### remoralaw04_RollOf: function 3 -/
def remoralaw04_RollOf.f (k : Nat) (l0 : List Int) : Option (Bool) := if (l0.length : Int) > 200000 then (some true) else ((roll_Of.f k l0).bind fun t115 => ((remoraref04_Of.f k l0).bind fun t116 => (if t115 = t116 then ((remoralaw04_awake.f).bind fun t117 => (some t117)) else (some false))))
theorem remoralaw04_RollOf.mono : ∀ a0 k, LeO (remoralaw04_RollOf.f k a0) (remoralaw04_RollOf.f (k + 1) a0) := by
  intro a0 k
  unfold remoralaw04_RollOf.f
  repeat' first
      | (with_reducible exact remoraref04_Of.mono _ _)
      | (with_reducible exact roll_Of.mono _ _)
      | (with_reducible exact LeO.refl _)
      | (with_reducible exact LeO.none _)
      | (with_reducible refine LeO.ite ?_ ?_)
      | (with_reducible refine LeO.bind ?_ (fun _ => ?_))
      | exact remoraref04_Of.mono _ _
      | exact roll_Of.mono _ _
      | exact LeO.none _
      | refine LeO.ite ?_ ?_
      | refine LeO.bind ?_ (fun _ => ?_)
set_option maxHeartbeats 8000000 in
set_option maxRecDepth 100000 in
theorem remoralaw04_RollOf.calls (k : Nat) (A0 : Option Addr) (c0 : Nat) (l0 : List Int) (r : Bool) (w : World) (hr0 : Kd.C (Kd.int .u8) w A0 l0.length l0) (hc0 : l0.length ≤ c0) (h : remoralaw04_RollOf.f k l0 = some r) :
    Calls Try.prog 3 #[.slice A0 l0.length c0] w fun e w' => e = .returned (.bool r) ∧ Below w.heap.size w w' := by
  have HR0 := Aside0.mk hr0
  have HC0 := Aside0.mk hc0
  clear hr0 hc0
  have HB := Aside0.mk (Below.refl w.heap.size w)
  have H : (if (l0.length : Int) > 200000 then (some true) else ((roll_Of.f k l0).bind fun t115 => ((remoraref04_Of.f k l0).bind fun t116 => (if t115 = t116 then ((remoralaw04_awake.f).bind fun t117 => (some t117)) else (some false))))) = some r := h
  clear h
  by_cases c2 : (l0.length : Int) > 200000
  · rw [if_pos c2] at H
    have c2b0 : decide (200000 < (l0.length : Int)) = true := decide_eq_true c2
    have c2b1 : decide (200000 < l0.length) = true := decide_eq_true (by omega)
    clear c2
    obtain rfl := Option.some.inj H
    go_enter Try.func3, Try.ntmps3
    go_wp2
    go_ret
    exact ⟨by first | rfl | (simp [errW_none, errW_some] <;> rfl) | (simp [*, errW_none, errW_some] <;> rfl), by repeat (first | (with_reducible first | exact HB.out | apply below_alloc | apply pw_below_drewN | apply below_drew1) | exact HB.out)⟩
  · rw [if_neg c2] at H
    have c2b0 : decide (200000 < (l0.length : Int)) = false := decide_eq_false c2
    have c2b1 : decide (200000 < l0.length) = false := decide_eq_false (by omega)
    clear c2
    replace H := Option.bind_eq_some_iff.mp H
    obtain ⟨t115, A30, H⟩ := H
    replace H : ((remoraref04_Of.f k l0).bind fun t116 => (if t115 = t116 then ((remoralaw04_awake.f).bind fun t117 => (some t117)) else (some false))) = some r := H
    have A3 := Aside0.mk A30
    clear A30
    replace H := Option.bind_eq_some_iff.mp H
    obtain ⟨t116, A40, H⟩ := H
    replace H : (if t115 = t116 then ((remoralaw04_awake.f).bind fun t117 => (some t117)) else (some false)) = some r := H
    have A4 := Aside0.mk A40
    clear A40
    by_cases c5 : t115 = t116
    · rw [if_pos c5] at H
      have c5b0 : (t115 == t116) = true := beq_iff_eq.mpr c5
      have c5b1 : (t115 != t116) = false := bne_eq_false_iff_eq.mpr c5
      clear c5
      replace H := Option.bind_eq_some_iff.mp H
      obtain ⟨t117, A60, H⟩ := H
      replace H : (some t117) = some r := H
      have A6 := Aside0.mk A60
      clear A60
      obtain rfl := Option.some.inj H
      go_enter Try.func3, Try.ntmps3
      go_wp2_with (first | (go_at_call 10; (with_reducible refine (roll_Of.calls k _ _ l0 t115 _ ?side1 ?side2 A3.out).mono ?_); (case side1 => repeat (first | exact HR0.out | (with_reducible refine Kd.C_alloc ?_ _) | (with_reducible refine Kd.C_drewN ?_ _) | (with_reducible refine Kd.C_drew ?_))); (case side2 => exact HC0.out); rintro e w' ⟨rfl, ⟨nd, rfl⟩⟩) | (go_at_call 11; (with_reducible refine (remoraref04_Of.calls k _ _ l0 t116 _ ?side1 ?side2 A4.out).mono ?_); (case side1 => repeat (first | exact HR0.out | (with_reducible refine Kd.C_alloc ?_ _) | (with_reducible refine Kd.C_drewN ?_ _) | (with_reducible refine Kd.C_drew ?_))); (case side2 => exact HC0.out); rintro e w' ⟨rfl, ⟨nd, rfl⟩⟩) | (go_at_call 12; (with_reducible refine (remoralaw04_awake.calls  t117 _ A6.out).mono ?_); rintro e w7 ⟨rfl, hb⟩; have n0_ := Aside0.mk (below_step (by repeat (first | (with_reducible first | exact HB.out | apply below_alloc | apply pw_below_drewN | apply below_drew1) | exact HB.out)) hb); clear HB; have HB := n0_; clear n0_; (try clear hb); (try clear hb2); (try clear hk); (try clear hi)))
      go_ret
      exact ⟨by first | rfl | (simp [errW_none, errW_some] <;> rfl) | (simp [*, errW_none, errW_some] <;> rfl), by repeat (first | (with_reducible first | exact HB.out | apply below_alloc | apply pw_below_drewN | apply below_drew1) | exact HB.out)⟩
    · rw [if_neg c5] at H
      have c5b0 : (t115 == t116) = false := beq_eq_false_iff_ne.mpr c5
      have c5b1 : (t115 != t116) = true := bne_iff_ne.mpr c5
      obtain rfl := Option.some.inj H
      go_enter Try.func3, Try.ntmps3
      go_wp2_with (first | (go_at_call 10; (with_reducible refine (roll_Of.calls k _ _ l0 t115 _ ?side1 ?side2 A3.out).mono ?_); (case side1 => repeat (first | exact HR0.out | (with_reducible refine Kd.C_alloc ?_ _) | (with_reducible refine Kd.C_drewN ?_ _) | (with_reducible refine Kd.C_drew ?_))); (case side2 => exact HC0.out); rintro e w' ⟨rfl, ⟨nd, rfl⟩⟩) | (go_at_call 11; (with_reducible refine (remoraref04_Of.calls k _ _ l0 t116 _ ?side1 ?side2 A4.out).mono ?_); (case side1 => repeat (first | exact HR0.out | (with_reducible refine Kd.C_alloc ?_ _) | (with_reducible refine Kd.C_drewN ?_ _) | (with_reducible refine Kd.C_drew ?_))); (case side2 => exact HC0.out); rintro e w' ⟨rfl, ⟨nd, rfl⟩⟩))
      go_ret
      exact ⟨by first | rfl | (simp [errW_none, errW_some] <;> rfl) | (simp [*, errW_none, errW_some] <;> rfl), by repeat (first | (with_reducible first | exact HB.out | apply below_alloc | apply pw_below_drewN | apply below_drew1) | exact HB.out)⟩

/-- THE ONE PURE STATEMENT of remoralaw04_RollOf: yours. -/
def remoralaw04_RollOf.Pure : Prop := ∀ (l0 : List Int), l0.length ≤ maxLen → l0.length * 1 ≤ 140737488351232 → (∀ x ∈ l0, (Lit.int .u8 x).wf = true) → ∃ k, remoralaw04_RollOf.f k l0 = some true
theorem remoralaw04_RollOf.walk (P : remoralaw04_RollOf.Pure) (a0 : Option Addr) (len0 cap0 : Nat) (z0 : List Int) (w : World) (w0 : (a0 = none ∧ len0 = 0 ∧ cap0 = 0 ∧ z0 = []) ∨ ∃ x, a0 = some x ∧ len0 ≤ cap0 ∧ cap0 ≤ maxLen ∧ z0.length = cap0 ∧ (∀ i, i < z0.length → w.cell? (x.add i) = some (.int .u8 (z0.getD i 0))) ∧ ∀ n ∈ z0, (Lit.int .u8 n).wf = true) (y0 : len0 * 1 ≤ 140737488351232) :
    Calls Try.prog 3 #[.slice a0 len0 cap0] w fun e w' => e = .returned (.bool true) ∧ Below w.heap.size w w' := by
  obtain ⟨l0, rfl, hr0, hm0, hw0, hc0⟩ := ReadsInt.ofRowC w0
  obtain ⟨k, h⟩ := P l0 hm0 y0 hw0
  refine (remoralaw04_RollOf.calls k _ _ l0 true w (Kd.C_of_reads (d := (0 : Int)) (h1 := fun _ => rfl) hr0) hc0 h).mono ?_
  rintro e w' ⟨rfl, hd⟩
  exact ⟨rfl, hd⟩

/-! ### remoraref04_low: function 39 -/
def remoraref04_low.f (a0 : Int) : Option (Int) := some (wrap64 (Int.tmod a0 65536))
set_option maxHeartbeats 8000000 in
set_option maxRecDepth 100000 in
theorem remoraref04_low.calls (a0 : Int) (r : Int) (w : World) (h : remoraref04_low.f a0 = some r) :
    Calls Try.prog 39 #[.int .u32 a0] w fun e w' => e = .returned (.int .i64 r) ∧ Drawn0 w w' := by
  have H : (some (wrap64 (Int.tmod a0 65536))) = some r := h
  clear h
  obtain rfl := Option.some.inj H
  go_enter Try.func39, Try.ntmps39
  go_wp2
  go_ret
  exact ⟨by first | rfl | (simp; done) | (simp [*]; done), by repeat (first | exact Drawn0.refl _ | apply Drawn0.step)⟩

/-! ### remoraref04_high: function 40 -/
def remoraref04_high.f (a0 : Int) : Option (Int) := some ((Int.tdiv a0 65536) % 4294967296)
set_option maxHeartbeats 8000000 in
set_option maxRecDepth 100000 in
theorem remoraref04_high.calls (a0 : Int) (r : Int) (w : World) (h : remoraref04_high.f a0 = some r) :
    Calls Try.prog 40 #[.int .u32 a0] w fun e w' => e = .returned (.int .i64 r) ∧ Drawn0 w w' := by
  have H : (some ((Int.tdiv a0 65536) % 4294967296)) = some r := h
  clear h
  obtain rfl := Option.some.inj H
  go_enter Try.func40, Try.ntmps40
  go_wp2
  go_ret
  exact ⟨by first | rfl | (simp; done) | (simp [*]; done), by repeat (first | exact Drawn0.refl _ | apply Drawn0.step)⟩

/-! ### remoraref04_In: function 14 -/
def remoraref04_In.f (a0 : Int) (a1 : Int) (a2 : Int) : Option (Int) := (remoraref04_low.f a0).bind fun t118 => ((remoraref04_high.f a0).bind fun t119 => ((remoraref04_whole.f (wrap64 ((wrap64 (t118 + (wrap64 (a2)))) + 31)) (wrap64 (t119 + (wrap64 ((wrap64 (t118 + (wrap64 (a2)))) + 31))))).bind fun t120 => (some t120)))
set_option maxHeartbeats 8000000 in
set_option maxRecDepth 100000 in
theorem remoraref04_In.calls (a0 : Int) (a1 : Int) (a2 : Int) (r : Int) (w : World) (h : remoraref04_In.f a0 a1 a2 = some r) :
    Calls Try.prog 14 #[.int .u32 a0, .int .i64 a1, .int .u8 a2] w fun e w' => e = .returned (.int .u32 r) ∧ Drawn0 w w' := by
  have H : ((remoraref04_low.f a0).bind fun t118 => ((remoraref04_high.f a0).bind fun t119 => ((remoraref04_whole.f (wrap64 ((wrap64 (t118 + (wrap64 (a2)))) + 31)) (wrap64 (t119 + (wrap64 ((wrap64 (t118 + (wrap64 (a2)))) + 31))))).bind fun t120 => (some t120)))) = some r := h
  clear h
  replace H := Option.bind_eq_some_iff.mp H
  obtain ⟨t118, A40, H⟩ := H
  replace H : ((remoraref04_high.f a0).bind fun t119 => ((remoraref04_whole.f (wrap64 ((wrap64 (t118 + (wrap64 (a2)))) + 31)) (wrap64 (t119 + (wrap64 ((wrap64 (t118 + (wrap64 (a2)))) + 31))))).bind fun t120 => (some t120))) = some r := H
  have A4 := Aside0.mk A40
  clear A40
  replace H := Option.bind_eq_some_iff.mp H
  obtain ⟨t119, A50, H⟩ := H
  replace H : ((remoraref04_whole.f (wrap64 ((wrap64 (t118 + (wrap64 (a2)))) + 31)) (wrap64 (t119 + (wrap64 ((wrap64 (t118 + (wrap64 (a2)))) + 31))))).bind fun t120 => (some t120)) = some r := H
  have A5 := Aside0.mk A50
  clear A50
  replace H := Option.bind_eq_some_iff.mp H
  obtain ⟨t120, A60, H⟩ := H
  replace H : (some t120) = some r := H
  have A6 := Aside0.mk A60
  clear A60
  obtain rfl := Option.some.inj H
  go_enter Try.func14, Try.ntmps14
  go_wp2_with (first | ((with_reducible refine gate_callee (f := 39) rfl ?_); refine goesL_ (some 9) rfl rfl Try.func39 (by kernel_rfl) rfl #[.int .u32 a0] rfl (by (try simp only [List.map_toArray, List.map_cons, List.map_nil]); first | done | rfl | (simp only [List.length_drop, List.length_take]; rfl) | (simp; done) | (simp; (repeat' apply And.intro) <;> rfl)) ?_; (with_reducible refine (remoraref04_low.calls a0 t118 _ A4.out).mono ?_); rintro e w' ⟨rfl, ⟨nd, rfl⟩⟩; refine ⟨_, rfl, ?_⟩) | ((with_reducible refine gate_callee (f := 40) rfl ?_); refine goesL_ (some 16) rfl rfl Try.func40 (by kernel_rfl) rfl #[.int .u32 a0] rfl (by (try simp only [List.map_toArray, List.map_cons, List.map_nil]); first | done | rfl | (simp only [List.length_drop, List.length_take]; rfl) | (simp; done) | (simp; (repeat' apply And.intro) <;> rfl)) ?_; (with_reducible refine (remoraref04_high.calls a0 t119 _ A5.out).mono ?_); rintro e w' ⟨rfl, ⟨nd, rfl⟩⟩; refine ⟨_, rfl, ?_⟩) | ((with_reducible refine gate_callee (f := 36) rfl ?_); refine goesL_ (some 19) rfl rfl Try.func36 (by kernel_rfl) rfl #[.int .i64 (wrap64 ((wrap64 (t118 + (wrap64 (a2)))) + 31)), .int .i64 (wrap64 (t119 + (wrap64 ((wrap64 (t118 + (wrap64 (a2)))) + 31))))] rfl (by (try simp only [List.map_toArray, List.map_cons, List.map_nil]); first | done | rfl | (simp only [List.length_drop, List.length_take]; rfl) | (simp; done) | (simp; (repeat' apply And.intro) <;> rfl)) ?_; (with_reducible refine (remoraref04_whole.calls (wrap64 ((wrap64 (t118 + (wrap64 (a2)))) + 31)) (wrap64 (t119 + (wrap64 ((wrap64 (t118 + (wrap64 (a2)))) + 31)))) t120 _ A6.out).mono ?_); rintro e w' ⟨rfl, ⟨nd, rfl⟩⟩; refine ⟨_, rfl, ?_⟩))
  go_ret
  exact ⟨by first | rfl | (simp; done) | (simp [*]; done), by repeat (first | exact Drawn0.refl _ | apply Drawn0.step)⟩

/-! ### remoraref04_Out: function 16 -/
def remoraref04_Out.f (a0 : Int) (a1 : Int) (a2 : Int) : Option (Int) := (remoraref04_low.f a0).bind fun t121 => ((remoraref04_high.f a0).bind fun t122 => ((remoraref04_whole.f (wrap64 ((wrap64 (t121 - (wrap64 (a2)))) - 31)) (wrap64 (t122 - (wrap64 ((Int.tmod a1 65536) * (wrap64 ((wrap64 (a2)) + 31))))))).bind fun t123 => (some t123)))
set_option maxHeartbeats 8000000 in
set_option maxRecDepth 100000 in
theorem remoraref04_Out.calls (a0 : Int) (a1 : Int) (a2 : Int) (r : Int) (w : World) (h : remoraref04_Out.f a0 a1 a2 = some r) :
    Calls Try.prog 16 #[.int .u32 a0, .int .i64 a1, .int .u8 a2] w fun e w' => e = .returned (.int .u32 r) ∧ Drawn0 w w' := by
  have H : ((remoraref04_low.f a0).bind fun t121 => ((remoraref04_high.f a0).bind fun t122 => ((remoraref04_whole.f (wrap64 ((wrap64 (t121 - (wrap64 (a2)))) - 31)) (wrap64 (t122 - (wrap64 ((Int.tmod a1 65536) * (wrap64 ((wrap64 (a2)) + 31))))))).bind fun t123 => (some t123)))) = some r := h
  clear h
  replace H := Option.bind_eq_some_iff.mp H
  obtain ⟨t121, A40, H⟩ := H
  replace H : ((remoraref04_high.f a0).bind fun t122 => ((remoraref04_whole.f (wrap64 ((wrap64 (t121 - (wrap64 (a2)))) - 31)) (wrap64 (t122 - (wrap64 ((Int.tmod a1 65536) * (wrap64 ((wrap64 (a2)) + 31))))))).bind fun t123 => (some t123))) = some r := H
  have A4 := Aside0.mk A40
  clear A40
  replace H := Option.bind_eq_some_iff.mp H
  obtain ⟨t122, A50, H⟩ := H
  replace H : ((remoraref04_whole.f (wrap64 ((wrap64 (t121 - (wrap64 (a2)))) - 31)) (wrap64 (t122 - (wrap64 ((Int.tmod a1 65536) * (wrap64 ((wrap64 (a2)) + 31))))))).bind fun t123 => (some t123)) = some r := H
  have A5 := Aside0.mk A50
  clear A50
  replace H := Option.bind_eq_some_iff.mp H
  obtain ⟨t123, A60, H⟩ := H
  replace H : (some t123) = some r := H
  have A6 := Aside0.mk A60
  clear A60
  obtain rfl := Option.some.inj H
  go_enter Try.func16, Try.ntmps16
  go_wp2_with (first | ((with_reducible refine gate_callee (f := 39) rfl ?_); refine goesL_ (some 10) rfl rfl Try.func39 (by kernel_rfl) rfl #[.int .u32 a0] rfl (by (try simp only [List.map_toArray, List.map_cons, List.map_nil]); first | done | rfl | (simp only [List.length_drop, List.length_take]; rfl) | (simp; done) | (simp; (repeat' apply And.intro) <;> rfl)) ?_; (with_reducible refine (remoraref04_low.calls a0 t121 _ A4.out).mono ?_); rintro e w' ⟨rfl, ⟨nd, rfl⟩⟩; refine ⟨_, rfl, ?_⟩) | ((with_reducible refine gate_callee (f := 40) rfl ?_); refine goesL_ (some 16) rfl rfl Try.func40 (by kernel_rfl) rfl #[.int .u32 a0] rfl (by (try simp only [List.map_toArray, List.map_cons, List.map_nil]); first | done | rfl | (simp only [List.length_drop, List.length_take]; rfl) | (simp; done) | (simp; (repeat' apply And.intro) <;> rfl)) ?_; (with_reducible refine (remoraref04_high.calls a0 t122 _ A5.out).mono ?_); rintro e w' ⟨rfl, ⟨nd, rfl⟩⟩; refine ⟨_, rfl, ?_⟩) | ((with_reducible refine gate_callee (f := 36) rfl ?_); refine goesL_ (some 23) rfl rfl Try.func36 (by kernel_rfl) rfl #[.int .i64 (wrap64 ((wrap64 (t121 - (wrap64 (a2)))) - 31)), .int .i64 (wrap64 (t122 - (wrap64 ((Int.tmod a1 65536) * (wrap64 ((wrap64 (a2)) + 31))))))] rfl (by (try simp only [List.map_toArray, List.map_cons, List.map_nil]); first | done | rfl | (simp only [List.length_drop, List.length_take]; rfl) | (simp; done) | (simp; (repeat' apply And.intro) <;> rfl)) ?_; (with_reducible refine (remoraref04_whole.calls (wrap64 ((wrap64 (t121 - (wrap64 (a2)))) - 31)) (wrap64 (t122 - (wrap64 ((Int.tmod a1 65536) * (wrap64 ((wrap64 (a2)) + 31)))))) t123 _ A6.out).mono ?_); rintro e w' ⟨rfl, ⟨nd, rfl⟩⟩; refine ⟨_, rfl, ?_⟩))
  go_ret
  exact ⟨by first | rfl | (simp; done) | (simp [*]; done), by repeat (first | exact Drawn0.refl _ | apply Drawn0.step)⟩

/-! ### remoraref04_Roll: function 18 -/
def remoraref04_Roll.f (a0 : Int) (a1 : Int) (a2 : Int) (a3 : Int) : Option (Int) := (remoraref04_Out.f a0 a1 a2).bind fun t124 => ((remoraref04_In.f t124 a1 a3).bind fun t125 => (some t125))
set_option maxHeartbeats 8000000 in
set_option maxRecDepth 100000 in
theorem remoraref04_Roll.calls (a0 : Int) (a1 : Int) (a2 : Int) (a3 : Int) (r : Int) (w : World) (h : remoraref04_Roll.f a0 a1 a2 a3 = some r) :
    Calls Try.prog 18 #[.int .u32 a0, .int .i64 a1, .int .u8 a2, .int .u8 a3] w fun e w' => e = .returned (.int .u32 r) ∧ Drawn0 w w' := by
  have H : ((remoraref04_Out.f a0 a1 a2).bind fun t124 => ((remoraref04_In.f t124 a1 a3).bind fun t125 => (some t125))) = some r := h
  clear h
  replace H := Option.bind_eq_some_iff.mp H
  obtain ⟨t124, A50, H⟩ := H
  replace H : ((remoraref04_In.f t124 a1 a3).bind fun t125 => (some t125)) = some r := H
  have A5 := Aside0.mk A50
  clear A50
  replace H := Option.bind_eq_some_iff.mp H
  obtain ⟨t125, A60, H⟩ := H
  replace H : (some t125) = some r := H
  have A6 := Aside0.mk A60
  clear A60
  obtain rfl := Option.some.inj H
  go_enter Try.func18, Try.ntmps18
  go_wp2_with (first | ((with_reducible refine gate_callee (f := 16) rfl ?_); refine goesL_ (some 12) rfl rfl Try.func16 (by kernel_rfl) rfl #[.int .u32 a0, .int .i64 a1, .int .u8 a2] rfl (by (try simp only [List.map_toArray, List.map_cons, List.map_nil]); first | done | rfl | (simp only [List.length_drop, List.length_take]; rfl) | (simp; done) | (simp; (repeat' apply And.intro) <;> rfl)) ?_; (with_reducible refine (remoraref04_Out.calls a0 a1 a2 t124 _ A5.out).mono ?_); rintro e w' ⟨rfl, ⟨nd, rfl⟩⟩; refine ⟨_, rfl, ?_⟩) | ((with_reducible refine gate_callee (f := 14) rfl ?_); refine goesL_ (some 15) rfl rfl Try.func14 (by kernel_rfl) rfl #[.int .u32 t124, .int .i64 a1, .int .u8 a3] rfl (by (try simp only [List.map_toArray, List.map_cons, List.map_nil]); first | done | rfl | (simp only [List.length_drop, List.length_take]; rfl) | (simp; done) | (simp; (repeat' apply And.intro) <;> rfl)) ?_; (with_reducible refine (remoraref04_In.calls t124 a1 a3 t125 _ A6.out).mono ?_); rintro e w' ⟨rfl, ⟨nd, rfl⟩⟩; refine ⟨_, rfl, ?_⟩))
  go_ret
  exact ⟨by first | rfl | (simp; done) | (simp [*]; done), by repeat (first | exact Drawn0.refl _ | apply Drawn0.step)⟩

/-! ### roll_Join: function 19 -/
def roll_Join.f (a0 : Int) (a1 : Int) (a2 : Int) : Option (Int) := (roll_halves.f a0).bind fun bt126 => ((roll_halves.f a1).bind fun bt128 => ((roll_small.f a2).bind fun t130 => ((roll_join.f ((bt126.1 + bt128.1) % 4294967296) ((((bt126.2 + bt128.2) % 4294967296) + ((t130 * bt126.1) % 4294967296)) % 4294967296)).bind fun t131 => (some t131))))
set_option maxHeartbeats 8000000 in
set_option maxRecDepth 100000 in
theorem roll_Join.calls (a0 : Int) (a1 : Int) (a2 : Int) (r : Int) (w : World) (h : roll_Join.f a0 a1 a2 = some r) :
    Calls Try.prog 19 #[.int .u32 a0, .int .u32 a1, .int .i64 a2] w fun e w' => e = .returned (.int .u32 r) ∧ Drawn0 w w' := by
  have H : ((roll_halves.f a0).bind fun bt126 => ((roll_halves.f a1).bind fun bt128 => ((roll_small.f a2).bind fun t130 => ((roll_join.f ((bt126.1 + bt128.1) % 4294967296) ((((bt126.2 + bt128.2) % 4294967296) + ((t130 * bt126.1) % 4294967296)) % 4294967296)).bind fun t131 => (some t131))))) = some r := h
  clear h
  replace H := Option.bind_eq_some_iff.mp H
  obtain ⟨⟨t126, t127⟩, A40, H⟩ := H
  replace H : ((roll_halves.f a1).bind fun bt128 => ((roll_small.f a2).bind fun t130 => ((roll_join.f ((t126 + bt128.1) % 4294967296) ((((t127 + bt128.2) % 4294967296) + ((t130 * t126) % 4294967296)) % 4294967296)).bind fun t131 => (some t131)))) = some r := H
  have A4 := Aside0.mk A40
  clear A40
  replace H := Option.bind_eq_some_iff.mp H
  obtain ⟨⟨t128, t129⟩, A50, H⟩ := H
  replace H : ((roll_small.f a2).bind fun t130 => ((roll_join.f ((t126 + t128) % 4294967296) ((((t127 + t129) % 4294967296) + ((t130 * t126) % 4294967296)) % 4294967296)).bind fun t131 => (some t131))) = some r := H
  have A5 := Aside0.mk A50
  clear A50
  replace H := Option.bind_eq_some_iff.mp H
  obtain ⟨t130, A60, H⟩ := H
  replace H : ((roll_join.f ((t126 + t128) % 4294967296) ((((t127 + t129) % 4294967296) + ((t130 * t126) % 4294967296)) % 4294967296)).bind fun t131 => (some t131)) = some r := H
  have A6 := Aside0.mk A60
  clear A60
  replace H := Option.bind_eq_some_iff.mp H
  obtain ⟨t131, A70, H⟩ := H
  replace H : (some t131) = some r := H
  have A7 := Aside0.mk A70
  clear A70
  obtain rfl := Option.some.inj H
  go_enter Try.func19, Try.ntmps19
  go_wp2_with (first | ((with_reducible refine gate_callee (f := 37) rfl ?_); refine goesL_ (some 13) rfl rfl Try.func37 (by kernel_rfl) rfl #[.int .u32 a0] rfl (by (try simp only [List.map_toArray, List.map_cons, List.map_nil]); first | done | rfl | (simp only [List.length_drop, List.length_take]; rfl) | (simp; done) | (simp; (repeat' apply And.intro) <;> rfl)) ?_; (with_reducible refine (roll_halves.calls a0 t126 t127 _ A4.out).mono ?_); rintro e w' ⟨rfl, ⟨nd, rfl⟩⟩; refine ⟨_, rfl, ?_⟩) | ((with_reducible refine gate_callee (f := 37) rfl ?_); refine goesL_ (some 18) rfl rfl Try.func37 (by kernel_rfl) rfl #[.int .u32 a1] rfl (by (try simp only [List.map_toArray, List.map_cons, List.map_nil]); first | done | rfl | (simp only [List.length_drop, List.length_take]; rfl) | (simp; done) | (simp; (repeat' apply And.intro) <;> rfl)) ?_; (with_reducible refine (roll_halves.calls a1 t128 t129 _ A5.out).mono ?_); rintro e w' ⟨rfl, ⟨nd, rfl⟩⟩; refine ⟨_, rfl, ?_⟩) | ((with_reducible refine gate_callee (f := 41) rfl ?_); refine goesL_ (some 28) rfl rfl Try.func41 (by kernel_rfl) rfl #[.int .i64 a2] rfl (by (try simp only [List.map_toArray, List.map_cons, List.map_nil]); first | done | rfl | (simp only [List.length_drop, List.length_take]; rfl) | (simp; done) | (simp; (repeat' apply And.intro) <;> rfl)) ?_; (with_reducible refine (roll_small.calls a2 t130 _ A6.out).mono ?_); rintro e w' ⟨rfl, ⟨nd, rfl⟩⟩; refine ⟨_, rfl, ?_⟩) | ((with_reducible refine gate_callee (f := 38) rfl ?_); refine goesL_ (some 32) rfl rfl Try.func38 (by kernel_rfl) rfl #[.int .u32 ((t126 + t128) % 4294967296), .int .u32 ((((t127 + t129) % 4294967296) + ((t130 * t126) % 4294967296)) % 4294967296)] rfl (by (try simp only [List.map_toArray, List.map_cons, List.map_nil]); first | done | rfl | (simp only [List.length_drop, List.length_take]; rfl) | (simp; done) | (simp; (repeat' apply And.intro) <;> rfl)) ?_; (with_reducible refine (roll_join.calls ((t126 + t128) % 4294967296) ((((t127 + t129) % 4294967296) + ((t130 * t126) % 4294967296)) % 4294967296) t131 _ A7.out).mono ?_); rintro e w' ⟨rfl, ⟨nd, rfl⟩⟩; refine ⟨_, rfl, ?_⟩))
  go_ret
  exact ⟨by first | rfl | (simp; done) | (simp [*]; done), by repeat (first | exact Drawn0.refl _ | apply Drawn0.step)⟩

/-! ### remoraref04_Join: function 20 -/
def remoraref04_Join.f (a0 : Int) (a1 : Int) (a2 : Int) : Option (Int) := (remoraref04_low.f a0).bind fun t132 => ((remoraref04_low.f a1).bind fun t133 => ((remoraref04_high.f a0).bind fun t134 => ((remoraref04_high.f a1).bind fun t135 => ((remoraref04_low.f a0).bind fun t136 => ((remoraref04_whole.f (wrap64 (t132 + t133)) (wrap64 ((wrap64 (t134 + t135)) + (wrap64 ((Int.tmod a2 65536) * t136))))).bind fun t137 => (some t137))))))
set_option maxHeartbeats 8000000 in
set_option maxRecDepth 100000 in
theorem remoraref04_Join.calls (a0 : Int) (a1 : Int) (a2 : Int) (r : Int) (w : World) (h : remoraref04_Join.f a0 a1 a2 = some r) :
    Calls Try.prog 20 #[.int .u32 a0, .int .u32 a1, .int .i64 a2] w fun e w' => e = .returned (.int .u32 r) ∧ Drawn0 w w' := by
  have H : ((remoraref04_low.f a0).bind fun t132 => ((remoraref04_low.f a1).bind fun t133 => ((remoraref04_high.f a0).bind fun t134 => ((remoraref04_high.f a1).bind fun t135 => ((remoraref04_low.f a0).bind fun t136 => ((remoraref04_whole.f (wrap64 (t132 + t133)) (wrap64 ((wrap64 (t134 + t135)) + (wrap64 ((Int.tmod a2 65536) * t136))))).bind fun t137 => (some t137))))))) = some r := h
  clear h
  replace H := Option.bind_eq_some_iff.mp H
  obtain ⟨t132, A40, H⟩ := H
  replace H : ((remoraref04_low.f a1).bind fun t133 => ((remoraref04_high.f a0).bind fun t134 => ((remoraref04_high.f a1).bind fun t135 => ((remoraref04_low.f a0).bind fun t136 => ((remoraref04_whole.f (wrap64 (t132 + t133)) (wrap64 ((wrap64 (t134 + t135)) + (wrap64 ((Int.tmod a2 65536) * t136))))).bind fun t137 => (some t137)))))) = some r := H
  have A4 := Aside0.mk A40
  clear A40
  replace H := Option.bind_eq_some_iff.mp H
  obtain ⟨t133, A50, H⟩ := H
  replace H : ((remoraref04_high.f a0).bind fun t134 => ((remoraref04_high.f a1).bind fun t135 => ((remoraref04_low.f a0).bind fun t136 => ((remoraref04_whole.f (wrap64 (t132 + t133)) (wrap64 ((wrap64 (t134 + t135)) + (wrap64 ((Int.tmod a2 65536) * t136))))).bind fun t137 => (some t137))))) = some r := H
  have A5 := Aside0.mk A50
  clear A50
  replace H := Option.bind_eq_some_iff.mp H
  obtain ⟨t134, A60, H⟩ := H
  replace H : ((remoraref04_high.f a1).bind fun t135 => ((remoraref04_low.f a0).bind fun t136 => ((remoraref04_whole.f (wrap64 (t132 + t133)) (wrap64 ((wrap64 (t134 + t135)) + (wrap64 ((Int.tmod a2 65536) * t136))))).bind fun t137 => (some t137)))) = some r := H
  have A6 := Aside0.mk A60
  clear A60
  replace H := Option.bind_eq_some_iff.mp H
  obtain ⟨t135, A70, H⟩ := H
  replace H : ((remoraref04_low.f a0).bind fun t136 => ((remoraref04_whole.f (wrap64 (t132 + t133)) (wrap64 ((wrap64 (t134 + t135)) + (wrap64 ((Int.tmod a2 65536) * t136))))).bind fun t137 => (some t137))) = some r := H
  have A7 := Aside0.mk A70
  clear A70
  replace H := Option.bind_eq_some_iff.mp H
  obtain ⟨t136, A80, H⟩ := H
  replace H : ((remoraref04_whole.f (wrap64 (t132 + t133)) (wrap64 ((wrap64 (t134 + t135)) + (wrap64 ((Int.tmod a2 65536) * t136))))).bind fun t137 => (some t137)) = some r := H
  have A8 := Aside0.mk A80
  clear A80
  replace H := Option.bind_eq_some_iff.mp H
  obtain ⟨t137, A90, H⟩ := H
  replace H : (some t137) = some r := H
  have A9 := Aside0.mk A90
  clear A90
  obtain rfl := Option.some.inj H
  go_enter Try.func20, Try.ntmps20
  go_wp2_with (first | ((with_reducible refine gate_callee (f := 39) rfl ?_); refine goesL_ (some 10) rfl rfl Try.func39 (by kernel_rfl) rfl #[.int .u32 a0] rfl (by (try simp only [List.map_toArray, List.map_cons, List.map_nil]); first | done | rfl | (simp only [List.length_drop, List.length_take]; rfl) | (simp; done) | (simp; (repeat' apply And.intro) <;> rfl)) ?_; (with_reducible refine (remoraref04_low.calls a0 t132 _ A4.out).mono ?_); rintro e w' ⟨rfl, ⟨nd, rfl⟩⟩; refine ⟨_, rfl, ?_⟩) | ((with_reducible refine gate_callee (f := 39) rfl ?_); refine goesL_ (some 12) rfl rfl Try.func39 (by kernel_rfl) rfl #[.int .u32 a1] rfl (by (try simp only [List.map_toArray, List.map_cons, List.map_nil]); first | done | rfl | (simp only [List.length_drop, List.length_take]; rfl) | (simp; done) | (simp; (repeat' apply And.intro) <;> rfl)) ?_; (with_reducible refine (remoraref04_low.calls a1 t133 _ A5.out).mono ?_); rintro e w' ⟨rfl, ⟨nd, rfl⟩⟩; refine ⟨_, rfl, ?_⟩) | ((with_reducible refine gate_callee (f := 40) rfl ?_); refine goesL_ (some 15) rfl rfl Try.func40 (by kernel_rfl) rfl #[.int .u32 a0] rfl (by (try simp only [List.map_toArray, List.map_cons, List.map_nil]); first | done | rfl | (simp only [List.length_drop, List.length_take]; rfl) | (simp; done) | (simp; (repeat' apply And.intro) <;> rfl)) ?_; (with_reducible refine (remoraref04_high.calls a0 t134 _ A6.out).mono ?_); rintro e w' ⟨rfl, ⟨nd, rfl⟩⟩; refine ⟨_, rfl, ?_⟩) | ((with_reducible refine gate_callee (f := 40) rfl ?_); refine goesL_ (some 17) rfl rfl Try.func40 (by kernel_rfl) rfl #[.int .u32 a1] rfl (by (try simp only [List.map_toArray, List.map_cons, List.map_nil]); first | done | rfl | (simp only [List.length_drop, List.length_take]; rfl) | (simp; done) | (simp; (repeat' apply And.intro) <;> rfl)) ?_; (with_reducible refine (remoraref04_high.calls a1 t135 _ A7.out).mono ?_); rintro e w' ⟨rfl, ⟨nd, rfl⟩⟩; refine ⟨_, rfl, ?_⟩) | ((with_reducible refine gate_callee (f := 39) rfl ?_); refine goesL_ (some 21) rfl rfl Try.func39 (by kernel_rfl) rfl #[.int .u32 a0] rfl (by (try simp only [List.map_toArray, List.map_cons, List.map_nil]); first | done | rfl | (simp only [List.length_drop, List.length_take]; rfl) | (simp; done) | (simp; (repeat' apply And.intro) <;> rfl)) ?_; (with_reducible refine (remoraref04_low.calls a0 t136 _ A8.out).mono ?_); rintro e w' ⟨rfl, ⟨nd, rfl⟩⟩; refine ⟨_, rfl, ?_⟩) | ((with_reducible refine gate_callee (f := 36) rfl ?_); refine goesL_ (some 24) rfl rfl Try.func36 (by kernel_rfl) rfl #[.int .i64 (wrap64 (t132 + t133)), .int .i64 (wrap64 ((wrap64 (t134 + t135)) + (wrap64 ((Int.tmod a2 65536) * t136))))] rfl (by (try simp only [List.map_toArray, List.map_cons, List.map_nil]); first | done | rfl | (simp only [List.length_drop, List.length_take]; rfl) | (simp; done) | (simp; (repeat' apply And.intro) <;> rfl)) ?_; (with_reducible refine (remoraref04_whole.calls (wrap64 (t132 + t133)) (wrap64 ((wrap64 (t134 + t135)) + (wrap64 ((Int.tmod a2 65536) * t136)))) t137 _ A9.out).mono ?_); rintro e w' ⟨rfl, ⟨nd, rfl⟩⟩; refine ⟨_, rfl, ?_⟩))
  go_ret
  exact ⟨by first | rfl | (simp; done) | (simp [*]; done), by repeat (first | exact Drawn0.refl _ | apply Drawn0.step)⟩

end Go.Proofs.Ytnbekpmkjpjneaa.P
