-- Written by a program of the session (wip/tool/mk.py) out of the translation; Lean checks it.
import Derived.Test.YtniboafnkiijcaaDoorProg
import Derived.Below
import Derived.Deep.Draws
import Derived.Deep.AppendLies
import Derived.Maps.AppendAt
import Derived.OwnWalk
import Derived.Laws.BytesArg
import Derived.Laws.MakeOwn
import Derived.Laws.OwnMore
import Derived.Deep.OwnRows
import Derived.Tactics
import Derived.Lib.ConvBytes
import Derived.Laws.Slices
import Derived.WalkKit
import Derived.KernelRfl
import Derived.RowKit3
import Derived.Deep.LoopGhost
import Derived.Deep.QuietTactic
import Derived.BigQuiet
import Derived.WideLaws
import Derived.Deep.DeepCutAuto
import Derived.Deep.CutBlock
import Derived.Deep.RegionHeld3
import Derived.Laws.Rows
import Derived.Lib.AppendStr
import Derived.ArgAppend
import Derived.Laws.IdiomCopy
import Derived.OrdersHeld
import Derived.Laws.BitsLemmas
import Derived.RowKit
import Derived.Test.YtniboafnkiijcaaDoorWWords
import Derived.Test.YtniboafnkiijcaaDoorWLast
import Derived.Test.YtniboafnkiijcaaDoorWQPut
import Derived.Test.YtniboafnkiijcaaDoorWApart
import Derived.Test.YtniboafnkiijcaaDoorWArr
import Derived.Test.YtniboafnkiijcaaDoorWZeros
import Derived.Test.YtniboafnkiijcaaDoorWFoot
import Derived.Test.YtniboafnkiijcaaDoorWKept
import Derived.Test.YtniboafnkiijcaaDoorWShare
import Derived.Test.YtniboafnkiijcaaDoorWN
import Derived.Test.YtniboafnkiijcaaDoorWRepsOne
import Derived.Test.YtniboafnkiijcaaDoorWGuard
import Derived.Test.YtniboafnkiijcaaDoorWNEv
import Derived.Test.YtniboafnkiijcaaDoorWMore
import Derived.Test.YtniboafnkiijcaaDoorOwn
import Derived.Test.YtniboafnkiijcaaDoorGT
import Derived.Lib.OthersKept
import Derived.Laws.RangeAny
import Derived.Deep.LoopGhost
import Derived.Lib.Bytealg
import Derived.Lib.Walk
import Derived.Maps.OwnSet
import Derived.StringKeys
import Derived.Deep.QuietTactic
import Derived.Test.YtniboafnkiijcaaDoorNumSpec
namespace Go.Proofs.YtniboafnkiijcaaDoor.P
open Go.RowKit Go.Proofs.YtniboafnkiijcaaDoorW.PrintWords Go.Proofs.YtniboafnkiijcaaDoorW.PrintLast Go.Proofs.YtniboafnkiijcaaDoorW.PrintMore
attribute [local go_sem] max2_int min2_int max_two min_two max_three min_three max_four min_four   -- for this text's walks alone
set_option linter.unusedVariables false
set_option linter.unusedSimpArgs false

def errW : Option Int → Value
  | none => .nilIface
  | some c => .iface 0 (.int .i64 c)
theorem errW_none : errW none = .nilIface := rfl
theorem errW_some (c : Int) : errW (some c) = .iface 0 (.int .i64 c) := rfl

theorem info5 : (Tryd.prog.info? 5).map (fun i => (i.zero, i.size, i.bytes)) = some (some (.int .u8 0), 1, 1) := by kernel_rfl
/-! #### struct type 35 -/
structure S35 where
  f0 : Int
  f1 : Int
  f2 : Int
  f3 : Int
  f4 : Int
def z35 : S35 := ⟨(0 : Int), (0 : Int), (0 : Int), (0 : Int), (0 : Int)⟩
def k35 : Kd S35 := Kd.iso (Kd.pair (Kd.int .i64) (Kd.pair (Kd.int .i64) (Kd.pair (Kd.int .i64) (Kd.pair (Kd.int .i64) (Kd.int .i64))))) (fun x : S35 => (x.f0, x.f1, x.f2, x.f3, x.f4))
theorem k35_open {w : World} {x : S35} {cs : List Value} (h : k35.K w x cs) : cs = [.int .i64 x.f0, .int .i64 x.f1, .int .i64 x.f2, .int .i64 x.f3, .int .i64 x.f4] := by
  obtain ⟨_, _, rfl, rfl, ⟨_, _, rfl, rfl, ⟨_, _, rfl, rfl, ⟨_, _, rfl, rfl, rfl⟩⟩⟩⟩ := h
  exact rfl
/-! #### struct type 37 -/
structure S37 where
  f0 : Int
  f1 : Int
  f2 : Int
  f3 : Int
  f4 : S35
  f5 : ByteArray
def z37 : S37 := ⟨(0 : Int), (0 : Int), (0 : Int), (0 : Int), z35, (⟨#[]⟩ : ByteArray)⟩
def k37 : Kd S37 := Kd.iso (Kd.pair (Kd.int .i64) (Kd.pair (Kd.int .i64) (Kd.pair (Kd.int .i64) (Kd.pair (Kd.int .i64) (Kd.pair k35 Kd.string))))) (fun x : S37 => (x.f0, x.f1, x.f2, x.f3, x.f4, x.f5))
theorem k37_open {w : World} {x : S37} {cs : List Value} (h : k37.K w x cs) : cs = [.int .i64 x.f0, .int .i64 x.f1, .int .i64 x.f2, .int .i64 x.f3, .int .i64 x.f4.f0, .int .i64 x.f4.f1, .int .i64 x.f4.f2, .int .i64 x.f4.f3, .int .i64 x.f4.f4, .string x.f5] := by
  obtain ⟨_, _, rfl, rfl, ⟨_, _, rfl, rfl, ⟨_, _, rfl, rfl, ⟨_, _, rfl, rfl, ⟨_, _, rfl, s4, rfl⟩⟩⟩⟩⟩ := h
  obtain rfl := k35_open s4
  exact rfl
/-! #### struct type 39 -/
structure S39 where
  f0 : Int
  f1 : ByteArray
  f2 : S37
  f3 : ByteArray
def z39 : S39 := ⟨(0 : Int), (⟨#[]⟩ : ByteArray), z37, (⟨#[]⟩ : ByteArray)⟩
def k39 : Kd S39 := Kd.iso (Kd.pair (Kd.int .i64) (Kd.pair Kd.string (Kd.pair k37 Kd.string))) (fun x : S39 => (x.f0, x.f1, x.f2, x.f3))
theorem k39_open {w : World} {x : S39} {cs : List Value} (h : k39.K w x cs) : cs = [.int .i64 x.f0, .string x.f1, .int .i64 x.f2.f0, .int .i64 x.f2.f1, .int .i64 x.f2.f2, .int .i64 x.f2.f3, .int .i64 x.f2.f4.f0, .int .i64 x.f2.f4.f1, .int .i64 x.f2.f4.f2, .int .i64 x.f2.f4.f3, .int .i64 x.f2.f4.f4, .string x.f2.f5, .string x.f3] := by
  obtain ⟨_, _, rfl, rfl, ⟨_, _, rfl, rfl, ⟨_, _, rfl, s2, rfl⟩⟩⟩ := h
  obtain rfl := k37_open s2
  exact rfl
def rd_T39 (xs : List S39) (i : Int) : S39 := xs.getD i.toNat z39
theorem at_T39 {w : World} {A : Option Addr} {n : Nat} {xs : List S39} (h : Kd.C k39 w A n xs) (i : Int) (h0 : 0 ≤ i) (h1 : i < n) : ∃ ad , A = some ad ∧ w.cell? (ad.add (i.toNat * 13)) = some (.int .i64 (rd_T39 xs i).f0) ∧ w.cell? ⟨(ad.add (i.toNat * 13)).block, (ad.add (i.toNat * 13)).off + 1, none⟩ = some (.string (rd_T39 xs i).f1) ∧ w.cell? ⟨(ad.add (i.toNat * 13)).block, (ad.add (i.toNat * 13)).off + 2, none⟩ = some (.int .i64 (rd_T39 xs i).f2.f0) ∧ w.cell? ⟨(ad.add (i.toNat * 13)).block, (ad.add (i.toNat * 13)).off + 3, none⟩ = some (.int .i64 (rd_T39 xs i).f2.f1) ∧ w.cell? ⟨(ad.add (i.toNat * 13)).block, (ad.add (i.toNat * 13)).off + 4, none⟩ = some (.int .i64 (rd_T39 xs i).f2.f2) ∧ w.cell? ⟨(ad.add (i.toNat * 13)).block, (ad.add (i.toNat * 13)).off + 5, none⟩ = some (.int .i64 (rd_T39 xs i).f2.f3) ∧ w.cell? ⟨(ad.add (i.toNat * 13)).block, (ad.add (i.toNat * 13)).off + 6, none⟩ = some (.int .i64 (rd_T39 xs i).f2.f4.f0) ∧ w.cell? ⟨(ad.add (i.toNat * 13)).block, (ad.add (i.toNat * 13)).off + 7, none⟩ = some (.int .i64 (rd_T39 xs i).f2.f4.f1) ∧ w.cell? ⟨(ad.add (i.toNat * 13)).block, (ad.add (i.toNat * 13)).off + 8, none⟩ = some (.int .i64 (rd_T39 xs i).f2.f4.f2) ∧ w.cell? ⟨(ad.add (i.toNat * 13)).block, (ad.add (i.toNat * 13)).off + 9, none⟩ = some (.int .i64 (rd_T39 xs i).f2.f4.f3) ∧ w.cell? ⟨(ad.add (i.toNat * 13)).block, (ad.add (i.toNat * 13)).off + 10, none⟩ = some (.int .i64 (rd_T39 xs i).f2.f4.f4) ∧ w.cell? ⟨(ad.add (i.toNat * 13)).block, (ad.add (i.toNat * 13)).off + 11, none⟩ = some (.string (rd_T39 xs i).f2.f5) ∧ w.cell? ⟨(ad.add (i.toNat * 13)).block, (ad.add (i.toNat * 13)).off + 12, none⟩ = some (.string (rd_T39 xs i).f3) := by
  obtain ⟨ad, c, e, _, hK, hc0⟩ := Kd.C_get h z39 i h0 h1
  have hc : ∀ j u, c[j]? = some u → w.cell? (ad.add (i.toNat * 13 + j)) = some u := hc0
  obtain rfl := k39_open hK
  exact ⟨ad, e, hc 0 _ rfl, by rw [← add_field _ _ 1 (by omega)]; exact hc 1 _ rfl, by rw [← add_field _ _ 2 (by omega)]; exact hc 2 _ rfl, by rw [← add_field _ _ 3 (by omega)]; exact hc 3 _ rfl, by rw [← add_field _ _ 4 (by omega)]; exact hc 4 _ rfl, by rw [← add_field _ _ 5 (by omega)]; exact hc 5 _ rfl, by rw [← add_field _ _ 6 (by omega)]; exact hc 6 _ rfl, by rw [← add_field _ _ 7 (by omega)]; exact hc 7 _ rfl, by rw [← add_field _ _ 8 (by omega)]; exact hc 8 _ rfl, by rw [← add_field _ _ 9 (by omega)]; exact hc 9 _ rfl, by rw [← add_field _ _ 10 (by omega)]; exact hc 10 _ rfl, by rw [← add_field _ _ 11 (by omega)]; exact hc 11 _ rfl, by rw [← add_field _ _ 12 (by omega)]; exact hc 12 _ rfl⟩

/-! #### struct type 71 -/
structure S71 where
  f0 : ByteArray
  f1 : Int
  f2 : Int
  f3 : Int
  f4 : Int
  f5 : ByteArray
def k71 : Kd S71 := Kd.iso (Kd.pair Kd.string (Kd.pair (Kd.int .i64) (Kd.pair (Kd.int .i64) (Kd.pair (Kd.int .i64) (Kd.pair (Kd.int .i64) Kd.string))))) (fun x : S71 => (x.f0, x.f1, x.f2, x.f3, x.f4, x.f5))
/-! ### remoraref33_Small: function 9 -/
def remoraref33_Small.l0 : Nat → List (S39) → Int → Option (Bool)
  | 0, _, _ => none
  | k + 1, x0, x3 => if x3 < (x0.length : Int) then (if 0 ≤ x3 then (if (((rd_T39 x0 x3).f1).size : Int) > 600 then (some false) else (if (((rd_T39 x0 x3).f3).size : Int) > 100 then (some false) else (remoraref33_Small.l0 k x0 (wrap64 (x3 + 1))))) else (none)) else (some (decide ((x0.length : Int) ≤ 60)))
def remoraref33_Small.f (k : Nat) (l0 : List (S39)) : Option (Bool) := remoraref33_Small.l0 k l0 0
set_option maxHeartbeats 8000000 in
set_option maxRecDepth 100000 in
theorem remoraref33_Small.calls (k : Nat) (A0 : Option Addr) (c0 : Nat) (l0 : List (S39)) (r : Bool) (w : World) (hr0 : Kd.C k39 w A0 l0.length l0) (hc0 : l0.length ≤ c0) (h : remoraref33_Small.f k l0 = some r) :
    Calls Tryd.prog 9 #[.slice A0 l0.length c0] w fun e w' => e = .returned (.bool r) ∧ Drawn0 w w' := by
  have HR0 := Aside0.mk hr0
  have HC0 := Aside0.mk hc0
  clear hr0 hc0
  have H : (remoraref33_Small.l0 k l0 0) = some r := h
  clear h
  have H' := Aside0.mk H
  clear H
  go_enter Tryd.func9, Tryd.ntmps9
  go_wp2
  go_loopg [3] k (fun kq v3 w' => ∃ (x3_1 : Int), v3 = .int .i64 x3_1 ∧ Aside0 (remoraref33_Small.l0 kq l0 x3_1 = some r) ∧ Aside0 (kq ≤ k) ∧ Drawn0 w w')
  case atStart => exact ⟨(0), (by first | rfl | (simp; done) | (simp [*]; done)), H', ⟨Nat.le_refl _⟩, by repeat (first | exact Drawn0.refl _ | apply Drawn0.step)⟩
  case round =>
    clear H'
    obtain ⟨x3_1, rfl, HA, HK1, ⟨m1, rfl⟩⟩ := hrel
    cases gk with
    | zero => exact absurd HA.out (by simp [remoraref33_Small.l0])
    | succ k1 =>
      have H := HA.out
      clear HA
      simp only [remoraref33_Small.l0] at H
      by_cases c2 : x3_1 < (l0.length : Int)
      · rw [if_pos c2] at H
        have c2b0 : decide (x3_1 < (l0.length : Int)) = true := decide_eq_true c2
        clear c2
        by_cases c3 : 0 ≤ x3_1
        · rw [if_pos c3] at H
          have c3b0 : decide (0 ≤ x3_1) = true := decide_eq_true c3
          clear c3
          by_cases c4 : (((rd_T39 l0 x3_1).f1).size : Int) > 600
          · rw [if_pos c4] at H
            have c4b0 : decide (600 < (((rd_T39 l0 x3_1).f1).size : Int)) = true := decide_eq_true c4
            have c4b1 : decide (600 < ((rd_T39 l0 x3_1).f1).size) = true := decide_eq_true (by omega)
            clear c4
            obtain rfl := Option.some.inj H
            have p101 : 0 ≤ (x3_1 : Int) := of_decide_eq_true (by first | (with_reducible assumption) | assumption)
            have q101 : x3_1 < (l0.length : Int) := of_decide_eq_true (by first | (with_reducible assumption) | assumption)
            obtain ⟨ad101, e101, hx101_0, hx101_1, hx101_2, hx101_3, hx101_4, hx101_5, hx101_6, hx101_7, hx101_8, hx101_9, hx101_10, hx101_11, hx101_12⟩ := at_T39 HR0.out x3_1 p101 q101
            cases e101
            replace p101 := eq_true p101
            replace q101 := eq_true q101
            go_wp2
            go_ret
            exact ⟨by first | rfl | (simp; done) | (simp [*]; done), by repeat (first | exact Drawn0.refl _ | apply Drawn0.step)⟩
          · rw [if_neg c4] at H
            have c4b0 : decide (600 < (((rd_T39 l0 x3_1).f1).size : Int)) = false := decide_eq_false c4
            have c4b1 : decide (600 < ((rd_T39 l0 x3_1).f1).size) = false := decide_eq_false (by omega)
            clear c4
            by_cases c5 : (((rd_T39 l0 x3_1).f3).size : Int) > 100
            · rw [if_pos c5] at H
              have c5b0 : decide (100 < (((rd_T39 l0 x3_1).f3).size : Int)) = true := decide_eq_true c5
              have c5b1 : decide (100 < ((rd_T39 l0 x3_1).f3).size) = true := decide_eq_true (by omega)
              clear c5
              obtain rfl := Option.some.inj H
              have p101 : 0 ≤ (x3_1 : Int) := of_decide_eq_true (by first | (with_reducible assumption) | assumption)
              have q101 : x3_1 < (l0.length : Int) := of_decide_eq_true (by first | (with_reducible assumption) | assumption)
              obtain ⟨ad101, e101, hx101_0, hx101_1, hx101_2, hx101_3, hx101_4, hx101_5, hx101_6, hx101_7, hx101_8, hx101_9, hx101_10, hx101_11, hx101_12⟩ := at_T39 HR0.out x3_1 p101 q101
              cases e101
              replace p101 := eq_true p101
              replace q101 := eq_true q101
              have p102 : 0 ≤ (x3_1 : Int) := of_decide_eq_true (by first | (with_reducible assumption) | assumption)
              have q102 : x3_1 < (l0.length : Int) := of_decide_eq_true (by first | (with_reducible assumption) | assumption)
              obtain ⟨ad102, e102, hx102_0, hx102_1, hx102_2, hx102_3, hx102_4, hx102_5, hx102_6, hx102_7, hx102_8, hx102_9, hx102_10, hx102_11, hx102_12⟩ := at_T39 HR0.out x3_1 p102 q102
              obtain rfl : ad101 = ad102 := (by injection e102)
              replace p102 := eq_true p102
              replace q102 := eq_true q102
              go_wp2
              go_ret
              exact ⟨by first | rfl | (simp; done) | (simp [*]; done), by repeat (first | exact Drawn0.refl _ | apply Drawn0.step)⟩
            · rw [if_neg c5] at H
              have c5b0 : decide (100 < (((rd_T39 l0 x3_1).f3).size : Int)) = false := decide_eq_false c5
              have c5b1 : decide (100 < ((rd_T39 l0 x3_1).f3).size) = false := decide_eq_false (by omega)
              clear c5
              have H' := Aside0.mk H
              clear H
              have p101 : 0 ≤ (x3_1 : Int) := of_decide_eq_true (by first | (with_reducible assumption) | assumption)
              have q101 : x3_1 < (l0.length : Int) := of_decide_eq_true (by first | (with_reducible assumption) | assumption)
              obtain ⟨ad101, e101, hx101_0, hx101_1, hx101_2, hx101_3, hx101_4, hx101_5, hx101_6, hx101_7, hx101_8, hx101_9, hx101_10, hx101_11, hx101_12⟩ := at_T39 HR0.out x3_1 p101 q101
              cases e101
              replace p101 := eq_true p101
              replace q101 := eq_true q101
              have p102 : 0 ≤ (x3_1 : Int) := of_decide_eq_true (by first | (with_reducible assumption) | assumption)
              have q102 : x3_1 < (l0.length : Int) := of_decide_eq_true (by first | (with_reducible assumption) | assumption)
              obtain ⟨ad102, e102, hx102_0, hx102_1, hx102_2, hx102_3, hx102_4, hx102_5, hx102_6, hx102_7, hx102_8, hx102_9, hx102_10, hx102_11, hx102_12⟩ := at_T39 HR0.out x3_1 p102 q102
              obtain rfl : ad101 = ad102 := (by injection e102)
              replace p102 := eq_true p102
              replace q102 := eq_true q102
              go_wp2
              go_roundg k1
              case measure => have := HK1.out; omega
              case rel => exact ⟨(wrap64 (x3_1 + 1)), (by first | rfl | (simp; done) | (simp [*]; done)), H', ⟨by have := HK1.out; omega⟩, by repeat (first | exact Drawn0.refl _ | apply Drawn0.step)⟩
        · rw [if_neg c3] at H
          exact absurd H (by simp)
      · rw [if_neg c2] at H
        have c2b0 : decide (x3_1 < (l0.length : Int)) = false := decide_eq_false c2
        clear c2
        obtain rfl := Option.some.inj H
        go_wp2
        go_ret
        exact ⟨by first | rfl | (simp; done) | (simp [*]; done), by repeat (first | exact Drawn0.refl _ | apply Drawn0.step)⟩

/-! ### remoraref17_Texts: function 17 -/
def remoraref17_Texts.l0 : Nat → List ByteArray → List ByteArray → Int → Option (Bool)
  | 0, _, _, _ => none
  | k + 1, x0, x1, x5 => if x5 < (x0.length : Int) then (if 0 ≤ x5 then (if x5 < (x1.length : Int) then (if (rdOf ByteArray.empty x0 x5).toList = (rdOf ByteArray.empty x1 x5).toList then (remoraref17_Texts.l0 k x0 x1 (wrap64 (x5 + 1))) else (some false)) else (none)) else (none)) else (some true)
def remoraref17_Texts.f (k : Nat) (l0 : List ByteArray) (l1 : List ByteArray) : Option (Bool) := if (l0.length : Int) = (l1.length : Int) then (remoraref17_Texts.l0 k l0 l1 0) else (some false)
set_option maxHeartbeats 8000000 in
set_option maxRecDepth 100000 in
theorem remoraref17_Texts.calls (k : Nat) (A0 : Option Addr) (c0 : Nat) (l0 : List ByteArray) (A1 : Option Addr) (c1 : Nat) (l1 : List ByteArray) (r : Bool) (w : World) (hr0 : Kd.C Kd.string w A0 l0.length l0) (hc0 : l0.length ≤ c0) (hr1 : Kd.C Kd.string w A1 l1.length l1) (hc1 : l1.length ≤ c1) (h : remoraref17_Texts.f k l0 l1 = some r) :
    Calls Tryd.prog 17 #[.slice A0 l0.length c0, .slice A1 l1.length c1] w fun e w' => e = .returned (.bool r) ∧ Drawn0 w w' := by
  have HR0 := Aside0.mk hr0
  have HC0 := Aside0.mk hc0
  clear hr0 hc0
  have HR1 := Aside0.mk hr1
  have HC1 := Aside0.mk hc1
  clear hr1 hc1
  have H : (if (l0.length : Int) = (l1.length : Int) then (remoraref17_Texts.l0 k l0 l1 0) else (some false)) = some r := h
  clear h
  by_cases c3 : (l0.length : Int) = (l1.length : Int)
  · rw [if_pos c3] at H
    have c3b0 : ((l0.length : Int) == (l1.length : Int)) = true := beq_iff_eq.mpr c3
    have c3b1 : ((l0.length : Int) != (l1.length : Int)) = false := bne_eq_false_iff_eq.mpr c3
    have c3b2 : (l0.length == l1.length) = true := by first | simpa using c3 | (simp at c3 ⊢; omega)
    clear c3
    have H' := Aside0.mk H
    clear H
    go_enter Tryd.func17, Tryd.ntmps17
    go_wp2
    repeat (go_quiet (fail); try go_wp2)
    go_loopg [5] k (fun kq v5 w' => ∃ (x5_1 : Int), v5 = .int .i64 x5_1 ∧ Aside0 (remoraref17_Texts.l0 kq l0 l1 x5_1 = some r) ∧ Aside0 (kq ≤ k) ∧ Drawn0 w w')
    case atStart => exact ⟨(0), (by first | rfl | (simp; done) | (simp [*]; done)), H', ⟨Nat.le_refl _⟩, by repeat (first | exact Drawn0.refl _ | apply Drawn0.step)⟩
    case round =>
      clear H'
      try clear c1
      try clear p2
      try clear c3
      try clear c3b0
      try clear c3b1
      try clear c3b2
      obtain ⟨x5_1, rfl, HA, HK1, ⟨m1, rfl⟩⟩ := hrel
      cases gk with
      | zero => exact absurd HA.out (by simp [remoraref17_Texts.l0])
      | succ k1 =>
        have H := HA.out
        clear HA
        simp only [remoraref17_Texts.l0] at H
        by_cases c4 : x5_1 < (l0.length : Int)
        · rw [if_pos c4] at H
          have c4b0 : decide (x5_1 < (l0.length : Int)) = true := decide_eq_true c4
          clear c4
          by_cases c5 : 0 ≤ x5_1
          · rw [if_pos c5] at H
            have c5b0 : decide (0 ≤ x5_1) = true := decide_eq_true c5
            clear c5
            by_cases c6 : x5_1 < (l1.length : Int)
            · rw [if_pos c6] at H
              have c6b0 : decide (x5_1 < (l1.length : Int)) = true := decide_eq_true c6
              clear c6
              by_cases c7 : (rdOf ByteArray.empty l0 x5_1).toList = (rdOf ByteArray.empty l1 x5_1).toList
              · rw [if_pos c7] at H
                have c7b0 : ((rdOf ByteArray.empty l0 x5_1).toList == (rdOf ByteArray.empty l1 x5_1).toList) = true := beq_iff_eq.mpr c7
                have c7b1 : ((rdOf ByteArray.empty l0 x5_1).toList != (rdOf ByteArray.empty l1 x5_1).toList) = false := bne_eq_false_iff_eq.mpr c7
                clear c7
                have H' := Aside0.mk H
                clear H
                have p103 : 0 ≤ (x5_1 : Int) := of_decide_eq_true (by first | (with_reducible assumption) | assumption)
                have q103 : x5_1 < (l0.length : Int) := of_decide_eq_true (by first | (with_reducible assumption) | assumption)
                obtain ⟨ad103, e103, hx103_0⟩ := Kd.at_string HR0.out x5_1 p103 q103
                cases e103
                replace p103 := eq_true p103
                replace q103 := eq_true q103
                have p104 : 0 ≤ (x5_1 : Int) := of_decide_eq_true (by first | (with_reducible assumption) | assumption)
                have q104 : x5_1 < (l1.length : Int) := of_decide_eq_true (by first | (with_reducible assumption) | assumption)
                obtain ⟨ad104, e104, hx104_0⟩ := Kd.at_string HR1.out x5_1 p104 q104
                cases e104
                replace p104 := eq_true p104
                replace q104 := eq_true q104
                go_wp2
                repeat (go_quiet (fail); try go_wp2)
                go_roundg k1
                case measure => have := HK1.out; omega
                case rel => exact ⟨(wrap64 (x5_1 + 1)), (by first | rfl | (simp; done) | (simp [*]; done)), H', ⟨by have := HK1.out; omega⟩, by repeat (first | exact Drawn0.refl _ | apply Drawn0.step)⟩
              · rw [if_neg c7] at H
                have c7b0 : ((rdOf ByteArray.empty l0 x5_1).toList == (rdOf ByteArray.empty l1 x5_1).toList) = false := beq_eq_false_iff_ne.mpr c7
                have c7b1 : ((rdOf ByteArray.empty l0 x5_1).toList != (rdOf ByteArray.empty l1 x5_1).toList) = true := bne_iff_ne.mpr c7
                obtain rfl := Option.some.inj H
                have p103 : 0 ≤ (x5_1 : Int) := of_decide_eq_true (by first | (with_reducible assumption) | assumption)
                have q103 : x5_1 < (l0.length : Int) := of_decide_eq_true (by first | (with_reducible assumption) | assumption)
                obtain ⟨ad103, e103, hx103_0⟩ := Kd.at_string HR0.out x5_1 p103 q103
                cases e103
                replace p103 := eq_true p103
                replace q103 := eq_true q103
                have p104 : 0 ≤ (x5_1 : Int) := of_decide_eq_true (by first | (with_reducible assumption) | assumption)
                have q104 : x5_1 < (l1.length : Int) := of_decide_eq_true (by first | (with_reducible assumption) | assumption)
                obtain ⟨ad104, e104, hx104_0⟩ := Kd.at_string HR1.out x5_1 p104 q104
                cases e104
                replace p104 := eq_true p104
                replace q104 := eq_true q104
                go_wp2
                repeat (go_quiet (fail); try go_wp2)
                go_ret
                exact ⟨by first | rfl | (simp; done) | (simp [*]; done), by repeat (first | exact Drawn0.refl _ | apply Drawn0.step)⟩
            · rw [if_neg c6] at H
              exact absurd H (by simp)
          · rw [if_neg c5] at H
            exact absurd H (by simp)
        · rw [if_neg c4] at H
          have c4b0 : decide (x5_1 < (l0.length : Int)) = false := decide_eq_false c4
          clear c4
          obtain rfl := Option.some.inj H
          go_wp2
          repeat (go_quiet (fail); try go_wp2)
          go_ret
          exact ⟨by first | rfl | (simp; done) | (simp [*]; done), by repeat (first | exact Drawn0.refl _ | apply Drawn0.step)⟩
  · rw [if_neg c3] at H
    have c3b0 : ((l0.length : Int) == (l1.length : Int)) = false := beq_eq_false_iff_ne.mpr c3
    have c3b1 : ((l0.length : Int) != (l1.length : Int)) = true := bne_iff_ne.mpr c3
    have c3b2 : (l0.length == l1.length) = false := by first | simpa using c3 | (simp at c3 ⊢; omega)
    obtain rfl := Option.some.inj H
    go_enter Tryd.func17, Tryd.ntmps17
    go_wp2
    repeat (go_quiet (fail); try go_wp2)
    go_ret
    exact ⟨by first | rfl | (simp; done) | (simp [*]; done), by repeat (first | exact Drawn0.refl _ | apply Drawn0.step)⟩

/-! ### path_Split: function 71, a contract of my own -/
theorem ld_info9 : (Tryd.prog.info? 9).map (fun i => (i.zero, i.size, i.bytes)) = some (some (.string ⟨#[]⟩), 1, 16) := by kernel_rfl
theorem R_iterAt {α : Type} {d : Kd α} {e : Nat} {w : World} {b : Nat} {ok : Nat → Prop} {v : Value} {xs : List α} (h : Kd.R d e w b ok v xs) (k : Nat) (s : ByteArray) (pos : Nat) (hk : ∀ j, ok j → j ≠ k) : Kd.R d e (w.iterAt k s pos) b ok v xs :=
  Kd.R_step h (fun j ho _ => Lib.iterAt_other w k j s pos (hk j ho))
/-- The parts of a text, from a place on: pos the place, fr where the part begins. -/
def spl (s : ByteArray) : Nat → Nat → Nat → List ByteArray → List ByteArray
  | 0, _, fr, acc => acc ++ [s.extract fr s.size]
  | q + 1, pos, fr, acc => if pos < s.size then (if (Utf8.decode s pos).1 = 47 then spl s q (pos + (Utf8.decode s pos).2) (pos + 1) (acc ++ [s.extract fr pos]) else spl s q (pos + (Utf8.decode s pos).2) fr acc) else acc ++ [s.extract fr s.size]
theorem spl_end (s : ByteArray) (q pos fr : Nat) (acc : List ByteArray) (h : ¬ pos < s.size) : spl s q pos fr acc = acc ++ [s.extract fr s.size] := by
  cases q with
  | zero => rfl
  | succ q => rw [spl, if_neg h]
def splitF (s : ByteArray) : List ByteArray := if s.toList = [] then [] else spl s s.size 0 0 []
theorem dec_pos (s : ByteArray) (pos : Nat) (h : pos < s.size) : 1 ≤ (Utf8.decode s pos).2 := by
  by_cases ha : (s[pos]'h).toNat < 128
  · rw [decode_ascii s pos h ha]
    exact Nat.le_refl _
  · exact (decode_high s pos h (by omega)).2
set_option maxHeartbeats 4000000 in
set_option maxRecDepth 20000 in
theorem path_Split.at_ (s : ByteArray) (hs : s.size ≤ 1000000) (w : World) :
    Calls Tryd.prog 71 #[.string s] w fun e w' => ∃ v, e = .returned v ∧ Kd.R Kd.string 9 w' w.heap.size (fun _ => True) v (splitF s) ∧ Below w.heap.size w w' := by
  unfold splitF
  by_cases h0 : s.toList = []
  · have h0' : s.toList.isEmpty = true := by rw [h0]; rfl
    rw [if_pos h0]
    clear h0
    go_enter Tryd.func71, Tryd.ntmps71
    go_wp2
    go_ret
    exact ⟨_, rfl, Kd.R_nil _ _ _ _ _, Below.refl _ _⟩
  have h0' : s.toList.isEmpty = false := by simpa using h0
  rw [if_neg h0]
  have HS := Aside0.mk hs
  obtain ⟨k0, hk0⟩ : ∃ k0, w.heap.size = k0 := ⟨_, rfl⟩
  clear h0 hs
  go_enter Tryd.func71, Tryd.ntmps71
  go_wp2
  have HI0 : Aside0 ((w.iter s 0).heap[k0]? = some (.stringIter s 0)) := ⟨by rw [← hk0]; exact World.iter_heap w s 0⟩
  have HB0 : Aside0 (Below k0 w (w.iter s 0)) := ⟨by rw [← hk0]; exact below_alloc (Below.refl _ w) (.stringIter s 0)⟩
  have HK := Aside0.mk hk0
  go_loopg [3, 4, 5, 6] s.size (fun g v3 v4 v5 v6 w' => ∃ (pos fr q : Nat) (acc : List ByteArray), g = s.size - pos ∧ v4 = .int .i64 fr ∧ Aside0 (fr ≤ pos ∧ s.size - pos ≤ q ∧ acc.length ≤ fr ∧ fr ≤ s.size) ∧ Aside0 (spl s q pos fr acc = spl s s.size 0 0 []) ∧ Aside0 (w'.heap[k0]? = some (.stringIter s pos)) ∧ Aside0 (Kd.R Kd.string 9 w' k0 (fun j => j ≠ k0) v3 acc) ∧ Aside0 (Below k0 w w'))
  case atStart => exact ⟨0, 0, s.size, [], rfl, rfl, ⟨Nat.le_refl _, by omega, Nat.le_refl _, Nat.zero_le _⟩, ⟨rfl⟩, HI0, ⟨Kd.R_nil _ _ _ _ _⟩, HB0⟩
  case round =>
    clear HI0 HB0
    obtain ⟨pos, fr, q, acc, rfl, rfl, HP, HQ, HI, HR, HB⟩ := hrel
    by_cases hp : pos < s.size
    · have hnx : ∀ ty, (Instr.next (.pointer (some ⟨k0, 0, none⟩)) true ty).run Tryd.prog wr = _ := fun ty => Lib.run_next_any_at wr k0 s pos ty HI.out hp
      have hwd := dec_pos s pos hp
      have hq : spl s q pos fr acc = (if (Utf8.decode s pos).1 = 47 then spl s (q - 1) (pos + (Utf8.decode s pos).2) (pos + 1) (acc ++ [s.extract fr pos]) else spl s (q - 1) (pos + (Utf8.decode s pos).2) fr acc) := by
        obtain ⟨q', rfl⟩ : ∃ q', q = q' + 1 := ⟨q - 1, by have := HP.out; omega⟩
        rw [spl, if_pos hp, Nat.add_sub_cancel]
      rw [HQ.out] at hq
      generalize Utf8.decode s pos = cw at hnx hwd hq
      obtain ⟨c, wd⟩ := cw
      dsimp only at hnx hwd hq
      have HW := Aside0.mk (And.intro hp hwd)
      have HI2 := Aside0.mk (Lib.iterAt_heap wr k0 s pos (pos + wd) HI.out)
      have HR2 := Aside0.mk (R_iterAt HR.out k0 s (pos + wd) (fun j hj => hj))
      have HB2 := Aside0.mk (Lib.below_iterAt HB.out (Nat.le_refl _) s (pos + wd))
      clear hp hwd
      by_cases c1 : c = 47
      · have e1 : ((c : Int) == 47) = true := beq_iff_eq.mpr (by omega)
        rw [if_pos c1] at hq
        have HQ2 := Aside0.mk hq
        clear hq c1
        obtain ⟨f2, hf2⟩ : ∃ f2 : Nat, f2 = pos + 1 := ⟨_, rfl⟩
        have hadd : wrap64 ((pos : Int) + 1) = (f2 : Int) := by have := HW.out; have := HS.out; unfold wrap64; omega
        have HF2 := Aside0.mk hf2
        have hsl : ∀ W : World, (Instr.slice 9 (.string s) (some (.int .i64 (fr : Int))) (some (.int .i64 (pos : Int))) none).run Tryd.prog W = .ok (.string (s.extract fr pos)) W := fun W => by
          have := run_slice_string (P := Tryd.prog) W 9 s .i64 .i64 (fr : Int) (pos : Int) Tryd.underlying9 (by omega) (by have := HP.out; omega) (by have := HW.out; omega)
          simpa using this
        have HL : Aside0 ((acc.length + 1) * 16 ≤ 140737488355328) := ⟨by have := HP.out; have := HS.out; omega⟩
        have HLT : Aside0 (k0 < (wr.iterAt k0 s (pos + wd)).heap.size) := ⟨blk_lt HI2.out⟩
        have HBS : Aside0 (Below k0 w (wr.iterAt k0 s (pos + wd))) := HB2
        clear hf2
        go_wp2_with (first | ((with_reducible refine gate_builtin (b := .append) (xs := #[.tmp 17, .tmp 22]) rfl ?_); at_builtin; refine Kd.R_append Kd.string (w0 := w) k0 rfl (.tmp 17) (.tmp 22) 46 9 (.string ⟨#[]⟩) 16 rfl Tryd.underlying46 ld_info9 rfl (by decide) (by omega) u3 acc (s.extract fr pos) [.string (s.extract fr pos)] (fun j => j ≠ k0) (fun _ => False) rfl rfl rfl (fun _ hk => hk.elim) (fun j hj => by have := HLT.out; omega) HR2.out HB2.out (Nat.le_of_lt HLT.out) HL.out ?_; intro v9 w9 ho9 hb9 hg9 ha9; clear ha9))
        have HR9 := Aside0.mk ho9
        have HB9 := Aside0.mk hb9
        have HI9 := Aside0.mk ((hg9.block k0 HLT.out (fun e => HR2.out.1 k0 e.symm rfl)).trans HI2.out)
        clear ho9 hb9 hg9
        go_wp2
        go_roundg (s.size - (pos + wd))
        case measure => have := HW.out; omega
        case rel => exact ⟨pos + wd, f2, q - 1, acc ++ [s.extract fr pos], rfl, by first | rfl | rw [hadd], ⟨by have := HP.out; have := HW.out; have := HF2.out; simp only [List.length_append, List.length_cons, List.length_nil]; omega⟩, ⟨by rw [HF2.out]; exact HQ2.out.symm⟩, HI9, HR9, HB9⟩
      · have e1 : ((c : Int) == 47) = false := beq_eq_false_iff_ne.mpr (by omega)
        rw [if_neg c1] at hq
        have HQ2 := Aside0.mk hq
        clear hq c1
        go_wp2
        go_roundg (s.size - (pos + wd))
        case measure => have := HW.out; omega
        case rel => exact ⟨pos + wd, fr, q - 1, acc, rfl, rfl, ⟨by have := HP.out; have := HW.out; omega⟩, ⟨HQ2.out.symm⟩, HI2, HR2, HB2⟩
    · have hnx : ∀ ty, (Instr.next (.pointer (some ⟨k0, 0, none⟩)) true ty).run Tryd.prog wr = _ := fun ty => Lib.run_next_end_at wr k0 s pos ty HI.out hp
      have hq := HQ.out
      rw [spl_end _ _ _ _ _ hp] at hq
      have HQ2 := Aside0.mk hq
      clear hp hq HQ
      have hsl : ∀ W : World, (Instr.slice 9 (.string s) (some (.int .i64 (fr : Int))) none none).run Tryd.prog W = .ok (.string (s.extract fr s.size)) W := fun W => by
        have := run_slice_string_l (P := Tryd.prog) (t := 9) (w := W) (s := s) Tryd.underlying9 .i64 (fr : Int) (by omega) (by have := HP.out; omega)
        simpa using this
      have HL : Aside0 ((acc.length + 1) * 16 ≤ 140737488355328) := ⟨by have := HP.out; have := HS.out; omega⟩
      have HLT : Aside0 (k0 < wr.heap.size) := ⟨blk_lt HI.out⟩
      have HBS : Aside0 (Below k0 w wr) := HB
      go_wp2_with (first | ((with_reducible refine gate_builtin (b := .append) (xs := #[.tmp 26, .tmp 30]) rfl ?_); at_builtin; refine Kd.R_append Kd.string (w0 := w) k0 rfl (.tmp 26) (.tmp 30) 46 9 (.string ⟨#[]⟩) 16 rfl Tryd.underlying46 ld_info9 rfl (by decide) (by omega) u3 acc (s.extract fr s.size) [.string (s.extract fr s.size)] (fun j => j ≠ k0) (fun _ => False) rfl rfl rfl (fun _ hk => hk.elim) (fun j hj => by have := HLT.out; omega) HR.out HB.out (Nat.le_of_lt HLT.out) HL.out ?_; intro v9 w9 ho9 hb9 hg9 ha9; clear ha9))
      have HR9 := Aside0.mk ho9
      have HB9 := Aside0.mk hb9
      clear ho9 hb9 hg9
      go_wp2
      go_ret
      refine ⟨_, rfl, ?_, ?_⟩
      · rw [← HQ2.out]
        rw [hk0]
        exact Kd.R_mono HR9.out (fun _ _ => trivial)
      · rw [hk0]
        exact HB9.out

/-! ### path_part: function 76, a contract of my own -/
theorem sl_IndexByte (s : ByteArray) (c : Int) (w : World) :
    Calls Tryd.prog 78 #[.string s, .int .u8 c] w fun e w' => e = .returned (.int .i64 (Lib.indexByte s.data.toList c.toNat.toUInt8)) ∧ w' = w := by
  go_enter Tryd.func78, Tryd.ntmps78
  go_wp2
  rw [run_callFunc_extern Tryd.func79 (by kernel_rfl) (by kernel_rfl) (by kernel_rfl) (e := Extern.BytealgIndexByte.indexByte) (by kernel_rfl), Lib.run_indexByteString]
  simp only [Result.andThen]
  rw [Oper.upon_value]
  go_wp2
  go_ret
  exact ⟨rfl, rfl⟩
theorem st_IndexByte (s : ByteArray) (c : Int) (w : World) :
    Calls Tryd.prog 77 #[.string s, .int .u8 c] w fun e w' => e = .returned (.int .i64 (Lib.indexByte s.data.toList c.toNat.toUInt8)) ∧ w' = w := by
  go_enter Tryd.func77, Tryd.ntmps77
  go_wp2_with fail
  refine (sl_IndexByte s c w).mono ?_
  rintro e w1 ⟨rfl, rfl⟩
  go_wp2
  go_ret
  exact ⟨rfl, rfl⟩
/-- Is a text a part? -/
def partF (s : ByteArray) : Bool := !(s.toList == []) && decide (s.size ≤ 48) && !(s.toList == [46]) && !(s.toList == [46, 46]) && decide (Lib.indexByte s.data.toList 0 < 0)
theorem path_part.at_ (s : ByteArray) (hs : s.size ≤ 140737488351232) (w : World) :
    Calls Tryd.prog 76 #[.string s] w fun e w' => e = .returned (.bool (partF s)) ∧ w' = w := by
  have HI := Aside0.mk (st_IndexByte s 0 w)
  have hz : (0 : Int).toNat.toUInt8 = 0 := rfl
  rw [hz] at HI
  unfold partF
  cases h1 : (s.toList == []) with
  | true =>
    have h1' : s.toList = [] := by simpa using h1
    have h1'' : s.toList.isEmpty = true := by rw [h1']; rfl
    clear hs h1'
    go_enter Tryd.func76, Tryd.ntmps76
    go_wp2
    go_ret
    exact ⟨by simp [h1''], rfl⟩
  | false =>
  have h1' : ¬ s.toList = [] := by simpa using h1
  have h1'' : s.toList.isEmpty = false := by simpa using h1'
  by_cases c2 : s.size ≤ 48
  rotate_left
  · have e2 : decide (s.size ≤ 48) = false := decide_eq_false c2
    have e2' : decide ((s.size : Int) ≤ 48) = false := decide_eq_false (by omega)
    rw [e2]
    clear c2 hs h1'
    go_enter Tryd.func76, Tryd.ntmps76
    go_wp2
    go_ret
    exact ⟨by simp, rfl⟩
  have e2 : decide (s.size ≤ 48) = true := decide_eq_true c2
  have e2' : decide ((s.size : Int) ≤ 48) = true := decide_eq_true (by omega)
  rw [e2]
  cases h3 : (s.toList == [46]) with
  | true =>
    clear c2 hs h1'
    go_enter Tryd.func76, Tryd.ntmps76
    go_wp2
    go_ret
    exact ⟨by simp, rfl⟩
  | false =>
  cases h4 : (s.toList == [46, 46]) with
  | true =>
    clear c2 hs h1'
    go_enter Tryd.func76, Tryd.ntmps76
    go_wp2
    go_ret
    exact ⟨by simp, rfl⟩
  | false =>
  generalize Lib.indexByte s.data.toList 0 = x at HI ⊢
  clear c2 hs h1'
  go_enter Tryd.func76, Tryd.ntmps76
  go_wp2_with fail
  refine HI.out.mono ?_
  rintro e w1 ⟨rfl, rfl⟩
  go_wp2
  go_ret
  exact ⟨rfl, rfl⟩

/-! ### path_Right: function 70, a contract of my own -/
theorem spl_mem (s : ByteArray) : ∀ q pos fr acc, (∀ x ∈ acc, x.size ≤ s.size) → ∀ x ∈ spl s q pos fr acc, x.size ≤ s.size
  | 0, pos, fr, acc, h, x, hx => by
    rw [spl] at hx
    rcases List.mem_append.1 hx with hx | hx
    · exact h x hx
    · simp only [List.mem_singleton] at hx
      rw [hx, ByteArray.size_extract]; omega
  | q + 1, pos, fr, acc, h, x, hx => by
    rw [spl] at hx
    by_cases c : pos < s.size
    · rw [if_pos c] at hx
      by_cases c2 : (Utf8.decode s pos).1 = 47
      · rw [if_pos c2] at hx
        refine spl_mem s q _ _ _ (fun y hy => ?_) x hx
        rcases List.mem_append.1 hy with hy | hy
        · exact h y hy
        · simp only [List.mem_singleton] at hy
          rw [hy, ByteArray.size_extract]; omega
      · rw [if_neg c2] at hx
        exact spl_mem s q _ _ _ h x hx
    · rw [if_neg c] at hx
      rcases List.mem_append.1 hx with hx | hx
      · exact h x hx
      · simp only [List.mem_singleton] at hx
        rw [hx, ByteArray.size_extract]; omega
theorem splitF_mem (s x : ByteArray) (h : x ∈ splitF s) : x.size ≤ s.size := by
  unfold splitF at h
  split at h
  · cases h
  · exact spl_mem s _ _ _ _ (fun y hy => by cases hy) x h
def rightF (p : ByteArray) : Bool := (splitF p).all partF && decide ((splitF p).length ≤ 12) && decide (p.size ≤ 200)
theorem str_at {w : World} {L : List ByteArray} {A : Option Addr} (hC : Kd.C Kd.string w A L.length L) (i : Nat) (h : i < L.length) : ∃ ad x, A = some ad ∧ L[i]? = some x ∧ w.cell? (ad.add i) = some (.string x) := by
  obtain ⟨ad, e, hx⟩ := Kd.at_string hC (i : Int) (by omega) (by omega)
  refine ⟨ad, L[i], e, by simp [h], ?_⟩
  rw [Int.toNat_natCast] at hx
  rw [hx]
  simp [rdOf, List.getD_eq_getElem?_getD, h]
set_option maxHeartbeats 4000000 in
set_option maxRecDepth 20000 in
theorem path_Right.at_ (p : ByteArray) (hp : p.size ≤ 1000000) (w : World) :
    Calls Tryd.prog 70 #[.string p] w fun e w' => e = .returned (.bool (rightF p)) ∧ Below w.heap.size w w' := by
  have HSp := Aside0.mk (path_Split.at_ p hp w)
  have HM := Aside0.mk (splitF_mem p)
  have HP := Aside0.mk hp
  unfold rightF
  obtain ⟨L, hL⟩ : ∃ L, splitF p = L := ⟨_, rfl⟩
  rw [hL] at HSp ⊢
  have HL := Aside0.mk hL
  obtain ⟨r, hr⟩ : ∃ r, (L.all partF && decide (L.length ≤ 12) && decide (p.size ≤ 200)) = r := ⟨_, rfl⟩
  rw [hr]
  have HRr := Aside0.mk hr
  clear hp hL hr
  go_enter Tryd.func70, Tryd.ntmps70
  go_wp2_with fail
  refine HSp.out.mono ?_
  rintro e w1 ⟨v, rfl, hR, hb⟩
  obtain ⟨A, c, rfl, hc, hC⟩ := Kd.R_reads hR
  obtain ⟨m, hm⟩ : ∃ m, m = L.length := ⟨_, rfl⟩
  rw [← hm]
  have HC := Aside0.mk hC
  have HB := Aside0.mk hb
  have HMm := Aside0.mk hm
  clear hR hb hC hm HSp
  go_wp2
  go_loopg [5, 10] m (fun g v5 v10 w' => ∃ i : Nat, g = m - i ∧ v10 = .int .i64 i ∧ w' = w1 ∧ Aside0 (i ≤ m ∧ (L.take i).all partF = true))
  case atStart => exact ⟨0, rfl, rfl, rfl, ⟨Nat.zero_le _, rfl⟩⟩
  case round =>
    obtain ⟨i, rfl, rfl, rfl, HI⟩ := hrel
    by_cases c1 : i < m
    · have e1 : decide ((i : Int) < (m : Int)) = true := decide_eq_true (by omega)
      have e1' : decide (i < m) = true := decide_eq_true c1
      have e1t : ((i : Int) < (m : Int)) = True := eq_true (by omega)
      have e1n : (i < m) = True := eq_true c1
      obtain ⟨ad, x, rfl, hx, hcell⟩ := str_at HC.out i (by have := HMm.out; omega)
      have HX := Aside0.mk hx
      have hi0 : (0 ≤ (i : Int)) = True := eq_true (by omega)
      have HXs : Aside0 (x.size ≤ 140737488351232) := ⟨by have := HM.out x (by rw [HL.out]; exact List.mem_of_getElem? hx); have := HP.out; omega⟩
      have C1 := Aside0.mk c1
      have hadd : wrap64 ((i : Int) + 1) = ((i + 1 : Nat) : Int) := by have := HMm.out; have := HI.out; have := HC.out.2.1; unfold wrap64; omega
      clear hx c1
      go_wp2_with fail
      refine (path_part.at_ x HXs.out wr).mono ?_
      rintro e w2 ⟨rfl, rfl⟩
      cases hpx : partF x with
      | true =>
        have HPX := Aside0.mk hpx
        clear hpx
        go_wp2
        go_roundg (m - (i + 1))
        case measure => have := C1.out; omega
        case rel =>
          refine ⟨i + 1, rfl, by first | rfl | rw [hadd], rfl, ⟨by have := C1.out; omega, ?_⟩⟩
          rw [List.take_add_one, HX.out, List.all_append, HI.out.2]
          simp [HPX.out]
      | false =>
        have HPX := Aside0.mk hpx
        clear hpx
        go_wp2
        go_ret
        have : L.all partF = false := by
          rw [List.all_eq_false]
          exact ⟨x, List.mem_of_getElem? HX.out, by rw [HPX.out]; decide⟩
        exact ⟨by rw [← HRr.out, this]; rfl, HB.out⟩
    · have e1 : decide ((i : Int) < (m : Int)) = false := decide_eq_false (by omega)
      have e1' : decide (i < m) = false := decide_eq_false c1
      have e1t : ((i : Int) < (m : Int)) = False := eq_false (by omega)
      have e1n : (i < m) = False := eq_false c1
      have hall : L.all partF = true := by
        have h := HI.out.2
        rwa [List.take_of_length_le (by have := HMm.out; omega)] at h
      have HALL := Aside0.mk hall
      clear c1 hall
      cases h2 : decide (m ≤ 12) with
      | true =>
        have h2' : decide ((m : Int) ≤ 12) = true := decide_eq_true (by have := of_decide_eq_true h2; omega)
        cases h3 : decide (p.size ≤ 200) with
        | true =>
          have h3' : decide ((p.size : Int) ≤ 200) = true := decide_eq_true (by have := of_decide_eq_true h3; omega)
          go_wp2
          go_ret
          refine ⟨?_, HB.out⟩
          rw [← HRr.out, HALL.out, ← HMm.out, h2, h3]
          rfl
        | false =>
          have h3' : decide ((p.size : Int) ≤ 200) = false := decide_eq_false (by have := of_decide_eq_false h3; omega)
          go_wp2
          go_ret
          refine ⟨?_, HB.out⟩
          rw [← HRr.out, HALL.out, ← HMm.out, h2, h3]
          rfl
      | false =>
        have h2' : decide ((m : Int) ≤ 12) = false := decide_eq_false (by have := of_decide_eq_false h2; omega)
        go_wp2
        go_ret
        refine ⟨?_, HB.out⟩
        rw [← HRr.out, HALL.out, ← HMm.out, h2]
        simp
/-! ### ledger_line_may: function 51, a contract of my own -/
theorem ld_step {b : Nat} {w w1 w2 : World} (h : Below b w w1) (h2 : Below w1.heap.size w1 w2) (hb : b ≤ w.heap.size := by first | exact Nat.le_refl _ | omega) : Below b w w2 :=
  ⟨h2.os.trans h.os, h2.tape.trans h.tape, h2.output.trans h.output, Nat.le_trans h.size h2.size, fun j hj => (h2.block j (by have := h.size; omega)).trans (h.block j hj)⟩
/-- A line: a path, how it looked, its sum. -/
structure Ln where
  path : ByteArray
  ino : Int
  size : Int
  sec : Int
  nano : Int
  sum : ByteArray
def lnV (x : Ln) : Value := .agg #[.string x.path, .int .i64 x.ino, .int .i64 x.size, .int .i64 x.sec, .int .i64 x.nano, .string x.sum]
def wrongF (x : Ln) : Bool := decide (x.ino < 1) || decide (x.ino > 4611686018427387903) || decide (x.size < 0) || decide (x.size > 65536) || decide (x.sec < -1099511627776) || decide (x.sec > 1099511627776) || decide (x.nano < 0) || decide (x.nano > 999999999) || !(decide (x.sum.size = 32))
def mayF (x : Ln) : Int := if (!rightF x.path || x.path.toList.isEmpty) = true then 9 else if wrongF x = true then 2 else 0
theorem ln_cells {w : World} {g : Nat} {x : Ln} (h : w.heap[g]? = some (.cells #[.string x.path, .int .i64 x.ino, .int .i64 x.size, .int .i64 x.sec, .int .i64 x.nano, .string x.sum] 68 (0, 0))) :
    w.cell? ⟨g, 0, none⟩ = some (.string x.path) ∧ w.cell? ⟨g, 1, none⟩ = some (.int .i64 x.ino) ∧ w.cell? ⟨g, 2, none⟩ = some (.int .i64 x.size) ∧ w.cell? ⟨g, 3, none⟩ = some (.int .i64 x.sec) ∧ w.cell? ⟨g, 4, none⟩ = some (.int .i64 x.nano) ∧ w.cell? ⟨g, 5, none⟩ = some (.string x.sum) := by
  refine ⟨?_, ?_, ?_, ?_, ?_, ?_⟩ <;> rw [cell_of_row w g _ _ 68 (0, 0) h] <;> rfl
set_option maxHeartbeats 4000000 in
set_option maxRecDepth 20000 in
theorem line_may.at_ (x : Ln) (hp : x.path.size ≤ 1000000) (w : World) :
    Calls Tryd.prog 51 #[lnV x] w fun e w' => e = .returned (.int .i64 (mayF x)) ∧ Below w.heap.size w w' := by
  have HR := Aside0.mk (fun w => path_Right.at_ x.path hp w)
  obtain ⟨r, hr⟩ : ∃ r, mayF x = r := ⟨_, rfl⟩
  rw [hr]
  unfold mayF at hr
  obtain ⟨path, ino, size, sec, nano, sum⟩ := x
  dsimp only at HR hr hp
  have HRr := Aside0.mk hr
  unfold lnV
  dsimp only
  obtain ⟨w1, hw1⟩ : ∃ w1, w1 = w.alloc (.cells #[.string path, .int .i64 ino, .int .i64 size, .int .i64 sec, .int .i64 nano, .string sum] 68) := ⟨_, rfl⟩
  obtain ⟨g, hg⟩ : ∃ g, w.heap.size = g := ⟨_, rfl⟩
  have HG1 : Aside0 (w1.heap[g]? = some (.cells #[.string path, .int .i64 ino, .int .i64 size, .int .i64 sec, .int .i64 nano, .string sum] 68 (0, 0))) := ⟨by rw [hw1, ← hg]; exact blk_new w _⟩
  have HB1 : Aside0 (Below g w w1) := ⟨by rw [hw1, ← hg]; exact below_alloc (Below.refl _ _) _⟩
  have q0 := (ln_cells (x := ⟨path, ino, size, sec, nano, sum⟩) HG1.out).1
  clear hr hp
  go_enter Tryd.func51, Tryd.ntmps51
  go_wp2_with fail
  rw [← hw1]
  clear hw1
  go_wp2_with fail
  refine (HR.out w1).mono ?_
  rintro e w2 ⟨rfl, hb⟩
  have HB2 := Aside0.mk (ld_step HB1.out hb)
  have HG2 := Aside0.mk (blk_below HG1.out hb)
  obtain ⟨q0', q1, q2, q3, q4, q5⟩ := ln_cells (x := ⟨path, ino, size, sec, nano, sum⟩) HG2.out
  dsimp only at q0' q1 q2 q3 q4 q5
  clear hb q0 HG1 HB1
  have fin : ∀ z : Int, z = r → (Ending.returned (.int .i64 z) = Ending.returned (.int .i64 r) ∧ Below w.heap.size w w2) := fun z hz => ⟨by rw [hz], by rw [hg]; exact HB2.out⟩
  replace HRr := HRr.out
  cases hra : rightF path with
  | false =>
    rw [hra] at HRr
    go_wp2
    go_ret
    exact fin _ (by simpa using HRr)
  | true =>
  rw [hra] at HRr
  cases he : path.toList.isEmpty with
  | true =>
    rw [he] at HRr
    go_wp2
    go_ret
    exact fin _ (by simpa using HRr)
  | false =>
  rw [he] at HRr
  rw [if_neg (by decide)] at HRr
  unfold wrongF at HRr
  dsimp only at HRr
  cases k0 : decide (ino < 1) with
  | true =>
    have k' : decide (ino < 1) = true := k0
    rw [show (decide (ino < 1)) = true from k0] at HRr
    go_wp2
    go_ret
    exact fin _ (by simpa using HRr)
  | false =>
  have m0 : decide (ino < 1) = false := k0
  rw [show (decide (ino < 1)) = false from k0] at HRr
  cases k1 : decide (ino > 4611686018427387903) with
  | true =>
    have k' : decide (4611686018427387903 < ino) = true := k1
    rw [show (decide (ino > 4611686018427387903)) = true from k1] at HRr
    go_wp2
    go_ret
    exact fin _ (by simpa using HRr)
  | false =>
  have m1 : decide (4611686018427387903 < ino) = false := k1
  rw [show (decide (ino > 4611686018427387903)) = false from k1] at HRr
  cases k2 : decide (size < 0) with
  | true =>
    have k' : decide (size < 0) = true := k2
    rw [show (decide (size < 0)) = true from k2] at HRr
    go_wp2
    go_ret
    exact fin _ (by simpa using HRr)
  | false =>
  have m2 : decide (size < 0) = false := k2
  rw [show (decide (size < 0)) = false from k2] at HRr
  cases k3 : decide (size > 65536) with
  | true =>
    have k' : decide (65536 < size) = true := k3
    rw [show (decide (size > 65536)) = true from k3] at HRr
    go_wp2
    go_ret
    exact fin _ (by simpa using HRr)
  | false =>
  have m3 : decide (65536 < size) = false := k3
  rw [show (decide (size > 65536)) = false from k3] at HRr
  cases k4 : decide (sec < -1099511627776) with
  | true =>
    have k' : decide (sec < -1099511627776) = true := k4
    rw [show (decide (sec < -1099511627776)) = true from k4] at HRr
    go_wp2
    go_ret
    exact fin _ (by simpa using HRr)
  | false =>
  have m4 : decide (sec < -1099511627776) = false := k4
  rw [show (decide (sec < -1099511627776)) = false from k4] at HRr
  cases k5 : decide (sec > 1099511627776) with
  | true =>
    have k' : decide (1099511627776 < sec) = true := k5
    rw [show (decide (sec > 1099511627776)) = true from k5] at HRr
    go_wp2
    go_ret
    exact fin _ (by simpa using HRr)
  | false =>
  have m5 : decide (1099511627776 < sec) = false := k5
  rw [show (decide (sec > 1099511627776)) = false from k5] at HRr
  cases k6 : decide (nano < 0) with
  | true =>
    have k' : decide (nano < 0) = true := k6
    rw [show (decide (nano < 0)) = true from k6] at HRr
    go_wp2
    go_ret
    exact fin _ (by simpa using HRr)
  | false =>
  have m6 : decide (nano < 0) = false := k6
  rw [show (decide (nano < 0)) = false from k6] at HRr
  cases k7 : decide (nano > 999999999) with
  | true =>
    have k' : decide (999999999 < nano) = true := k7
    rw [show (decide (nano > 999999999)) = true from k7] at HRr
    go_wp2
    go_ret
    exact fin _ (by simpa using HRr)
  | false =>
  have m7 : decide (999999999 < nano) = false := k7
  rw [show (decide (nano > 999999999)) = false from k7] at HRr
  cases k8 : decide (sum.size = 32) with
  | false =>
    have k' : ((sum.size : Int) != 32) = true := by have := of_decide_eq_false k8; exact bne_iff_ne.mpr (by omega)
    rw [k8] at HRr
    go_wp2
    go_ret
    exact fin _ (by simpa using HRr)
  | true =>
    have k' : ((sum.size : Int) != 32) = false := by have := of_decide_eq_true k8; exact bne_eq_false_iff_eq.mpr (by omega)
    rw [k8] at HRr
    go_wp2
    go_ret
    exact fin _ (by simpa using HRr)
open Go.Maps in
theorem strs_keyed : Keyed Tryd.prog 9 := string_keyed Tryd.underlying9
def lnR : Value → Option (DataW Unit × List MemPlace)
  | .agg cs => match cs.toList with
    | [.string p, .int .i64 a, .int .i64 b, .int .i64 c, .int .i64 d, .string s] => some (.agg [.lit (.string p.data.toList), .lit (.int .i64 a), .lit (.int .i64 b), .lit (.int .i64 c), .lit (.int .i64 d), .lit (.string s.data.toList)], [])
    | _ => none
  | _ => none
def lnD (x : Ln) : DataW Unit := .agg [.lit (.string x.path.data.toList), .lit (.int .i64 x.ino), .lit (.int .i64 x.size), .lit (.int .i64 x.sec), .lit (.int .i64 x.nano), .lit (.string x.sum.data.toList)]
theorem lnR_lnV (x : Ln) : lnR (lnV x) = some (lnD x, []) := rfl
theorem ba_inj {a b : ByteArray} (h : a.data.toList = b.data.toList) : a = b := by
  cases a; cases b
  simp only [ByteArray.mk.injEq] at h ⊢
  exact Array.ext' h
instance ld_dec : DecidableEq ByteArray := fun a b => decidable_of_iff (a.data.toList = b.data.toList) ⟨ba_inj, fun h => by rw [h]⟩
theorem toList_inj {a b : ByteArray} : a.toList = b.toList ↔ a = b := by
  rw [ByteArray.toList_eq, ByteArray.toList_eq]
  exact ⟨ba_inj, fun h => by rw [h]⟩
theorem lnD_inj {x y : Ln} (h : lnD x = lnD y) : x = y := by
  unfold lnD at h
  simp only [DataW.agg.injEq, List.cons.injEq, DataW.lit.injEq, Lit.string.injEq, Lit.int.injEq, true_and, and_true] at h
  obtain ⟨h1, h2, h3, h4, h5, h6⟩ := h
  obtain ⟨p, a, b, c, d, s⟩ := x
  obtain ⟨p', a', b', c', d', s'⟩ := y
  dsimp only at *
  rw [ba_inj h1, h2, h3, h4, h5, ba_inj h6]
theorem lnR_inv {v : Value} {z : DataW Unit × List MemPlace} (h : lnR v = some z) : ∃ x, v = lnV x ∧ z = (lnD x, []) := by
  unfold lnR at h
  split at h
  · rename_i cs
    split at h
    · rename_i p a b c d s hc
      refine ⟨⟨p, a, b, c, d, s⟩, ?_, (Option.some.inj h).symm⟩
      unfold lnV
      congr 1
      apply Array.ext'
      rw [hc]
    · cases h
  · cases h
def kS (p : ByteArray) : Lit := .string p.data.toList
theorem kS_inj {p q : ByteArray} (h : kS p = kS q) : p = q := by
  unfold kS at h
  injection h with h
  exact ba_inj h
theorem kS_lit (p : ByteArray) : WideAt.IsKeyLit (kS p) := trivial
theorem kS_key {p : ByteArray} (h : p.size ≤ maxLen) : keyOf Tryd.prog 9 (.string p) = some (kS p) := WideMaps.keyOf_string_mk Tryd.underlying9 h
def paths (S : List Ln) : List ByteArray := S.map Ln.path
/-- The map holds the lines. -/
def MapOk (w : World) (mb n : Nat) (S : List Ln) : Prop := ∃ D : DataW Unit, w.ownsMap Tryd.prog 9 lnR mb n D ∧ Maps.IsMap D ∧ (∀ p, Maps.has D (kS p) = true ↔ p ∈ paths S) ∧ ∀ x ∈ S, ∀ z, D.atKey (kS x.path) z = lnD x
theorem lnZero (w : World) : (zeroValue 68).run Tryd.prog w = .ok (lnV ⟨⟨#[]⟩, 0, 0, 0, 0, ⟨#[]⟩⟩) w := by kernel_rfl
theorem MapOk.look {w : World} {mb n : Nat} {S : List Ln} (h : MapOk w mb n S) (p : ByteArray) (hp : p.size ≤ maxLen) :
    ∃ x b, (Instr.lookup 53 (.map (some mb)) (.string p) true).run Tryd.prog w = .ok (.tuple #[lnV x, .bool b]) w ∧ (b = true ↔ p ∈ paths S) ∧ ∀ y ∈ S, y.path = p → x = y := by
  obtain ⟨D, hown, hmap, hhas, hat⟩ := h
  obtain ⟨v, ps, hrun, hv⟩ := hown.look_ok strs_keyed Tryd.underlying53 (lnZero w) (lnR_lnV _) (kS_key hp)
  obtain ⟨x, rfl, hx⟩ := lnR_inv hv
  refine ⟨x, _, hrun, hhas p, fun y hy e => ?_⟩
  have h2 := hat y hy (lnD ⟨⟨#[]⟩, 0, 0, 0, 0, ⟨#[]⟩⟩)
  rw [e] at h2
  simp only [Prod.mk.injEq] at hx
  exact lnD_inj (hx.1.symm.trans h2)
theorem MapOk.del {w : World} {mb n : Nat} {S : List Ln} (h : MapOk w mb n S) (p : ByteArray) (hp : p.size ≤ maxLen) (ty : TypeId) :
    ∃ w', (Builtin.delete_ #[53, 9] ty #[.map (some mb), .string p]).run Tryd.prog w = .ok (.tuple #[]) w' ∧ MapOk w' mb n (S.filter fun x => decide (x.path ≠ p)) ∧ w.mapTurned w' mb := by
  obtain ⟨D, hown, hmap, hhas, hat⟩ := h
  obtain ⟨w', hrun, hown', ht⟩ := hown.drop strs_keyed Tryd.underlying53 (kS_key hp) ty
  refine ⟨w', hrun, ⟨_, hown', hmap.del _, fun q => ?_, fun x hx z => ?_⟩, ht⟩
  · have hmem : q ∈ paths (S.filter fun x => decide (x.path ≠ p)) ↔ q ∈ paths S ∧ q ≠ p := by
      unfold paths
      constructor
      · intro h
        obtain ⟨x, hx, rfl⟩ := List.mem_map.1 h
        obtain ⟨h1, h2⟩ := List.mem_filter.1 hx
        exact ⟨List.mem_map.2 ⟨x, h1, rfl⟩, by simpa using h2⟩
      · rintro ⟨h, hne⟩
        obtain ⟨x, hx, rfl⟩ := List.mem_map.1 h
        exact List.mem_map.2 ⟨x, List.mem_filter.2 ⟨hx, by simpa using hne⟩, rfl⟩
    rw [hmem]
    by_cases e : q = p
    · subst e
      rw [Maps.has_del_same]
      simp
    · rw [Maps.has_del_other (fun h => e (kS_inj h)), hhas q]
      exact ⟨fun h => ⟨h, e⟩, fun h => h.1⟩
  · obtain ⟨h1, h2⟩ := List.mem_filter.1 hx
    have h3 : x.path ≠ p := by simpa using h2
    rw [Maps.atKey_del_other (fun h => h3 (kS_inj h))]
    exact hat x h1 z
theorem MapOk.store {w : World} {mb n : Nat} {S : List Ln} (h : MapOk w mb n S) (x : Ln) (hp : x.path.size ≤ maxLen) (hn : n < maxLen) (hx : x.path ∉ paths S) :
    ∃ w', (Instr.mapUpdate 53 (.map (some mb)) (.string x.path) (lnV x)).run Tryd.prog w = .ok () w' ∧ MapOk w' mb (n + 1) (S ++ [x]) ∧ w.mapTurned w' mb := by
  obtain ⟨D, hown, hmap, hhas, hat⟩ := h
  obtain ⟨w', hrun, hown', ht⟩ := hown.store strs_keyed Tryd.underlying53 hn (kS_key hp) (lnR_lnV x)
  refine ⟨w', hrun, ⟨_, hown', hmap.put _ _, fun q => ?_, fun y hy z => ?_⟩, ht⟩
  · have hp2 : paths (S ++ [x]) = paths S ++ [x.path] := by unfold paths; rw [List.map_append]; rfl
    rw [hp2]
    by_cases e : q = x.path
    · rw [e, Maps.has_put_same hmap (kS_lit _)]
      simp
    · rw [Maps.has_put_other (fun h => e (kS_inj h)), hhas q]
      simp [e]
  · rcases List.mem_append.1 hy with hy | hy
    · have e : y.path ≠ x.path := fun h => hx (by rw [← h]; exact List.mem_map.2 ⟨y, hy, rfl⟩)
      rw [Maps.atKey_put_other (fun h => e (kS_inj h))]
      exact hat y hy z
    · simp only [List.mem_singleton] at hy
      subst hy
      exact Maps.atKey_put_same hmap (kS_lit _) _ _
theorem MapOk.kept {w w' : World} {mb n : Nat} {S : List Ln} {row : Option Nat} (h : MapOk w mb n S) (hg : w.grownBy w' row) (hne : some mb ≠ row) : MapOk w' mb n S := by
  obtain ⟨D, hown, h2⟩ := h
  exact ⟨D, hown.kept hg hne, h2⟩
theorem MapOk.below {w w' : World} {mb n : Nat} {S : List Ln} (h : MapOk w mb n S) (hb : Below w.heap.size w w') : MapOk w' mb n S := by
  obtain ⟨D, hown, h2⟩ := h
  exact ⟨D, hown.kept (row := none) ⟨hb.os, hb.tape, hb.output, hb.size, fun i hi _ => hb.block i hi⟩ (by simp), h2⟩
theorem MapOk.setCell {w : World} {mb n : Nat} {S : List Ln} (h : MapOk w mb n S) {a : Addr} (ha : mb ≠ a.block) (u : Value) : MapOk (w.setCell a u) mb n S := by
  obtain ⟨D, hown, h2⟩ := h
  exact ⟨D, hown.setCell ha u, h2⟩
theorem MapOk.made (w : World) : MapOk (w.alloc (.map #[] 0)) w.heap.size 0 [] :=
  ⟨_, World.ownsMap_made _ _ _ _, Maps.isMap_empty, fun p => by show false = true ↔ p ∈ []; simp, fun x hx => by cases hx⟩
theorem MapOk.lt {w : World} {mb n : Nat} {S : List Ln} (h : MapOk w mb n S) : mb < w.heap.size := by
  obtain ⟨D, hown, _⟩ := h
  exact hown.lt
/-- The rows in memory: at p from offset o on, the names and the map. -/
structure Rw (b0 p : Nat) (mb n : Nat) (pre : List Value) (ty : Nat) (v : Value) (S : List Ln) (w : World) : Prop where
  hP : w.heap[p]? = some (.cells (pre ++ [v, .map (some mb)]).toArray ty (0, 0))
  hM : MapOk w mb n S
  hR : Kd.R Kd.string 9 w b0 (fun j => j ≠ p ∧ j ≠ mb) v (paths S)
  hN : (paths S).Nodup
  hne : mb ≠ p
  hp0 : b0 ≤ p
  hm0 : b0 ≤ mb
theorem Rw.below {b0 p mb n : Nat} {pre : List Value} {ty : Nat} {v : Value} {S : List Ln} {w w' : World} (h : Rw b0 p mb n pre ty v S w) (hb : Below w.heap.size w w') : Rw b0 p mb n pre ty v S w' :=
  ⟨blk_below h.hP hb, h.hM.below hb, Kd.R_below h.hR hb, h.hN, h.hne, h.hp0, h.hm0⟩
/-- All is as it was but the blocks p and mb; more blocks may be there. -/
structure Bm (p mb : Nat) (w w' : World) : Prop where
  os : w'.os = w.os
  tape : w'.tape = w.tape
  output : w'.output = w.output
  size : w.heap.size ≤ w'.heap.size
  block : ∀ j, j < w.heap.size → j ≠ p → j ≠ mb → w'.heap[j]? = w.heap[j]?
theorem Bm.refl (p mb : Nat) (w : World) : Bm p mb w w := ⟨rfl, rfl, rfl, Nat.le_refl _, fun _ _ _ _ => rfl⟩
theorem Bm.trans {p mb : Nat} {w w1 w2 : World} (h : Bm p mb w w1) (h2 : Bm p mb w1 w2) : Bm p mb w w2 :=
  ⟨h2.os.trans h.os, h2.tape.trans h.tape, h2.output.trans h.output, Nat.le_trans h.size h2.size, fun j hj a b => (h2.block j (Nat.lt_of_lt_of_le hj h.size) a b).trans (h.block j hj a b)⟩
theorem Bm.below {p mb : Nat} {w w1 w2 : World} (h : Bm p mb w w1) (h2 : Below w1.heap.size w1 w2) : Bm p mb w w2 :=
  h.trans ⟨h2.os, h2.tape, h2.output, h2.size, fun j hj _ _ => h2.block j hj⟩
theorem Bm.below' {p mb k0 : Nat} {w w1 w2 : World} (h : Bm p mb w w1) (h2 : Below k0 w1 w2) (hk : w.heap.size = k0) : Bm p mb w w2 :=
  ⟨h2.os.trans h.os, h2.tape.trans h.tape, h2.output.trans h.output, Nat.le_trans h.size h2.size, fun j hj a b => (h2.block j (by omega)).trans (h.block j hj a b)⟩
theorem R_bm {w w' : World} {p mb b0 : Nat} {v : Value} {xs : List ByteArray} (h : Kd.R Kd.string 9 w b0 (fun j => j ≠ p ∧ j ≠ mb) v xs) (hb : Bm p mb w w') : Kd.R Kd.string 9 w' b0 (fun j => j ≠ p ∧ j ≠ mb) v xs :=
  Kd.R_step h (fun j ho hk => hb.block j hk ho.1 ho.2)
theorem Bm.turned {p mb : Nat} {w w1 w2 : World} (h : Bm p mb w w1) (h2 : w1.mapTurned w2 mb) : Bm p mb w w2 :=
  h.trans ⟨h2.grown.os, h2.grown.tape, h2.grown.output, h2.grown.size, fun j hj _ b => h2.grown.block j hj (by simpa using b)⟩
theorem Bm.setCell {p mb : Nat} {w w1 : World} (h : Bm p mb w w1) (i : Nat) (u : Value) : Bm p mb w (w1.setCell ⟨p, i, none⟩ u) :=
  h.trans ⟨rfl, rfl, rfl, by simp [World.setCell], fun j hj a _ => Below.heap_setCell w1 ⟨p, i, none⟩ u j a⟩
theorem Bm.to {p mb b : Nat} {w0 w w' : World} (h : Bm p mb w w') (h0 : Below b w0 w) (hb : b ≤ w0.heap.size) (hp : b ≤ p) (hm : b ≤ mb) : Below b w0 w' :=
  ⟨h.os.trans h0.os, h.tape.trans h0.tape, h.output.trans h0.output, Nat.le_trans h0.size h.size, fun j hj => (h.block j (by have := h0.size; omega) (by omega) (by omega)).trans (h0.block j hj)⟩
theorem Bm.blk {p mb g : Nat} {w w' : World} {o : Obj} (h : Bm p mb w w') (hg : w.heap[g]? = some o) (hp : g ≠ p) (hm : g ≠ mb) : w'.heap[g]? = some o := (h.block g (blk_lt hg) hp hm).trans hg
/-- The lines that are left when the first i have been looked at. -/
def leftS (pr : ByteArray → Bool) (S : List Ln) (i : Nat) : List Ln := (S.take i).filter (fun x => !pr x.path) ++ S.drop i
theorem leftS_end (pr : ByteArray → Bool) (S : List Ln) (i : Nat) (h : S.length ≤ i) : leftS pr S i = S.filter (fun x => !pr x.path) := by
  unfold leftS
  rw [List.take_of_length_le h, List.drop_eq_nil_of_le h, List.append_nil]
theorem leftS_keep (pr : ByteArray → Bool) (S : List Ln) (i : Nat) (x : Ln) (hx : S[i]? = some x) (h : pr x.path = false) : leftS pr S (i + 1) = leftS pr S i := by
  obtain ⟨hi, e⟩ := List.getElem?_eq_some_iff.1 hx
  unfold leftS
  rw [List.take_add_one, hx, List.filter_append, List.drop_eq_getElem_cons hi, e]
  simp [h]
theorem leftS_drop (pr : ByteArray → Bool) (S : List Ln) (i : Nat) (x : Ln) (hn : (paths S).Nodup) (hx : S[i]? = some x) (h : pr x.path = true) :
    (leftS pr S i).filter (fun y => decide (y.path ≠ x.path)) = leftS pr S (i + 1) := by
  obtain ⟨hi, e⟩ := List.getElem?_eq_some_iff.1 hx
  have hsplit : S = S.take i ++ x :: S.drop (i + 1) := by
    rw [← e, ← List.drop_eq_getElem_cons hi, List.take_append_drop]
  have hn2 : (paths (S.take i) ++ x.path :: paths (S.drop (i + 1))).Nodup := by
    have : paths S = paths (S.take i) ++ x.path :: paths (S.drop (i + 1)) := by
      conv => lhs; rw [hsplit]
      unfold paths
      rw [List.map_append, List.map_cons]
    rw [← this]; exact hn
  have hd := List.nodup_append.1 hn2
  have ha : ∀ y ∈ S.take i, y.path ≠ x.path := fun y hy => hd.2.2 y.path (List.mem_map.2 ⟨y, hy, rfl⟩) x.path List.mem_cons_self
  have hb : ∀ y ∈ S.drop (i + 1), y.path ≠ x.path := fun y hy e2 => (List.nodup_cons.1 hd.2.1).1 (by rw [← e2]; exact List.mem_map.2 ⟨y, hy, rfl⟩)
  unfold leftS
  rw [List.filter_append, List.drop_eq_getElem_cons hi, e, List.filter_cons, if_neg (by simp), List.take_add_one, hx, List.filter_append]
  have e1 : ((S.take i).filter fun x => !pr x.path).filter (fun y => decide (y.path ≠ x.path)) = (S.take i).filter fun x => !pr x.path := by
    rw [List.filter_eq_self]
    intro y hy
    simpa using ha y (List.mem_filter.1 hy).1
  have e2 : (S.drop (i + 1)).filter (fun y => decide (y.path ≠ x.path)) = S.drop (i + 1) := by
    rw [List.filter_eq_self]
    intro y hy
    simpa using hb y hy
  rw [e1, e2]
  simp [h]
theorem rw_cells {w : World} {p : Nat} {u v m : Value} {ty : Nat} (h : w.heap[p]? = some (.cells #[u, v, m] ty (0, 0))) : w.cell? ⟨p, 0, none⟩ = some u ∧ w.cell? ⟨p, 1, none⟩ = some v ∧ w.cell? ⟨p, 2, none⟩ = some m := by
  refine ⟨?_, ?_, ?_⟩ <;> rw [cell_of_row w p _ _ ty (0, 0) h] <;> rfl
/-- The ledger in memory. -/
structure Lg (b0 p mb n : Nat) (room : Int) (v : Value) (S : List Ln) (w : World) : Prop where
  hP : w.heap[p]? = some (.cells #[.int .i64 room, v, .map (some mb)] 57 (0, 0))
  hM : MapOk w mb n S
  hR : Kd.R Kd.string 9 w b0 (fun j => j ≠ p ∧ j ≠ mb) v (paths S)
  hN : (paths S).Nodup
  hz : ∀ x ∈ S, x.path.size ≤ 1000000
  hne : mb ≠ p
  hp0 : b0 ≤ p
  hm0 : b0 ≤ mb
  hl : S.length ≤ 1000000
theorem Lg.below {b0 p mb n : Nat} {room : Int} {v : Value} {S : List Ln} {w w' : World} (h : Lg b0 p mb n room v S w) (hb : Below w.heap.size w w') : Lg b0 p mb n room v S w' :=
  ⟨blk_below h.hP hb, h.hM.below hb, Kd.R_below h.hR hb, h.hN, h.hz, h.hne, h.hp0, h.hm0, h.hl⟩
def outS (pr : ByteArray → Bool) (S : List Ln) : List Ln := S.filter (fun x => !pr x.path)
theorem paths_outS (pr : ByteArray → Bool) (S : List Ln) : paths (outS pr S) = (paths S).filter (fun q => !pr q) := by
  unfold outS paths
  rw [List.filter_map]
  rfl
theorem outS_nodup (pr : ByteArray → Bool) (S : List Ln) (h : (paths S).Nodup) : (paths (outS pr S)).Nodup := by
  rw [paths_outS]
  exact h.filter _
set_option maxHeartbeats 8000000 in
set_option maxRecDepth 20000 in
theorem row_out.last (b0 p mb n g : Nat) (c : ByteArray) (pr : ByteArray → Bool) (room : Int) (v : Value) (S : List Ln) (w : World) (h : Lg b0 p mb n room v S w) (hg : w.heap[g]? = some (.cells #[.string c] 9 (0, 0))) (hgp : g ≠ p) (hgm : g ≠ mb)
    (hw : ∀ (w1 : World) (s : ByteArray), w1.heap[g]? = some (.cells #[.string c] 9 (0, 0)) → s.size ≤ 1000000 → Calls Tryd.prog 66 #[.string s, .pointer (some ⟨g, 0, none⟩)] w1 fun e w' => e = .returned (.bool (pr s)) ∧ Below w1.heap.size w1 w') :
    Calls Tryd.prog 52 #[.pointer (some ⟨p, 1, none⟩), .func (.func 66) #[] #[.pointer (some ⟨g, 0, none⟩)]] w fun e w' => e = .returned (.int .i64 ((S.length : Int) - (outS pr S).length)) ∧ ∃ v', Lg b0 p mb n room v' (outS pr S) w' ∧ Bm p mb w w' ∧ ∀ j, v'.ownBlock = some j → w.heap.size ≤ j := by
  obtain ⟨A, c0, rfl, hc, hC⟩ := Kd.R_reads h.hR
  obtain ⟨m, hm⟩ : ∃ m, m = (paths S).length := ⟨_, rfl⟩
  rw [← hm] at h hC
  have hmS : m = S.length := by rw [hm]; unfold paths; rw [List.length_map]
  have HM := Aside0.mk (And.intro hm hmS)
  have HL := Aside0.mk h
  have HC := Aside0.mk hC
  have HG := Aside0.mk (And.intro hg (And.intro hgp hgm))
  have HW := Aside0.mk hw
  obtain ⟨k0, hk0⟩ : ∃ k0, w.heap.size = k0 := ⟨_, rfl⟩
  have HK := Aside0.mk hk0
  have HLT : Aside0 (p < k0 ∧ mb < k0 ∧ g < k0) := ⟨by rw [← hk0]; exact ⟨blk_lt h.hP, h.hM.lt, blk_lt hg⟩⟩
  have q1 := (rw_cells h.hP).2.1
  have HBI := Aside0.mk (Kd.R_base h.hR)
  clear h hg hgp hgm hw hC hm hmS hc
  go_enter Tryd.func52, Tryd.ntmps52
  go_wp2
  go_loopg [5, 7, 14] m (fun gg v5 v7 v14 w' => ∃ i : Nat, gg = m - i ∧ v14 = .int .i64 i ∧ Aside0 (i ≤ m) ∧ Aside0 (Bm p mb w w') ∧ Aside0 (w'.heap[p]? = some (.cells #[.int .i64 room, .slice A m c0, .map (some mb)] 57 (0, 0))) ∧ Aside0 (MapOk w' mb n (leftS pr S i)) ∧ Aside0 (Kd.R Kd.string 9 w' k0 (fun j => j ≠ p ∧ j ≠ mb) v5 (((paths S).take i).filter (fun q => !pr q))))
  case atStart => exact ⟨0, rfl, rfl, ⟨Nat.zero_le _⟩, ⟨Bm.refl _ _ _⟩, ⟨HL.out.hP⟩, ⟨HL.out.hM⟩, ⟨Kd.R_nil _ _ _ _ _⟩⟩
  case round =>
    clear q1
    obtain ⟨i, rfl, rfl, HI, HB, HP, HMP, HR⟩ := hrel
    have q1 := (rw_cells HP.out).2.1
    have q2 := (rw_cells HP.out).2.2
    by_cases c1 : i < m
    · have e1 : decide ((i : Int) < (m : Int)) = true := decide_eq_true (by omega)
      have e1' : decide (i < m) = true := decide_eq_true c1
      have e1n : (i < m) = True := eq_true c1
      have e1i : ((i : Int) < (m : Int)) = True := eq_true (by omega)
      have hi0 : (0 ≤ (i : Int)) = True := eq_true (by omega)
      have hi0' : decide (0 ≤ (i : Int)) = true := decide_eq_true (by omega)
      have HRN := Aside0.mk (R_bm HL.out.hR HB.out)
      have hCw := (Kd.R_reads' HRN.out).2.2
      obtain ⟨ad, x, rfl, hx, hcell⟩ := str_at hCw i (by have := HM.out; omega)
      obtain ⟨ln, hln, hlp⟩ : ∃ ln, S[i]? = some ln ∧ ln.path = x := by
        unfold paths at hx
        rw [List.getElem?_map] at hx
        cases hs : S[i]? with
        | none => rw [hs] at hx; cases hx
        | some ln => rw [hs] at hx; exact ⟨ln, rfl, Option.some.inj hx⟩
      have HX := Aside0.mk (And.intro hx (And.intro hln hlp))
      have HXs : Aside0 (x.size ≤ 1000000) := ⟨by rw [← hlp]; exact HL.out.hz ln (List.mem_of_getElem? hln)⟩
      have C1 := Aside0.mk c1
      have hadd : wrap64 ((i : Int) + 1) = ((i + 1 : Nat) : Int) := by have := HM.out; have := HL.out.hl; unfold wrap64; omega
      have HGr := Aside0.mk (HB.out.blk HG.out.1 HG.out.2.1 HG.out.2.2)
      have hmt : m - i = m - (i + 1) + 1 := by omega
      clear hx c1 hCw hln hlp
      go_wp2_with fail
      refine (HW.out wr x HGr.out HXs.out).mono ?_
      rintro e w2 ⟨rfl, hb⟩
      have HB2 := Aside0.mk (HB.out.below hb)
      have HP2 := Aside0.mk (blk_below HP.out hb)
      have HM2 := Aside0.mk (HMP.out.below hb)
      have HR2 := Aside0.mk (Kd.R_below HR.out hb)
      have q3 := (rw_cells HP2.out).2.2
      clear hb q1 q2 HB HP HMP HR HRN hcell HGr
      cases hpr : pr x with
      | true =>
        obtain ⟨w3, hrun, hM3, ht⟩ := HM2.out.del x (by have := HXs.out; unfold maxLen; omega) 0
        have HR3 := Aside0.mk (Kd.R_grown HR2.out ht.grown (fun j hj => by simpa using hj.2))
        have HP3 := Aside0.mk ((ht.grown.block p (blk_lt HP2.out) (by have := HL.out.hne; simpa using Ne.symm this)).trans HP2.out)
        have HB3 := Aside0.mk (HB2.out.turned ht)
        have HM3 : Aside0 (MapOk w3 mb n (leftS pr S (i + 1))) := ⟨by
          have e := leftS_drop pr S i ln HL.out.hN HX.out.2.1 (by rw [HX.out.2.2]; exact hpr)
          rw [HX.out.2.2] at e
          rw [← e]; exact hM3⟩
        have HPR := Aside0.mk hpr
        clear hM3 ht HR2 HP2 HM2 HB2 hpr
        go_wp2
        go_roundg (m - (i + 1))
        case measure => have := C1.out; omega
        case rel =>
          refine ⟨i + 1, rfl, by first | rfl | rw [hadd], ⟨by have := C1.out; omega⟩, HB3, HP3, HM3, ⟨?_⟩⟩
          rw [List.take_add_one, HX.out.1, List.filter_append]
          simpa [HPR.out] using HR3.out
      | false =>
        have HM3 : Aside0 (MapOk w2 mb n (leftS pr S (i + 1))) := ⟨by rw [leftS_keep pr S i _ HX.out.2.1 (by rw [HX.out.2.2]; exact hpr)]; exact HM2.out⟩
        have HPR := Aside0.mk hpr
        have HLL : Aside0 (((((paths S).take i).filter (fun q => !pr q)).length + 1) * 16 ≤ 140737488355328) := ⟨by
          have := List.length_filter_le (fun q => !pr q) ((paths S).take i)
          rw [List.length_take] at this
          have := HM.out; have := HL.out.hl; omega⟩
        have HK2 : Aside0 (k0 ≤ w2.heap.size) := ⟨by have := HB2.out.size; rw [HK.out] at this; exact this⟩
        clear hpr HM2
        go_wp2_with (first | ((with_reducible refine gate_builtin (b := .append) (xs := #[.tmp 26, .tmp 28]) rfl ?_); at_builtin; refine Kd.R_append Kd.string (w0 := w2) k0 rfl (.tmp 26) (.tmp 28) 46 9 (.string ⟨#[]⟩) 16 rfl Tryd.underlying46 ld_info9 rfl (by decide) (by omega) u5 (((paths S).take i).filter (fun q => !pr q)) x [.string x] (fun j => j ≠ p ∧ j ≠ mb) (fun _ => False) rfl rfl rfl (fun _ hk => hk.elim) (fun j hj => by have := HLT.out; have := HK2.out; omega) HR2.out (Below.refl _ _) HK2.out HLL.out ?_; intro v9 w9 ho9 hb9 hg9 ha9; clear ha9))
        have HR9 := Aside0.mk ho9
        have HB9 := Aside0.mk (HB2.out.below' hb9 HK.out)
        have HP9 := Aside0.mk ((hb9.block p HLT.out.1).trans HP2.out)
        have HM9 := Aside0.mk (HM3.out.kept hg9 (fun e => (HR2.out.1 mb e.symm).2 rfl))
        clear ho9 hb9 hg9 HR2 HP2 HB2 HM3
        go_wp2
        go_roundg (m - (i + 1))
        case measure => have := C1.out; omega
        case rel =>
          refine ⟨i + 1, rfl, by first | rfl | rw [hadd], ⟨by have := C1.out; omega⟩, HB9, HP9, HM9, ⟨?_⟩⟩
          rw [List.take_add_one, HX.out.1, List.filter_append]
          simpa [HPR.out] using HR9.out
    · have e1 : decide ((i : Int) < (m : Int)) = false := decide_eq_false (by omega)
      have e1' : decide (i < m) = false := decide_eq_false c1
      have e1n : (i < m) = False := eq_false c1
      have e1i : ((i : Int) < (m : Int)) = False := eq_false (by omega)
      have HR1 := HR
      rw [List.take_of_length_le (by have := HM.out; omega), ← paths_outS] at HR1
      have HM1 := HMP
      rw [leftS_end pr S i (by have := HM.out; omega)] at HM1
      obtain ⟨A2, c2, rfl⟩ := Kd.R_slice HR1.out
      obtain ⟨m2, hm2⟩ : ∃ m2, m2 = (paths (outS pr S)).length := ⟨_, rfl⟩
      rw [← hm2] at HR1
      rw [← hm2]
      have hsub : wrap64 ((m : Int) - (m2 : Int)) = (m : Int) - (m2 : Int) := by
        have h1 := List.length_filter_le (fun x => !pr x.path) S
        have h2 : m2 = (outS pr S).length := by rw [hm2]; unfold paths; rw [List.length_map]
        unfold outS at h2
        have := HM.out; have := HL.out.hl; unfold wrap64; omega
      have HM2e := Aside0.mk hm2
      have f1 := blk_frozen HP.out 1
      have HP5 := Aside0.mk (blk_set HP.out 1 (.slice A2 m2 c2))
      clear c1 HR HMP hm2
      go_wp2
      go_ret
      have hml : (outS pr S).length = m2 := by rw [HM2e.out]; unfold paths; rw [List.length_map]
      have hK := HK.out
      have hLT := HLT.out
      refine ⟨by show Ending.returned (.int .i64 (wrap64 ((m : Int) - (m2 : Int)))) = _; rw [hsub, ← HM.out.2, hml], _, ⟨HP5.out, HM1.out.setCell HL.out.hne _, ?_, outS_nodup pr S HL.out.hN, fun x hx => HL.out.hz x (List.mem_filter.1 hx).1, HL.out.hne, HL.out.hp0, HL.out.hm0, ?_⟩, HB.out.setCell 1 _, fun j hj => by rw [hK]; exact Kd.R_base HR1.out j hj⟩
      · exact Kd.R_far (Kd.R_lower HR1.out (by have := HL.out.hp0; omega)) (p := ⟨p, 1, none⟩) (fun j hj => hj.1) _
      · have h1 := List.length_filter_le (fun x => !pr x.path) S
        have := HL.out.hl
        unfold outS; omega
set_option maxHeartbeats 8000000 in
set_option maxRecDepth 20000 in
theorem row_out.tell (b0 p mb n g : Nat) (c : ByteArray) (pr : ByteArray → Bool) (room : Int) (v : Value) (S : List Ln) (w : World) (h : Lg b0 p mb n room v S w) (hg : w.heap[g]? = some (.cells #[.string c] 9 (0, 0))) (hgp : g ≠ p) (hgm : g ≠ mb)
    (hw : ∀ (w1 : World) (s : ByteArray), w1.heap[g]? = some (.cells #[.string c] 9 (0, 0)) → s.size ≤ 1000000 → Calls Tryd.prog 53 #[.string s, .pointer (some ⟨g, 0, none⟩)] w1 fun e w' => e = .returned (.bool (pr s)) ∧ Below w1.heap.size w1 w') :
    Calls Tryd.prog 52 #[.pointer (some ⟨p, 1, none⟩), .func (.func 53) #[] #[.pointer (some ⟨g, 0, none⟩)]] w fun e w' => e = .returned (.int .i64 ((S.length : Int) - (outS pr S).length)) ∧ ∃ v', Lg b0 p mb n room v' (outS pr S) w' ∧ Bm p mb w w' ∧ ∀ j, v'.ownBlock = some j → w.heap.size ≤ j := by
  obtain ⟨A, c0, rfl, hc, hC⟩ := Kd.R_reads h.hR
  obtain ⟨m, hm⟩ : ∃ m, m = (paths S).length := ⟨_, rfl⟩
  rw [← hm] at h hC
  have hmS : m = S.length := by rw [hm]; unfold paths; rw [List.length_map]
  have HM := Aside0.mk (And.intro hm hmS)
  have HL := Aside0.mk h
  have HC := Aside0.mk hC
  have HG := Aside0.mk (And.intro hg (And.intro hgp hgm))
  have HW := Aside0.mk hw
  obtain ⟨k0, hk0⟩ : ∃ k0, w.heap.size = k0 := ⟨_, rfl⟩
  have HK := Aside0.mk hk0
  have HLT : Aside0 (p < k0 ∧ mb < k0 ∧ g < k0) := ⟨by rw [← hk0]; exact ⟨blk_lt h.hP, h.hM.lt, blk_lt hg⟩⟩
  have q1 := (rw_cells h.hP).2.1
  have HBI := Aside0.mk (Kd.R_base h.hR)
  clear h hg hgp hgm hw hC hm hmS hc
  go_enter Tryd.func52, Tryd.ntmps52
  go_wp2
  go_loopg [5, 7, 14] m (fun gg v5 v7 v14 w' => ∃ i : Nat, gg = m - i ∧ v14 = .int .i64 i ∧ Aside0 (i ≤ m) ∧ Aside0 (Bm p mb w w') ∧ Aside0 (w'.heap[p]? = some (.cells #[.int .i64 room, .slice A m c0, .map (some mb)] 57 (0, 0))) ∧ Aside0 (MapOk w' mb n (leftS pr S i)) ∧ Aside0 (Kd.R Kd.string 9 w' k0 (fun j => j ≠ p ∧ j ≠ mb) v5 (((paths S).take i).filter (fun q => !pr q))))
  case atStart => exact ⟨0, rfl, rfl, ⟨Nat.zero_le _⟩, ⟨Bm.refl _ _ _⟩, ⟨HL.out.hP⟩, ⟨HL.out.hM⟩, ⟨Kd.R_nil _ _ _ _ _⟩⟩
  case round =>
    clear q1
    obtain ⟨i, rfl, rfl, HI, HB, HP, HMP, HR⟩ := hrel
    have q1 := (rw_cells HP.out).2.1
    have q2 := (rw_cells HP.out).2.2
    by_cases c1 : i < m
    · have e1 : decide ((i : Int) < (m : Int)) = true := decide_eq_true (by omega)
      have e1' : decide (i < m) = true := decide_eq_true c1
      have e1n : (i < m) = True := eq_true c1
      have e1i : ((i : Int) < (m : Int)) = True := eq_true (by omega)
      have hi0 : (0 ≤ (i : Int)) = True := eq_true (by omega)
      have hi0' : decide (0 ≤ (i : Int)) = true := decide_eq_true (by omega)
      have HRN := Aside0.mk (R_bm HL.out.hR HB.out)
      have hCw := (Kd.R_reads' HRN.out).2.2
      obtain ⟨ad, x, rfl, hx, hcell⟩ := str_at hCw i (by have := HM.out; omega)
      obtain ⟨ln, hln, hlp⟩ : ∃ ln, S[i]? = some ln ∧ ln.path = x := by
        unfold paths at hx
        rw [List.getElem?_map] at hx
        cases hs : S[i]? with
        | none => rw [hs] at hx; cases hx
        | some ln => rw [hs] at hx; exact ⟨ln, rfl, Option.some.inj hx⟩
      have HX := Aside0.mk (And.intro hx (And.intro hln hlp))
      have HXs : Aside0 (x.size ≤ 1000000) := ⟨by rw [← hlp]; exact HL.out.hz ln (List.mem_of_getElem? hln)⟩
      have C1 := Aside0.mk c1
      have hadd : wrap64 ((i : Int) + 1) = ((i + 1 : Nat) : Int) := by have := HM.out; have := HL.out.hl; unfold wrap64; omega
      have HGr := Aside0.mk (HB.out.blk HG.out.1 HG.out.2.1 HG.out.2.2)
      have hmt : m - i = m - (i + 1) + 1 := by omega
      clear hx c1 hCw hln hlp
      go_wp2_with fail
      refine (HW.out wr x HGr.out HXs.out).mono ?_
      rintro e w2 ⟨rfl, hb⟩
      have HB2 := Aside0.mk (HB.out.below hb)
      have HP2 := Aside0.mk (blk_below HP.out hb)
      have HM2 := Aside0.mk (HMP.out.below hb)
      have HR2 := Aside0.mk (Kd.R_below HR.out hb)
      have q3 := (rw_cells HP2.out).2.2
      clear hb q1 q2 HB HP HMP HR HRN hcell HGr
      cases hpr : pr x with
      | true =>
        obtain ⟨w3, hrun, hM3, ht⟩ := HM2.out.del x (by have := HXs.out; unfold maxLen; omega) 0
        have HR3 := Aside0.mk (Kd.R_grown HR2.out ht.grown (fun j hj => by simpa using hj.2))
        have HP3 := Aside0.mk ((ht.grown.block p (blk_lt HP2.out) (by have := HL.out.hne; simpa using Ne.symm this)).trans HP2.out)
        have HB3 := Aside0.mk (HB2.out.turned ht)
        have HM3 : Aside0 (MapOk w3 mb n (leftS pr S (i + 1))) := ⟨by
          have e := leftS_drop pr S i ln HL.out.hN HX.out.2.1 (by rw [HX.out.2.2]; exact hpr)
          rw [HX.out.2.2] at e
          rw [← e]; exact hM3⟩
        have HPR := Aside0.mk hpr
        clear hM3 ht HR2 HP2 HM2 HB2 hpr
        go_wp2
        go_roundg (m - (i + 1))
        case measure => have := C1.out; omega
        case rel =>
          refine ⟨i + 1, rfl, by first | rfl | rw [hadd], ⟨by have := C1.out; omega⟩, HB3, HP3, HM3, ⟨?_⟩⟩
          rw [List.take_add_one, HX.out.1, List.filter_append]
          simpa [HPR.out] using HR3.out
      | false =>
        have HM3 : Aside0 (MapOk w2 mb n (leftS pr S (i + 1))) := ⟨by rw [leftS_keep pr S i _ HX.out.2.1 (by rw [HX.out.2.2]; exact hpr)]; exact HM2.out⟩
        have HPR := Aside0.mk hpr
        have HLL : Aside0 (((((paths S).take i).filter (fun q => !pr q)).length + 1) * 16 ≤ 140737488355328) := ⟨by
          have := List.length_filter_le (fun q => !pr q) ((paths S).take i)
          rw [List.length_take] at this
          have := HM.out; have := HL.out.hl; omega⟩
        have HK2 : Aside0 (k0 ≤ w2.heap.size) := ⟨by have := HB2.out.size; rw [HK.out] at this; exact this⟩
        clear hpr HM2
        go_wp2_with (first | ((with_reducible refine gate_builtin (b := .append) (xs := #[.tmp 26, .tmp 28]) rfl ?_); at_builtin; refine Kd.R_append Kd.string (w0 := w2) k0 rfl (.tmp 26) (.tmp 28) 46 9 (.string ⟨#[]⟩) 16 rfl Tryd.underlying46 ld_info9 rfl (by decide) (by omega) u5 (((paths S).take i).filter (fun q => !pr q)) x [.string x] (fun j => j ≠ p ∧ j ≠ mb) (fun _ => False) rfl rfl rfl (fun _ hk => hk.elim) (fun j hj => by have := HLT.out; have := HK2.out; omega) HR2.out (Below.refl _ _) HK2.out HLL.out ?_; intro v9 w9 ho9 hb9 hg9 ha9; clear ha9))
        have HR9 := Aside0.mk ho9
        have HB9 := Aside0.mk (HB2.out.below' hb9 HK.out)
        have HP9 := Aside0.mk ((hb9.block p HLT.out.1).trans HP2.out)
        have HM9 := Aside0.mk (HM3.out.kept hg9 (fun e => (HR2.out.1 mb e.symm).2 rfl))
        clear ho9 hb9 hg9 HR2 HP2 HB2 HM3
        go_wp2
        go_roundg (m - (i + 1))
        case measure => have := C1.out; omega
        case rel =>
          refine ⟨i + 1, rfl, by first | rfl | rw [hadd], ⟨by have := C1.out; omega⟩, HB9, HP9, HM9, ⟨?_⟩⟩
          rw [List.take_add_one, HX.out.1, List.filter_append]
          simpa [HPR.out] using HR9.out
    · have e1 : decide ((i : Int) < (m : Int)) = false := decide_eq_false (by omega)
      have e1' : decide (i < m) = false := decide_eq_false c1
      have e1n : (i < m) = False := eq_false c1
      have e1i : ((i : Int) < (m : Int)) = False := eq_false (by omega)
      have HR1 := HR
      rw [List.take_of_length_le (by have := HM.out; omega), ← paths_outS] at HR1
      have HM1 := HMP
      rw [leftS_end pr S i (by have := HM.out; omega)] at HM1
      obtain ⟨A2, c2, rfl⟩ := Kd.R_slice HR1.out
      obtain ⟨m2, hm2⟩ : ∃ m2, m2 = (paths (outS pr S)).length := ⟨_, rfl⟩
      rw [← hm2] at HR1
      rw [← hm2]
      have hsub : wrap64 ((m : Int) - (m2 : Int)) = (m : Int) - (m2 : Int) := by
        have h1 := List.length_filter_le (fun x => !pr x.path) S
        have h2 : m2 = (outS pr S).length := by rw [hm2]; unfold paths; rw [List.length_map]
        unfold outS at h2
        have := HM.out; have := HL.out.hl; unfold wrap64; omega
      have HM2e := Aside0.mk hm2
      have f1 := blk_frozen HP.out 1
      have HP5 := Aside0.mk (blk_set HP.out 1 (.slice A2 m2 c2))
      clear c1 HR HMP hm2
      go_wp2
      go_ret
      have hml : (outS pr S).length = m2 := by rw [HM2e.out]; unfold paths; rw [List.length_map]
      have hK := HK.out
      have hLT := HLT.out
      refine ⟨by show Ending.returned (.int .i64 (wrap64 ((m : Int) - (m2 : Int)))) = _; rw [hsub, ← HM.out.2, hml], _, ⟨HP5.out, HM1.out.setCell HL.out.hne _, ?_, outS_nodup pr S HL.out.hN, fun x hx => HL.out.hz x (List.mem_filter.1 hx).1, HL.out.hne, HL.out.hp0, HL.out.hm0, ?_⟩, HB.out.setCell 1 _, fun j hj => by rw [hK]; exact Kd.R_base HR1.out j hj⟩
      · exact Kd.R_far (Kd.R_lower HR1.out (by have := HL.out.hp0; omega)) (p := ⟨p, 1, none⟩) (fun j hj => hj.1) _
      · have h1 := List.length_filter_le (fun x => !pr x.path) S
        have := HL.out.hl
        unfold outS; omega
set_option maxHeartbeats 8000000 in
set_option maxRecDepth 20000 in
theorem row_out.forget (b0 p mb n g : Nat) (c : ByteArray) (pr : ByteArray → Bool) (room : Int) (v : Value) (S : List Ln) (w : World) (h : Lg b0 p mb n room v S w) (hg : w.heap[g]? = some (.cells #[.string c] 9 (0, 0))) (hgp : g ≠ p) (hgm : g ≠ mb)
    (hw : ∀ (w1 : World) (s : ByteArray), w1.heap[g]? = some (.cells #[.string c] 9 (0, 0)) → s.size ≤ 1000000 → Calls Tryd.prog 54 #[.string s, .pointer (some ⟨g, 0, none⟩)] w1 fun e w' => e = .returned (.bool (pr s)) ∧ Below w1.heap.size w1 w') :
    Calls Tryd.prog 52 #[.pointer (some ⟨p, 1, none⟩), .func (.func 54) #[] #[.pointer (some ⟨g, 0, none⟩)]] w fun e w' => e = .returned (.int .i64 ((S.length : Int) - (outS pr S).length)) ∧ ∃ v', Lg b0 p mb n room v' (outS pr S) w' ∧ Bm p mb w w' ∧ ∀ j, v'.ownBlock = some j → w.heap.size ≤ j := by
  obtain ⟨A, c0, rfl, hc, hC⟩ := Kd.R_reads h.hR
  obtain ⟨m, hm⟩ : ∃ m, m = (paths S).length := ⟨_, rfl⟩
  rw [← hm] at h hC
  have hmS : m = S.length := by rw [hm]; unfold paths; rw [List.length_map]
  have HM := Aside0.mk (And.intro hm hmS)
  have HL := Aside0.mk h
  have HC := Aside0.mk hC
  have HG := Aside0.mk (And.intro hg (And.intro hgp hgm))
  have HW := Aside0.mk hw
  obtain ⟨k0, hk0⟩ : ∃ k0, w.heap.size = k0 := ⟨_, rfl⟩
  have HK := Aside0.mk hk0
  have HLT : Aside0 (p < k0 ∧ mb < k0 ∧ g < k0) := ⟨by rw [← hk0]; exact ⟨blk_lt h.hP, h.hM.lt, blk_lt hg⟩⟩
  have q1 := (rw_cells h.hP).2.1
  have HBI := Aside0.mk (Kd.R_base h.hR)
  clear h hg hgp hgm hw hC hm hmS hc
  go_enter Tryd.func52, Tryd.ntmps52
  go_wp2
  go_loopg [5, 7, 14] m (fun gg v5 v7 v14 w' => ∃ i : Nat, gg = m - i ∧ v14 = .int .i64 i ∧ Aside0 (i ≤ m) ∧ Aside0 (Bm p mb w w') ∧ Aside0 (w'.heap[p]? = some (.cells #[.int .i64 room, .slice A m c0, .map (some mb)] 57 (0, 0))) ∧ Aside0 (MapOk w' mb n (leftS pr S i)) ∧ Aside0 (Kd.R Kd.string 9 w' k0 (fun j => j ≠ p ∧ j ≠ mb) v5 (((paths S).take i).filter (fun q => !pr q))))
  case atStart => exact ⟨0, rfl, rfl, ⟨Nat.zero_le _⟩, ⟨Bm.refl _ _ _⟩, ⟨HL.out.hP⟩, ⟨HL.out.hM⟩, ⟨Kd.R_nil _ _ _ _ _⟩⟩
  case round =>
    clear q1
    obtain ⟨i, rfl, rfl, HI, HB, HP, HMP, HR⟩ := hrel
    have q1 := (rw_cells HP.out).2.1
    have q2 := (rw_cells HP.out).2.2
    by_cases c1 : i < m
    · have e1 : decide ((i : Int) < (m : Int)) = true := decide_eq_true (by omega)
      have e1' : decide (i < m) = true := decide_eq_true c1
      have e1n : (i < m) = True := eq_true c1
      have e1i : ((i : Int) < (m : Int)) = True := eq_true (by omega)
      have hi0 : (0 ≤ (i : Int)) = True := eq_true (by omega)
      have hi0' : decide (0 ≤ (i : Int)) = true := decide_eq_true (by omega)
      have HRN := Aside0.mk (R_bm HL.out.hR HB.out)
      have hCw := (Kd.R_reads' HRN.out).2.2
      obtain ⟨ad, x, rfl, hx, hcell⟩ := str_at hCw i (by have := HM.out; omega)
      obtain ⟨ln, hln, hlp⟩ : ∃ ln, S[i]? = some ln ∧ ln.path = x := by
        unfold paths at hx
        rw [List.getElem?_map] at hx
        cases hs : S[i]? with
        | none => rw [hs] at hx; cases hx
        | some ln => rw [hs] at hx; exact ⟨ln, rfl, Option.some.inj hx⟩
      have HX := Aside0.mk (And.intro hx (And.intro hln hlp))
      have HXs : Aside0 (x.size ≤ 1000000) := ⟨by rw [← hlp]; exact HL.out.hz ln (List.mem_of_getElem? hln)⟩
      have C1 := Aside0.mk c1
      have hadd : wrap64 ((i : Int) + 1) = ((i + 1 : Nat) : Int) := by have := HM.out; have := HL.out.hl; unfold wrap64; omega
      have HGr := Aside0.mk (HB.out.blk HG.out.1 HG.out.2.1 HG.out.2.2)
      have hmt : m - i = m - (i + 1) + 1 := by omega
      clear hx c1 hCw hln hlp
      go_wp2_with fail
      refine (HW.out wr x HGr.out HXs.out).mono ?_
      rintro e w2 ⟨rfl, hb⟩
      have HB2 := Aside0.mk (HB.out.below hb)
      have HP2 := Aside0.mk (blk_below HP.out hb)
      have HM2 := Aside0.mk (HMP.out.below hb)
      have HR2 := Aside0.mk (Kd.R_below HR.out hb)
      have q3 := (rw_cells HP2.out).2.2
      clear hb q1 q2 HB HP HMP HR HRN hcell HGr
      cases hpr : pr x with
      | true =>
        obtain ⟨w3, hrun, hM3, ht⟩ := HM2.out.del x (by have := HXs.out; unfold maxLen; omega) 0
        have HR3 := Aside0.mk (Kd.R_grown HR2.out ht.grown (fun j hj => by simpa using hj.2))
        have HP3 := Aside0.mk ((ht.grown.block p (blk_lt HP2.out) (by have := HL.out.hne; simpa using Ne.symm this)).trans HP2.out)
        have HB3 := Aside0.mk (HB2.out.turned ht)
        have HM3 : Aside0 (MapOk w3 mb n (leftS pr S (i + 1))) := ⟨by
          have e := leftS_drop pr S i ln HL.out.hN HX.out.2.1 (by rw [HX.out.2.2]; exact hpr)
          rw [HX.out.2.2] at e
          rw [← e]; exact hM3⟩
        have HPR := Aside0.mk hpr
        clear hM3 ht HR2 HP2 HM2 HB2 hpr
        go_wp2
        go_roundg (m - (i + 1))
        case measure => have := C1.out; omega
        case rel =>
          refine ⟨i + 1, rfl, by first | rfl | rw [hadd], ⟨by have := C1.out; omega⟩, HB3, HP3, HM3, ⟨?_⟩⟩
          rw [List.take_add_one, HX.out.1, List.filter_append]
          simpa [HPR.out] using HR3.out
      | false =>
        have HM3 : Aside0 (MapOk w2 mb n (leftS pr S (i + 1))) := ⟨by rw [leftS_keep pr S i _ HX.out.2.1 (by rw [HX.out.2.2]; exact hpr)]; exact HM2.out⟩
        have HPR := Aside0.mk hpr
        have HLL : Aside0 (((((paths S).take i).filter (fun q => !pr q)).length + 1) * 16 ≤ 140737488355328) := ⟨by
          have := List.length_filter_le (fun q => !pr q) ((paths S).take i)
          rw [List.length_take] at this
          have := HM.out; have := HL.out.hl; omega⟩
        have HK2 : Aside0 (k0 ≤ w2.heap.size) := ⟨by have := HB2.out.size; rw [HK.out] at this; exact this⟩
        clear hpr HM2
        go_wp2_with (first | ((with_reducible refine gate_builtin (b := .append) (xs := #[.tmp 26, .tmp 28]) rfl ?_); at_builtin; refine Kd.R_append Kd.string (w0 := w2) k0 rfl (.tmp 26) (.tmp 28) 46 9 (.string ⟨#[]⟩) 16 rfl Tryd.underlying46 ld_info9 rfl (by decide) (by omega) u5 (((paths S).take i).filter (fun q => !pr q)) x [.string x] (fun j => j ≠ p ∧ j ≠ mb) (fun _ => False) rfl rfl rfl (fun _ hk => hk.elim) (fun j hj => by have := HLT.out; have := HK2.out; omega) HR2.out (Below.refl _ _) HK2.out HLL.out ?_; intro v9 w9 ho9 hb9 hg9 ha9; clear ha9))
        have HR9 := Aside0.mk ho9
        have HB9 := Aside0.mk (HB2.out.below' hb9 HK.out)
        have HP9 := Aside0.mk ((hb9.block p HLT.out.1).trans HP2.out)
        have HM9 := Aside0.mk (HM3.out.kept hg9 (fun e => (HR2.out.1 mb e.symm).2 rfl))
        clear ho9 hb9 hg9 HR2 HP2 HB2 HM3
        go_wp2
        go_roundg (m - (i + 1))
        case measure => have := C1.out; omega
        case rel =>
          refine ⟨i + 1, rfl, by first | rfl | rw [hadd], ⟨by have := C1.out; omega⟩, HB9, HP9, HM9, ⟨?_⟩⟩
          rw [List.take_add_one, HX.out.1, List.filter_append]
          simpa [HPR.out] using HR9.out
    · have e1 : decide ((i : Int) < (m : Int)) = false := decide_eq_false (by omega)
      have e1' : decide (i < m) = false := decide_eq_false c1
      have e1n : (i < m) = False := eq_false c1
      have e1i : ((i : Int) < (m : Int)) = False := eq_false (by omega)
      have HR1 := HR
      rw [List.take_of_length_le (by have := HM.out; omega), ← paths_outS] at HR1
      have HM1 := HMP
      rw [leftS_end pr S i (by have := HM.out; omega)] at HM1
      obtain ⟨A2, c2, rfl⟩ := Kd.R_slice HR1.out
      obtain ⟨m2, hm2⟩ : ∃ m2, m2 = (paths (outS pr S)).length := ⟨_, rfl⟩
      rw [← hm2] at HR1
      rw [← hm2]
      have hsub : wrap64 ((m : Int) - (m2 : Int)) = (m : Int) - (m2 : Int) := by
        have h1 := List.length_filter_le (fun x => !pr x.path) S
        have h2 : m2 = (outS pr S).length := by rw [hm2]; unfold paths; rw [List.length_map]
        unfold outS at h2
        have := HM.out; have := HL.out.hl; unfold wrap64; omega
      have HM2e := Aside0.mk hm2
      have f1 := blk_frozen HP.out 1
      have HP5 := Aside0.mk (blk_set HP.out 1 (.slice A2 m2 c2))
      clear c1 HR HMP hm2
      go_wp2
      go_ret
      have hml : (outS pr S).length = m2 := by rw [HM2e.out]; unfold paths; rw [List.length_map]
      have hK := HK.out
      have hLT := HLT.out
      refine ⟨by show Ending.returned (.int .i64 (wrap64 ((m : Int) - (m2 : Int)))) = _; rw [hsub, ← HM.out.2, hml], _, ⟨HP5.out, HM1.out.setCell HL.out.hne _, ?_, outS_nodup pr S HL.out.hN, fun x hx => HL.out.hz x (List.mem_filter.1 hx).1, HL.out.hne, HL.out.hp0, HL.out.hm0, ?_⟩, HB.out.setCell 1 _, fun j hj => by rw [hK]; exact Kd.R_base HR1.out j hj⟩
      · exact Kd.R_far (Kd.R_lower HR1.out (by have := HL.out.hp0; omega)) (p := ⟨p, 1, none⟩) (fun j hj => hj.1) _
      · have h1 := List.length_filter_le (fun x => !pr x.path) S
        have := HL.out.hl
        unfold outS; omega
set_option maxHeartbeats 4000000 in
set_option maxRecDepth 20000 in
theorem sl_Equal (A A' : Option Addr) (c c' : Nat) (L M : List ByteArray) (w : World) (hL : Kd.C Kd.string w A L.length L) (hM : Kd.C Kd.string w A' M.length M) :
    Calls Tryd.prog 72 #[.slice A L.length c, .slice A' M.length c'] w fun e w' => e = .returned (.bool (decide (L = M))) ∧ Drawn0 w w' := by
  by_cases c0 : L.length = M.length
  rotate_left
  · have e0 : ((L.length : Int) != (M.length : Int)) = true := bne_iff_ne.mpr (by omega)
    have e0' : (L.length != M.length) = true := bne_iff_ne.mpr c0
    have e0'' : (L.length == M.length) = false := beq_eq_false_iff_ne.mpr c0
    rw [decide_eq_false (fun h => c0 (by rw [h]))]
    clear hL hM c0
    go_enter Tryd.func72, Tryd.ntmps72
    go_wp2
    go_ret
    exact ⟨rfl, Drawn0.refl _⟩
  obtain ⟨r, hr⟩ : ∃ r, decide (L = M) = r := ⟨_, rfl⟩
  rw [hr]
  have HRr := Aside0.mk hr
  have HL := Aside0.mk hL
  have HM := Aside0.mk hM
  obtain ⟨m, hm⟩ : ∃ m, m = L.length := ⟨_, rfl⟩
  rw [← c0, ← hm]
  have HN := Aside0.mk (And.intro hm (hm.trans c0))
  have hmax := hL.2.1
  rw [← hm] at hmax
  have HX := Aside0.mk hmax
  clear hr hL hM c0 hm hmax
  go_enter Tryd.func72, Tryd.ntmps72
  go_wp2
  go_loopg [5, 13] m (fun g v5 v13 w' => ∃ i : Nat, g = m - i ∧ v13 = .int .i64 i ∧ Aside0 (i ≤ m ∧ L.take i = M.take i) ∧ Drawn0 w w')
  case atStart => exact ⟨0, rfl, rfl, ⟨Nat.zero_le _, rfl⟩, Drawn0.refl _⟩
  case round =>
    obtain ⟨i, rfl, rfl, HI, ⟨nd, rfl⟩⟩ := hrel
    by_cases c1 : i < m
    · have e1 : decide ((i : Int) < (m : Int)) = true := decide_eq_true (by omega)
      have e1' : decide (i < m) = true := decide_eq_true c1
      have e1n : (i < m) = True := eq_true c1
      have e1i : ((i : Int) < (m : Int)) = True := eq_true (by omega)
      have hi0 : (0 ≤ (i : Int)) = True := eq_true (by omega)
      obtain ⟨ad, x, rfl, hx, hcell⟩ := str_at (Kd.C_drewN HL.out nd) i (by have := HN.out; omega)
      obtain ⟨ad', y, rfl, hy, hcell'⟩ := str_at (Kd.C_drewN HM.out nd) i (by have := HN.out; omega)
      have H2 := Aside0.mk (And.intro hx hy)
      have C1 := Aside0.mk c1
      have hadd : wrap64 ((i : Int) + 1) = ((i + 1 : Nat) : Int) := by have := HX.out; unfold wrap64; omega
      have hca : ∀ k, (w.drewN k).cell? (ad.add i) = some (.string x) := fun k => hcell
      have hca' : ∀ k, (w.drewN k).cell? (ad'.add i) = some (.string y) := fun k => hcell'
      clear hx hy c1
      by_cases c2 : x = y
      · have e2 : (x.toList == y.toList) = true := by rw [c2]; simp
        have C2 := Aside0.mk c2
        clear c2
        go_wp2
        repeat (go_quiet (fail); try go_wp2)
        go_roundg (m - (i + 1))
        case measure => have := C1.out; omega
        case rel =>
          refine ⟨i + 1, rfl, by first | rfl | rw [hadd], ⟨by have := C1.out; omega, ?_⟩, by repeat (first | exact Drawn0.refl _ | apply Drawn0.step)⟩
          rw [List.take_add_one, List.take_add_one, H2.out.1, H2.out.2, HI.out.2, C2.out]
      · have e2 : (x.toList == y.toList) = false := beq_eq_false_iff_ne.mpr (fun h => c2 (toList_inj.1 h))
        have C2 := Aside0.mk c2
        clear c2
        go_wp2
        repeat (go_quiet (fail); try go_wp2)
        go_ret
        refine ⟨?_, by repeat (first | exact Drawn0.refl _ | apply Drawn0.step)⟩
        have hne : ¬ L = M := fun h => by
          have h1 := H2.out
          rw [h] at h1
          exact C2.out (Option.some.inj (h1.1.symm.trans h1.2))
        rw [← HRr.out, decide_eq_false hne]
        first | done | rfl
    · have e1 : decide ((i : Int) < (m : Int)) = false := decide_eq_false (by omega)
      have e1' : decide (i < m) = false := decide_eq_false c1
      have e1n : (i < m) = False := eq_false c1
      have e1i : ((i : Int) < (m : Int)) = False := eq_false (by omega)
      have C1 := Aside0.mk c1
      clear c1
      go_wp2
      go_ret
      refine ⟨?_, ⟨nd, rfl⟩⟩
      have h := HI.out.2
      rw [List.take_of_length_le (by have := HN.out; have := C1.out; omega), List.take_of_length_le (by have := HN.out; have := C1.out; omega)] at h
      rw [← HRr.out, decide_eq_true h]
      first | done | rfl
def underF (p top : ByteArray) : Bool := decide ((splitF top).length ≤ (splitF p).length) && decide ((splitF p).take (splitF top).length = splitF top)
set_option maxHeartbeats 4000000 in
set_option maxRecDepth 20000 in
theorem path_Under.at_ (p top : ByteArray) (hp : p.size ≤ 1000000) (ht : top.size ≤ 1000000) (w : World) :
    Calls Tryd.prog 55 #[.string p, .string top] w fun e w' => e = .returned (.bool (underF p top)) ∧ Below w.heap.size w w' := by
  have H1 := Aside0.mk (fun w => path_Split.at_ p hp w)
  have H2 := Aside0.mk (fun w => path_Split.at_ top ht w)
  obtain ⟨r, hr⟩ : ∃ r, underF p top = r := ⟨_, rfl⟩
  rw [hr]
  unfold underF at hr
  obtain ⟨L, hL⟩ : ∃ L, splitF p = L := ⟨_, rfl⟩
  obtain ⟨M, hM⟩ : ∃ M, splitF top = M := ⟨_, rfl⟩
  rw [hL] at hr H1
  rw [hM] at hr H2
  have HRr := Aside0.mk hr
  clear hp ht hr hL hM
  go_enter Tryd.func55, Tryd.ntmps55
  go_wp2_with fail
  refine (H1.out w).mono ?_
  rintro e w1 ⟨v, rfl, hR, hb⟩
  have HR1 := Aside0.mk hR
  have HB1 := Aside0.mk hb
  clear hR hb
  go_wp2_with fail
  refine (H2.out w1).mono ?_
  rintro e w2 ⟨v2, rfl, hR2, hb2⟩
  obtain ⟨A, c, rfl, hc, hC⟩ := Kd.R_reads HR1.out
  obtain ⟨A2, c2, rfl, hc2, hC2⟩ := Kd.R_reads hR2
  have HB2 := Aside0.mk (ld_step HB1.out hb2)
  have HC1 := Aside0.mk (Kd.C_below hC hb2)
  have HC2 := Aside0.mk hC2
  have HCc := Aside0.mk (And.intro hc hc2)
  obtain ⟨l, hl⟩ : ∃ l, l = L.length := ⟨_, rfl⟩
  obtain ⟨m, hm⟩ : ∃ m, m = M.length := ⟨_, rfl⟩
  rw [← hl, ← hm]
  have HN := Aside0.mk (And.intro hl hm)
  clear hR2 hb2 hC hC2 hc hc2 hl hm HR1 HB1 H1 H2
  by_cases c0 : m ≤ l
  rotate_left
  · have e0 : decide ((m : Int) ≤ (l : Int)) = false := decide_eq_false (by omega)
    have e0' : decide (m ≤ l) = false := decide_eq_false c0
    have C0 := Aside0.mk c0
    clear c0
    go_wp2
    go_ret
    refine ⟨?_, HB2.out⟩
    rw [← HRr.out, decide_eq_false (p := M.length ≤ L.length) (by have := HN.out; have := C0.out; omega)]
    rfl
  have e0 : decide ((m : Int) ≤ (l : Int)) = true := decide_eq_true (by omega)
  have e0' : decide (m ≤ l) = true := decide_eq_true c0
  obtain ⟨i0, hi0, _, hsz0, _⟩ := info_parts ld_info9
  have hcut0 := cut_to (P := Tryd.prog) 46 9 .i64 Tryd.underlying46 hi0 A l c (m : Int) (by omega) (by omega) (by have := HN.out; have := HCc.out; omega)
  rw [Int.toNat_natCast] at hcut0
  have hcut : ∀ W : World, (Instr.slice 46 (.slice A l c) none (some (.int .i64 (m : Int))) none).run Tryd.prog W = .ok (.slice A m c) W := hcut0
  have hTk := Kd.C_take HC1.out (m := m) (by have := HN.out; omega)
  have hlt : (L.take m).length = m := by rw [List.length_take]; have := HN.out; omega
  have HE := Aside0.mk (sl_Equal A A2 c c2 (L.take m) M w2 hTk HC2.out)
  rw [hlt, ← HN.out.2] at HE
  have C0 := Aside0.mk c0
  clear hcut0 hTk hlt c0 hi0 hsz0
  go_wp2_with fail
  refine HE.out.mono ?_
  rintro e w3 ⟨rfl, hd⟩
  have HB3 := Aside0.mk (ld_step HB2.out hd.below)
  clear hd HE
  go_wp2
  go_ret
  refine ⟨?_, HB3.out⟩
  rw [← HRr.out, ← HN.out.2, decide_eq_true (p := m ≤ L.length) (by have := HN.out; have := C0.out; omega)]
  rfl
theorem clo_cell {w : World} {g : Nat} {c : ByteArray} (h : w.heap[g]? = some (.cells #[.string c] 9 (0, 0))) : w.cell? ⟨g, 0, none⟩ = some (.string c) := by
  rw [cell_of_row w g _ _ 9 (0, 0) h]; rfl
def eqP (c s : ByteArray) : Bool := s.toList == c.toList
theorem eqP_iff (c s : ByteArray) : eqP c s = true ↔ s = c := by
  unfold eqP
  rw [beq_iff_eq, toList_inj]
theorem clo_last (g : Nat) (c s : ByteArray) (w : World) (h : w.heap[g]? = some (.cells #[.string c] 9 (0, 0))) :
    Calls Tryd.prog 66 #[.string s, .pointer (some ⟨g, 0, none⟩)] w fun e w' => e = .returned (.bool (eqP c s)) ∧ Below w.heap.size w w' := by
  have q := clo_cell h
  clear h
  go_enter Tryd.func66, Tryd.ntmps66
  go_wp2
  go_ret
  exact ⟨rfl, Below.refl _ _⟩
theorem clo_tell (g : Nat) (c s : ByteArray) (w : World) (h : w.heap[g]? = some (.cells #[.string c] 9 (0, 0))) :
    Calls Tryd.prog 53 #[.string s, .pointer (some ⟨g, 0, none⟩)] w fun e w' => e = .returned (.bool (eqP c s)) ∧ Below w.heap.size w w' := by
  have q := clo_cell h
  clear h
  go_enter Tryd.func53, Tryd.ntmps53
  go_wp2
  go_ret
  exact ⟨rfl, Below.refl _ _⟩
theorem clo_forget (g : Nat) (c s : ByteArray) (w : World) (h : w.heap[g]? = some (.cells #[.string c] 9 (0, 0))) (hs : s.size ≤ 1000000) (hc : c.size ≤ 1000000) :
    Calls Tryd.prog 54 #[.string s, .pointer (some ⟨g, 0, none⟩)] w fun e w' => e = .returned (.bool (underF s c)) ∧ Below w.heap.size w w' := by
  have q := clo_cell h
  have HU := Aside0.mk (path_Under.at_ s c hs hc w)
  clear h hs hc
  go_enter Tryd.func54, Tryd.ntmps54
  go_wp2_with fail
  refine HU.out.mono ?_
  rintro e w1 ⟨rfl, hb⟩
  have HB := Aside0.mk hb
  clear hb
  go_wp2
  go_ret
  exact ⟨rfl, HB.out⟩
theorem Bm.grown {p mb : Nat} {w w1 w2 : World} {row : Option Nat} (h : Bm p mb w w1) (hg : w1.grownBy w2 row) (hr : ∀ j, row = some j → w.heap.size ≤ j) : Bm p mb w w2 :=
  ⟨hg.os.trans h.os, hg.tape.trans h.tape, hg.output.trans h.output, Nat.le_trans h.size hg.size, fun j hj a b => (hg.block j (Nat.lt_of_lt_of_le hj h.size) (fun e => by have := hr j e.symm; omega)).trans (h.block j hj a b)⟩
theorem own_len (A : Option Addr) (n m c : Nat) : (Value.slice A n c).ownBlock = (Value.slice A m c).ownBlock := by
  rcases A with _ | ⟨b, o, f⟩
  · rfl
  · rfl
theorem mupd_step {P : Program} {o : Oper} {a : Act} {W W' : World} {m k x : Operand} {ty : TypeId} {u v y : Value} (ho : o.op = .mapUpdate ty m k x) (hm : a.eval m = u) (hk : a.eval k = v) (hx : a.eval x = y) (hr : (Instr.mapUpdate ty u v y).run P W = .ok () W') : (execOp a.eval o).run P W = .ok .skip W' := by
  unfold execOp
  simp only [ho, hm, hk, hx, hr, Sem.run_bind, Sem.run_pure, Result.andThen_ok]
def lastS (x : Ln) (S : List Ln) : List Ln := outS (eqP x.path) S ++ [x]
theorem paths_lastS (x : Ln) (S : List Ln) : paths (lastS x S) = paths (outS (eqP x.path) S) ++ [x.path] := by unfold lastS paths; rw [List.map_append]; rfl
theorem not_out (x : Ln) (S : List Ln) : x.path ∉ paths (outS (eqP x.path) S) := by
  rw [paths_outS]
  intro h
  have := (List.mem_filter.1 h).2
  rw [(eqP_iff x.path x.path).2 rfl] at this
  cases this
theorem lastS_nodup (x : Ln) (S : List Ln) (h : (paths S).Nodup) : (paths (lastS x S)).Nodup := by
  rw [paths_lastS, List.nodup_append]
  refine ⟨outS_nodup _ S h, by simp, fun a ha b hb e => ?_⟩
  simp only [List.mem_singleton] at hb
  subst hb
  subst e
  exact not_out x S ha
set_option maxHeartbeats 8000000 in
set_option maxRecDepth 20000 in
theorem row_last.at_ (b0 p mb n : Nat) (room : Int) (v : Value) (S : List Ln) (x : Ln) (w : World) (h : Lg b0 p mb n room v S w) (hx : x.path.size ≤ 1000000) (hS : S.length < 1000000) (hn : n ≤ 1000000) :
    Calls Tryd.prog 42 #[.pointer (some ⟨p, 1, none⟩), .string x.path, lnV x] w fun e w' => e = .returned (.tuple #[]) ∧ ∃ v', Lg b0 p mb (n + 1) room v' (lastS x S) w' ∧ Bm p mb w w' ∧ ∀ j, v'.ownBlock = some j → w.heap.size ≤ j := by
  obtain ⟨path, ino, size, sec, nano, sum⟩ := x
  dsimp only at hx ⊢
  unfold lnV
  dsimp only
  have HO := Aside0.mk (fun (g : Nat) (w1 : World) (h1 : Lg b0 p mb n room v S w1) (hg : w1.heap[g]? = some (.cells #[.string path] 9 (0, 0))) (a : g ≠ p) (b : g ≠ mb) => row_out.last b0 p mb n g path (eqP path) room v S w1 h1 hg a b (fun w2 s h2 _ => clo_last g path s w2 h2))
  have hmf : ∀ (fn : Fn) (first cap : Array Value) (w : World), (Instr.makeFunc fn first cap).run Tryd.prog w = .ok (.func fn first cap) w := fun _ _ _ _ => rfl
  obtain ⟨w1, hw1⟩ : ∃ w1, w1 = (w.alloc (.cells #[.string path] 9)).alloc (.cells #[.string path, .int .i64 ino, .int .i64 size, .int .i64 sec, .int .i64 nano, .string sum] 68) := ⟨_, rfl⟩
  obtain ⟨g, hg⟩ : ∃ g, w.heap.size = g := ⟨_, rfl⟩
  obtain ⟨gx, hgx⟩ : ∃ gx, g + 1 = gx := ⟨_, rfl⟩
  have HG1 : Aside0 (w1.heap[g]? = some (.cells #[.string path] 9 (0, 0))) := ⟨by rw [hw1, ← hg]; exact blk_alloc (blk_new w _) _⟩
  have HX1 : Aside0 (w1.heap[gx]? = some (.cells #[.string path, .int .i64 ino, .int .i64 size, .int .i64 sec, .int .i64 nano, .string sum] 68 (0, 0))) := ⟨by
    rw [hw1, ← hgx, ← hg]
    have := blk_new (w.alloc (.cells #[.string path] 9)) (.cells #[.string path, .int .i64 ino, .int .i64 size, .int .i64 sec, .int .i64 nano, .string sum] 68)
    simpa using this⟩
  have HB1 : Aside0 (Below w.heap.size w w1) := ⟨by rw [hw1]; exact below_alloc (below_alloc (Below.refl _ _) _) _⟩
  have HL1 := Aside0.mk (h.below HB1.out)
  have HN : Aside0 (p < g ∧ mb < g ∧ b0 ≤ p ∧ g + 1 = gx ∧ w.heap.size = g) := ⟨by rw [← hg] at *; exact ⟨blk_lt h.hP, h.hM.lt, h.hp0, hgx, rfl⟩⟩
  have HS := Aside0.mk (And.intro hS hn)
  have HXs := Aside0.mk hx
  have HNN := Aside0.mk (lastS_nodup ⟨path, ino, size, sec, nano, sum⟩ S h.hN)
  have HNO := Aside0.mk (not_out ⟨path, ino, size, sec, nano, sum⟩ S)
  have HPL := Aside0.mk (paths_lastS ⟨path, ino, size, sec, nano, sum⟩ S)
  have HZ := Aside0.mk h.hz
  have HL2n := Aside0.mk h.hne
  have HL0 := Aside0.mk h
  have HW1 : Aside0 (w1.heap.size = g + 2) := ⟨by rw [hw1, ← hg]; simp⟩
  clear h hx hS hn
  go_enter Tryd.func42, Tryd.ntmps42
  go_wp2_with fail
  rw [← hw1]
  clear hw1
  refine (HO.out g w1 HL1.out HG1.out (by have := HN.out; omega) (by have := HN.out; omega)).mono ?_
  rintro e w2 ⟨rfl, v2, hL2, hB2, hO2⟩
  have HL2 := Aside0.mk hL2
  have HB2 := Aside0.mk hB2
  have HOB : Aside0 (∀ j, j < g + 2 → some j ≠ v2.ownBlock) := ⟨fun j hj e => by
    have h2 := hO2 j e.symm
    have h3 := blk_lt HX1.out
    have := HN.out
    omega⟩
  obtain ⟨A, c, rfl⟩ := Kd.R_slice hL2.hR
  obtain ⟨Q, hQ⟩ : ∃ Q, Q = paths (outS (eqP path) S) := ⟨_, rfl⟩
  obtain ⟨m, hm⟩ : ∃ m, m = Q.length := ⟨_, rfl⟩
  have HP2 := Aside0.mk hL2.hP
  have HR2 := Aside0.mk hL2.hR
  rw [← hQ, ← hm] at HP2 HR2
  have HQ := Aside0.mk (And.intro hQ hm)
  have HG2 := Aside0.mk (hB2.blk HG1.out (by have := HN.out; omega) (by have := HN.out; omega))
  have HX2 := Aside0.mk (hB2.blk HX1.out (by have := HN.out; omega) (by have := HN.out; omega))
  have HM2 := Aside0.mk hL2.hM
  have HLT : Aside0 (p < w2.heap.size ∧ mb < w2.heap.size ∧ b0 ≤ p) := ⟨⟨blk_lt HP2.out, HM2.out.lt, HN.out.2.2.1⟩⟩
  have HQl : Aside0 (Q.length ≤ S.length) := ⟨by rw [hQ]; unfold paths outS; rw [List.length_map]; exact List.length_filter_le _ _⟩
  have HLL : Aside0 ((Q.length + 1) * 16 ≤ 140737488355328) := ⟨by have := HQl.out; have := HS.out; omega⟩
  rw [← hQ, ← hm] at HOB
  have HL2l := Aside0.mk hL2.hl
  have HSM := Aside0.mk hB2.size
  rw [← hQ, ← hm] at hL2
  clear hL2 hB2 hO2 hQ hm HO HL1
  go_wp2_with fail
  refine start_ (n := 11) (S := fun w' => w'.cell? ⟨p, 1, none⟩ = some (.slice A m c) ∧ w'.cell? ⟨g, 0, none⟩ = some (.string path)) (ds := [10]) #[F_,F_,F_,F_,F_,F_,F_,F_,F_,F_,F_] (by kernel_rfl) rfl rfl ⟨(rw_cells HP2.out).2.1, (clo_cell HG2.out)⟩ (fun hHeld => ?_)
  refine pure_ (i := 0) (N := some 9) (v := ?_) (a' := ?_) #[T_,F_,F_,F_,F_,F_,F_,F_,F_,F_,F_] rfl rfl (by kernel_rfl) (fun _ _ _ h => h) (Or.inl ⟨by rfl, ?_⟩) ?_ ?_
  rotate_left
  · intro w'
    go_simp
    with_reducible rfl
  rotate_left
  · simp only [Act.put, List.setIfInBounds_toArray, List.set_cons_zero, List.set_cons_succ, i64_w, i32_w]
    rfl
  refine pure_ (i := 1) (N := some 10) (v := ?_) (a' := ?_) #[T_,T_,F_,F_,F_,F_,F_,F_,F_,F_,F_] rfl rfl (by kernel_rfl) (fun _ _ _ h => h) (Or.inl ⟨by rfl, ?_⟩) ?_ ?_
  rotate_left
  · intro w'
    go_simp
    with_reducible rfl
  rotate_left
  · simp only [Act.put, List.setIfInBounds_toArray, List.set_cons_zero, List.set_cons_succ, i64_w, i32_w]
    rfl
  refine pure_ (i := 2) (N := some 11) (v := ?_) (a' := ?_) #[T_,T_,T_,F_,F_,F_,F_,F_,F_,F_,F_] rfl rfl (by kernel_rfl) (fun _ _ _ h => h) (Or.inl ⟨by rfl, ?_⟩) ?_ ?_
  rotate_left
  · intro w'
    go_simp
    with_reducible rfl
  rotate_left
  · simp only [Act.put, List.setIfInBounds_toArray, List.set_cons_zero, List.set_cons_succ, i64_w, i32_w]
    rfl
  refine pure_ (i := 3) (N := some 12) (v := ?_) (a' := ?_) #[T_,T_,T_,T_,F_,F_,F_,F_,F_,F_,F_] rfl rfl (by kernel_rfl) (fun _ _ _ h => h) (Or.inl ⟨by rfl, ?_⟩) ?_ ?_
  rotate_left
  · intro w'
    go_simp
    with_reducible rfl
  rotate_left
  · simp only [Act.put, List.setIfInBounds_toArray, List.set_cons_zero, List.set_cons_succ, i64_w, i32_w]
    rfl
  refine take_ (i := 4) (N := some 13) (v := ?_) (a' := ?_) #[T_,T_,T_,T_,T_,F_,F_,F_,F_,F_,F_] rfl rfl (by kernel_rfl) (fun _ _ _ h => h) (Or.inl ⟨by rfl, ?_⟩) hHeld ?_ ?_
  rotate_left
  · rintro w' ⟨s0, s1⟩
    go_simp
    with_reducible rfl
  rotate_left
  · simp only [Act.put, List.setIfInBounds_toArray, List.set_cons_zero, List.set_cons_succ, i64_w, i32_w]
    rfl
  refine take_ (i := 5) (N := some 14) (v := ?_) (a' := ?_) #[T_,T_,T_,T_,T_,T_,F_,F_,F_,F_,F_] rfl rfl (by kernel_rfl) (fun _ _ _ h => h) (Or.inl ⟨by rfl, ?_⟩) hHeld ?_ ?_
  rotate_left
  · rintro w' ⟨s0, s1⟩
    go_simp
    with_reducible rfl
  rotate_left
  · simp only [Act.put, List.setIfInBounds_toArray, List.set_cons_zero, List.set_cons_succ, i64_w, i32_w]
    rfl
  refine one_ (i := 6) (N := some 15) #[T_,T_,T_,T_,T_,T_,T_,F_,F_,F_,F_] rfl rfl (by kernel_rfl) (by decide) (fun K hK => ?_)
  refine value_ (w1 := ?_) (v := ?_) (by rfl) rfl ?_ ?_
  rotate_left 2
  · go_simp
    constructor
    · rfl
    · rfl
  have HPb := Aside0.mk (blk_alloc HP2.out (.cells #[.string path] 9))
  have HGb := Aside0.mk (blk_alloc HG2.out (.cells #[.string path] 9))
  refine hK.out _ _ ⟨(rw_cells HPb.out).2.1, (clo_cell HGb.out)⟩ (fun hHeld => ?_)
  clear hK K
  refine norm_ (a' := ?_) ?_ ?_
  rotate_left
  · show Act.put _ (some 15) _ = _
    simp only [Act.put, List.setIfInBounds_toArray, List.set_cons_zero, List.set_cons_succ, i64_w, i32_w]
    rfl
  refine one_ (i := 7) (N := some 16) #[T_,T_,T_,T_,T_,T_,T_,T_,F_,F_,F_] rfl rfl (by kernel_rfl) (by decide) (fun K hK => ?_)
  refine Kd.R_append_step Kd.string (w0 := w2.drew) (W := w2.drew) b0 (by rfl) (.tmp 13) (.tmp 15) 46 9 (.string ⟨#[]⟩) 16 rfl Tryd.underlying46 ld_info9 rfl (by decide) (by omega) (.slice A m c) Q path [.string path] (fun j => j ≠ p ∧ j ≠ mb) (fun _ => False) rfl rfl rfl (fun _ hk => hk.elim) (fun j hj => by have := HLT.out; have h2 : w2.heap.size ≤ j := hj; omega) (Kd.R_drew HR2.out) (Below.refl _ _) (by have := HLT.out; show b0 ≤ w2.heap.size; omega) HLL.out ?_
  intro v5 w5 ho hb5 hg hat
  have HAT := Aside0.mk hat
  have HR5 := Aside0.mk ho
  have HGr := Aside0.mk hg
  have HP5 := Aside0.mk ((hg.block p (blk_lt (w := w2.drew) HP2.out) (fun e => (HR2.out.1 p e.symm).1 rfl)).trans HP2.out)
  have HG5 := Aside0.mk ((hg.block g (blk_lt (w := w2.drew) HG2.out) (HOB.out g (by omega))).trans HG2.out)
  have HX5 := Aside0.mk ((hg.block gx (blk_lt (w := w2.drew) HX2.out) (HOB.out gx (by have := HN.out; omega))).trans HX2.out)
  have qf5 := blk_frozen HP5.out 1
  clear ho hb5 hg hat
  obtain ⟨A5, c5, rfl⟩ := Kd.R_slice HR5.out
  generalize hm5 : (Q ++ [path]).length = m5 at HR5 ⊢
  refine hK.out _ _ ⟨(rw_cells HP5.out).2.1, (clo_cell HG5.out)⟩ (fun hHeld => ?_)
  clear hK K
  refine norm_ (a' := ?_) ?_ ?_
  rotate_left
  · show Act.put _ (some 16) _ = _
    simp only [Act.put, List.setIfInBounds_toArray, List.set_cons_zero, List.set_cons_succ, i64_w, i32_w]
    rfl
  refine pure_ (i := 8) (N := some 17) (v := ?_) (a' := ?_) #[T_,T_,T_,T_,T_,T_,T_,T_,T_,F_,F_] rfl rfl (by kernel_rfl) (fun _ _ _ h => h) (Or.inl ⟨by rfl, ?_⟩) ?_ ?_
  rotate_left
  · intro w'
    go_simp
    with_reducible rfl
  rotate_left
  · simp only [Act.put, List.setIfInBounds_toArray, List.set_cons_zero, List.set_cons_succ, i64_w, i32_w]
    rfl
  refine pure_ (i := 9) (N := some 18) (v := ?_) (a' := ?_) #[T_,T_,T_,T_,T_,T_,T_,T_,T_,T_,F_] rfl rfl (by kernel_rfl) (fun _ _ _ h => h) (Or.inl ⟨by rfl, ?_⟩) ?_ ?_
  rotate_left
  · intro w'
    go_simp
    with_reducible rfl
  rotate_left
  · simp only [Act.put, List.setIfInBounds_toArray, List.set_cons_zero, List.set_cons_succ, i64_w, i32_w]
    rfl
  refine last_ (i := 10) (N := none) #[T_,T_,T_,T_,T_,T_,T_,T_,T_,T_,T_] rfl rfl (by kernel_rfl) (by decide) (fun K hK => ?_)
  refine skip_ (w1 := ?_) (by rfl) rfl ?_ ?_
  rotate_left
  · go_simp
    rfl
  refine hK.out _ _ ?_
  clear hK K
  refine done_ (by kernel_rfl) ?_
  have HP6 := Aside0.mk (blk_set HP5.out 1 (.slice A5 m5 c5))
  have HG6 := Aside0.mk (blk_far HG5.out (p := ⟨p, 1, none⟩) (by have := HN.out; show g ≠ p; omega) (.slice A5 m5 c5))
  have HX6 := Aside0.mk (blk_far HX5.out (p := ⟨p, 1, none⟩) (by have := HN.out; show gx ≠ p; omega) (.slice A5 m5 c5))
  have HM6 := Aside0.mk (((HM2.out.below (below_drew (Below.refl _ _))).kept HGr.out (fun e => (HR2.out.1 mb e.symm).2 rfl)).setCell (by have := HL2n.out; exact this) (a := ⟨p, 1, none⟩) (.slice A5 m5 c5))
  have HR6 := Aside0.mk (Kd.R_far HR5.out (p := ⟨p, 1, none⟩) (fun j hj => hj.1) (.slice A5 m5 c5))
  have HB6 := Aside0.mk (((HB2.out.below (below_drew (Below.refl _ _))).grown HGr.out (fun j e => by
    rcases Nat.lt_or_ge j (g + 2) with hj | hj
    · exact absurd e.symm (HOB.out j hj)
    · have := HW1.out; omega)).setCell 1 (.slice A5 m5 c5))
  have HO6 : Aside0 (∀ j, (Value.slice A5 m5 c5).ownBlock = some j → g + 2 ≤ j) := ⟨fun j e => by
    rcases HAT.out with h | ⟨b, h, h2⟩
    · have h' := (own_len A5 m5 (Q ++ [path]).length c5).trans h
      rw [h'] at e
      rcases Nat.lt_or_ge j (g + 2) with hj | hj
      · exact absurd e.symm (HOB.out j hj)
      · exact hj
    · have h' := (own_len A5 m5 (Q ++ [path]).length c5).trans h
      rw [h'] at e
      have e2 := Option.some.inj e
      have h3 : w2.heap.size ≤ b := h2
      have h4 := HSM.out
      have := HW1.out
      omega⟩
  clear HAT HR5 HGr HP5 HG5 HX5 qf5 HP2 HG2 HX2 HM2 HR2 hHeld
  generalize w5.setCell ⟨p, 1, none⟩ (.slice A5 m5 c5) = w6 at HP6 HG6 HX6 HM6 HR6 HB6 ⊢
  obtain ⟨w7, hrun, hM7, ht⟩ := (HM6.out.below (below_drew (Below.refl _ w6))).store ⟨path, ino, size, sec, nano, sum⟩ (by have := HXs.out; unfold maxLen; dsimp only; omega) (by have := HS.out; unfold maxLen; omega) HNO.out
  have HRun := Aside0.mk hrun
  have HM7 := Aside0.mk hM7
  have HT := Aside0.mk ht
  clear hrun hM7 ht
  go_wp2_with fail
  refine start_ (n := 7) (S := fun w' => w'.cell? ⟨p, 2, none⟩ = some (.map (some mb)) ∧ w'.cell? ⟨g, 0, none⟩ = some (.string path) ∧ w'.cell? ⟨gx, 0, none⟩ = some (.string path) ∧ w'.cell? ⟨gx, 1, none⟩ = some (.int .i64 ino) ∧ w'.cell? ⟨gx, 2, none⟩ = some (.int .i64 size) ∧ w'.cell? ⟨gx, 3, none⟩ = some (.int .i64 sec) ∧ w'.cell? ⟨gx, 4, none⟩ = some (.int .i64 nano) ∧ w'.cell? ⟨gx, 5, none⟩ = some (.string sum)) (ds := [6]) #[F_,F_,F_,F_,F_,F_,F_] (by kernel_rfl) rfl rfl ⟨(rw_cells HP6.out).2.2, (clo_cell HG6.out), (ln_cells (x := ⟨path, ino, size, sec, nano, sum⟩) HX6.out).1, (ln_cells (x := ⟨path, ino, size, sec, nano, sum⟩) HX6.out).2.1, (ln_cells (x := ⟨path, ino, size, sec, nano, sum⟩) HX6.out).2.2.1, (ln_cells (x := ⟨path, ino, size, sec, nano, sum⟩) HX6.out).2.2.2.1, (ln_cells (x := ⟨path, ino, size, sec, nano, sum⟩) HX6.out).2.2.2.2.1, (ln_cells (x := ⟨path, ino, size, sec, nano, sum⟩) HX6.out).2.2.2.2.2⟩ (fun hHeld => ?_)
  refine pure_ (i := 0) (N := some 19) (v := ?_) (a' := ?_) #[T_,F_,F_,F_,F_,F_,F_] rfl rfl (by kernel_rfl) (fun _ _ _ h => h) (Or.inl ⟨by rfl, ?_⟩) ?_ ?_
  rotate_left
  · intro w'
    go_simp
    with_reducible rfl
  rotate_left
  · simp only [Act.put, List.setIfInBounds_toArray, List.set_cons_zero, List.set_cons_succ, i64_w, i32_w]
    rfl
  refine pure_ (i := 1) (N := some 20) (v := ?_) (a' := ?_) #[T_,T_,F_,F_,F_,F_,F_] rfl rfl (by kernel_rfl) (fun _ _ _ h => h) (Or.inl ⟨by rfl, ?_⟩) ?_ ?_
  rotate_left
  · intro w'
    go_simp
    with_reducible rfl
  rotate_left
  · simp only [Act.put, List.setIfInBounds_toArray, List.set_cons_zero, List.set_cons_succ, i64_w, i32_w]
    rfl
  refine pure_ (i := 2) (N := some 21) (v := ?_) (a' := ?_) #[T_,T_,T_,F_,F_,F_,F_] rfl rfl (by kernel_rfl) (fun _ _ _ h => h) (Or.inl ⟨by rfl, ?_⟩) ?_ ?_
  rotate_left
  · intro w'
    go_simp
    with_reducible rfl
  rotate_left
  · simp only [Act.put, List.setIfInBounds_toArray, List.set_cons_zero, List.set_cons_succ, i64_w, i32_w]
    rfl
  refine take_ (i := 3) (N := some 22) (v := ?_) (a' := ?_) #[T_,T_,T_,T_,F_,F_,F_] rfl rfl (by kernel_rfl) (fun _ _ _ h => h) (Or.inl ⟨by rfl, ?_⟩) hHeld ?_ ?_
  rotate_left
  · rintro w' ⟨s0, s1, s2, s3, s4, s5, s6, s7⟩
    go_simp
    with_reducible rfl
  rotate_left
  · simp only [Act.put, List.setIfInBounds_toArray, List.set_cons_zero, List.set_cons_succ, i64_w, i32_w]
    rfl
  refine take_ (i := 4) (N := some 23) (v := ?_) (a' := ?_) #[T_,T_,T_,T_,T_,F_,F_] rfl rfl (by kernel_rfl) (fun _ _ _ h => h) (Or.inl ⟨by rfl, ?_⟩) hHeld ?_ ?_
  rotate_left
  · rintro w' ⟨s0, s1, s2, s3, s4, s5, s6, s7⟩
    go_simp
    with_reducible rfl
  rotate_left
  · simp only [Act.put, List.setIfInBounds_toArray, List.set_cons_zero, List.set_cons_succ, i64_w, i32_w]
    rfl
  refine take_ (i := 5) (N := some 24) (v := ?_) (a' := ?_) #[T_,T_,T_,T_,T_,T_,F_] rfl rfl (by kernel_rfl) (fun _ _ _ h => h) (Or.inl ⟨by rfl, ?_⟩) hHeld ?_ ?_
  rotate_left
  · rintro w' ⟨s0, s1, s2, s3, s4, s5, s6, s7⟩
    go_simp
    with_reducible rfl
  rotate_left
  · simp only [Act.put, List.setIfInBounds_toArray, List.set_cons_zero, List.set_cons_succ, i64_w, i32_w]
    rfl
  refine last_ (i := 6) (N := none) #[T_,T_,T_,T_,T_,T_,T_] rfl rfl (by kernel_rfl) (by decide) (fun K hK => ?_)
  refine skip_ (w1 := w7) (by rfl) rfl (mupd_step rfl rfl rfl rfl HRun.out) ?_
  refine hK.out _ _ ?_
  clear hK K
  refine done_ (by kernel_rfl) ?_
  go_wp2
  refine bodyPost_end (results_none rfl _ _ _) rfl ?_
  have hpm : some p ≠ some mb := fun e => by have := Option.some.inj e; exact HL2n.out this.symm
  have hlen : (lastS ⟨path, ino, size, sec, nano, sum⟩ S).length ≤ 1000000 := by
    have := List.length_filter_le (fun x : Ln => !eqP path x.path) S
    have := HS.out
    unfold lastS outS
    simp only [List.length_append, List.length_cons, List.length_nil]
    omega
  refine ⟨rfl, .slice A5 m5 c5, ⟨(HT.out.grown.block p (blk_lt (w := w6.drew) HP6.out) hpm).trans HP6.out, HM7.out, ?_, HNN.out, fun y hy => ?_, HL0.out.hne, HL0.out.hp0, HL0.out.hm0, hlen⟩, ((Bm.refl p mb w).below HB1.out).trans ((HB6.out.below (below_drew (Below.refl _ _))).turned HT.out), fun j hj => by have := HO6.out j hj; have := HN.out; omega⟩
  · rw [HPL.out]
    rw [← HQ.out.1]
    exact Kd.R_grown (Kd.R_drew HR6.out) HT.out.grown (fun j hj => by simpa using hj.2)
  · unfold lastS at hy
    rcases List.mem_append.1 hy with hy | hy
    · exact HZ.out y (List.mem_filter.1 hy).1
    · simp only [List.mem_singleton] at hy
      rw [hy]; exact HXs.out
/-- What stands in a tree. -/
structure St where
  kind : Int
  ino : Int
  size : Int
  links : Int
  mode : Int
  sec : Int
  nano : Int
  uid : Int
  gid : Int
  target : ByteArray
def stC (s : St) : Array Value := #[.int .i64 s.kind, .int .i64 s.ino, .int .i64 s.size, .int .i64 s.links, .int .i64 s.mode, .int .i64 s.sec, .int .i64 s.nano, .int .i64 s.uid, .int .i64 s.gid, .string s.target]
def stV (s : St) : Value := .agg (stC s)
theorem st_cells {w : World} {g : Nat} {s : St} (h : w.heap[g]? = some (.cells (stC s) 37 (0, 0))) :
    w.cell? ⟨g, 0, none⟩ = some (.int .i64 s.kind) ∧ w.cell? ⟨g, 1, none⟩ = some (.int .i64 s.ino) ∧ w.cell? ⟨g, 2, none⟩ = some (.int .i64 s.size) ∧ w.cell? ⟨g, 5, none⟩ = some (.int .i64 s.sec) ∧ w.cell? ⟨g, 6, none⟩ = some (.int .i64 s.nano) := by
  refine ⟨?_, ?_, ?_, ?_, ?_⟩ <;> rw [cell_of_row w g _ _ 37 (0, 0) h] <;> rfl
theorem mm_run33 (w : World) : (Instr.makeMap 53 none).run Tryd.prog w = .ok (.map (some w.heap.size)) (w.alloc (.map #[] 0)) := by
  simp only [Instr.makeMap, Sem.run_bind, Sem.run_pure, Result.andThen_ok, Tryd.underlying53]
  rfl
theorem led_New.at_ (room : Int) (w : World) (h : (decide (room < 1) || decide (room > 4096)) = false) :
    Calls Tryd.prog 7 #[.int .i64 room] w fun e w' => ∃ p mb, e = .returned (.tuple #[.pointer (some ⟨p, 0, none⟩), .int .i64 0]) ∧ Lg w.heap.size p mb 0 room (.slice none 0 0) [] w' ∧ Below w.heap.size w w' := by
  obtain ⟨h1, h2⟩ := Bool.or_eq_false_iff.1 h
  have h2' : decide (4096 < room) = false := h2
  have hmm := mm_run33
  have key : Lg w.heap.size (w.heap.size + 1) w.heap.size 0 room (.slice none 0 0) [] ((w.alloc (.map #[] 0)).alloc (.cells #[.int .i64 room, .slice none 0 0, .map (some w.heap.size)] 57)) :=
    ⟨by have := blk_new (w.alloc (.map #[] 0)) (.cells #[.int .i64 room, .slice none 0 0, .map (some w.heap.size)] 57); simpa using this,
     (MapOk.made w).below (below_alloc (Below.refl _ _) _), Kd.R_nil _ _ _ _ _, by unfold paths; simp, (fun x hx => nomatch hx), by omega, by omega, by omega, by simp⟩
  have HK := Aside0.mk key
  clear h h2 key
  go_enter Tryd.func7, Tryd.ntmps7
  go_wp2
  go_ret2
  exact ⟨w.heap.size + 1, w.heap.size, by rfl, HK.out, below_alloc (below_alloc (Below.refl _ _) _) _⟩
set_option maxHeartbeats 4000000 in
set_option maxRecDepth 20000 in
theorem led_Forget.at_ (b0 p mb n : Nat) (room : Int) (v : Value) (S : List Ln) (top : ByteArray) (w : World) (h : Lg b0 p mb n room v S w) (ht : top.size ≤ 1000000) :
    Calls Tryd.prog 26 #[.pointer (some ⟨p, 0, none⟩), .string top] w fun e w' => e = .returned (.int .i64 ((S.length : Int) - (outS (fun q => underF q top) S).length)) ∧ ∃ v', Lg b0 p mb n room v' (outS (fun q => underF q top) S) w' ∧ Bm p mb w w' ∧ ∀ j, v'.ownBlock = some j → w.heap.size ≤ j := by
  have hmf : ∀ (fn : Fn) (first cap : Array Value) (w : World), (Instr.makeFunc fn first cap).run Tryd.prog w = .ok (.func fn first cap) w := fun _ _ _ _ => rfl
  obtain ⟨w1, hw1⟩ : ∃ w1, w1 = w.alloc (.cells #[.string top] 9) := ⟨_, rfl⟩
  obtain ⟨g, hg⟩ : ∃ g, w.heap.size = g := ⟨_, rfl⟩
  have HG1 : w1.heap[g]? = some (.cells #[.string top] 9 (0, 0)) := by rw [hw1, ← hg]; exact blk_new w _
  have HB1 : Below w.heap.size w w1 := by rw [hw1]; exact below_alloc (Below.refl _ _) _
  have hp := blk_lt h.hP
  have hm := h.hM.lt
  have HO := Aside0.mk (row_out.forget b0 p mb n g top (fun q => underF q top) room v S w1 (h.below HB1) HG1 (by omega) (by omega) (fun w2 s h2 hs => clo_forget g top s w2 h2 hs ht))
  have HB := Aside0.mk HB1
  clear h ht HG1 HB1 hp hm
  go_enter Tryd.func26, Tryd.ntmps26
  go_wp2_with fail
  rw [← hw1]
  clear hw1
  go_wp2_with fail
  refine HO.out.mono ?_
  rintro e w2 ⟨rfl, v', hL, hBm, hO⟩
  have HL := Aside0.mk hL
  have HBm := Aside0.mk hBm
  have HOo := Aside0.mk hO
  clear hL hBm hO HO
  go_wp2
  go_ret
  exact ⟨rfl, v', HL.out, ((Bm.refl p mb w).below HB.out).trans HBm.out, fun j hj => Nat.le_trans HB.out.size (HOo.out j hj)⟩
def mt (s : St) (x : Ln) : Bool := s.kind == 1 && (s.ino == x.ino) && (s.size == x.size) && (s.sec == x.sec) && (s.nano == x.nano)
set_option maxHeartbeats 8000000 in
set_option maxRecDepth 20000 in
theorem led_Ask.at_ (b0 p mb n : Nat) (room : Int) (v : Value) (S : List Ln) (q : ByteArray) (s : St) (w : World) (h : Lg b0 p mb n room v S w) (hq : q.size ≤ 1000000) (hS : S.length < 1000000) (hn : n ≤ 1000000) :
    Calls Tryd.prog 25 #[.pointer (some ⟨p, 0, none⟩), .string q, stV s] w fun e w' =>
      (e = .returned (.tuple #[.string ⟨#[]⟩, .bool false]) ∧ (∀ x ∈ S, x.path = q → mt s x = false) ∧ Lg b0 p mb n room v S w' ∧ Below w.heap.size w w') ∨
      (∃ x ∈ S, x.path = q ∧ mt s x = true ∧ e = .returned (.tuple #[.string x.sum, .bool true]) ∧ ∃ v', Lg b0 p mb (n + 1) room v' (lastS x S) w' ∧ Bm p mb w w' ∧ ∀ j, v'.ownBlock = some j → w.heap.size ≤ j) := by
  obtain ⟨w1, hw1⟩ : ∃ w1, w.alloc (.cells (stC s) 37) = w1 := ⟨_, rfl⟩
  obtain ⟨g, hg⟩ : ∃ g, w.heap.size = g := ⟨_, rfl⟩
  have HG1 : Aside0 (w1.heap[g]? = some (.cells (stC s) 37 (0, 0))) := ⟨by rw [← hw1, ← hg]; exact blk_new w _⟩
  have HB1 : Aside0 (Below g w w1) := ⟨by rw [← hw1, ← hg]; exact below_alloc (Below.refl _ _) _⟩
  have HL1 := Aside0.mk (h.below (by rw [hg]; exact HB1.out))
  have HW1 : Aside0 (w1.heap.size = g + 1) := ⟨by rw [← hw1, ← hg]; simp⟩
  obtain ⟨x, b, hlk, hb, hxy⟩ := HL1.out.hM.look q (by unfold maxLen; omega)
  have HXY := Aside0.mk (And.intro hb hxy)
  have HQ := Aside0.mk hq
  have HS := Aside0.mk (And.intro hS hn)
  have q0 := (rw_cells HL1.out.hP).2.2
  clear h hq hS hn hb hxy
  unfold stV
  unfold lnV at hlk
  obtain ⟨gx, hgx⟩ : ∃ gx, g + 1 = gx := ⟨_, rfl⟩
  have hsz : w1.heap.size = gx := by rw [HW1.out, hgx]
  obtain ⟨w2, hw2⟩ : ∃ w2, w1.alloc (.cells #[.string x.path, .int .i64 x.ino, .int .i64 x.size, .int .i64 x.sec, .int .i64 x.nano, .string x.sum] 68) = w2 := ⟨_, rfl⟩
  have HX2 : Aside0 (w2.heap[gx]? = some (.cells #[.string x.path, .int .i64 x.ino, .int .i64 x.size, .int .i64 x.sec, .int .i64 x.nano, .string x.sum] 68 (0, 0))) := ⟨by rw [← hw2, ← hsz]; exact blk_new w1 _⟩
  have HB2 : Aside0 (Below gx w1 w2) := ⟨by rw [← hw2, ← hsz]; exact below_alloc (Below.refl _ _) _⟩
  have HL2 := Aside0.mk (HL1.out.below (by rw [hsz]; exact HB2.out))
  have HG2 := Aside0.mk (blk_below HG1.out (by rw [hsz]; exact HB2.out))
  obtain ⟨s0, s1, s2, s5, s6⟩ := st_cells HG2.out
  have HBW : Aside0 (Below w.heap.size w w2) := ⟨ld_step (by rw [hg]; exact HB1.out) (by rw [hsz]; exact HB2.out)⟩
  have HNE : Aside0 (gx ≠ p ∧ gx ≠ mb) := ⟨by have h1 := blk_lt HL1.out.hP; have h2 := HL1.out.hM.lt; exact ⟨by omega, by omega⟩⟩
  obtain ⟨x0, x1, x2, x3, x4, x5⟩ := ln_cells (x := x) HX2.out
  cases hbb : b with
  | false =>
    subst hbb
    go_enter Tryd.func25, Tryd.ntmps25
    go_wp2
    go_ret2
    refine .inl ⟨rfl, fun y hy e => ?_, HL2.out, by first | exact HBW.out | (rw [← hg]; exact HBW.out)⟩
    have := HXY.out.1.2 (by rw [← e]; exact List.mem_map.2 ⟨y, hy, rfl⟩)
    cases this
  | true =>
    subst hbb
    obtain ⟨y, hy, hyq⟩ := List.mem_map.1 (HXY.out.1.1 rfl)
    have hxy := HXY.out.2 y hy hyq
    subst hxy
    subst hyq
    have HXS := Aside0.mk (And.intro hy (And.intro (rfl : x.path = x.path) HXY.out.2))
    clear hy
    by_cases k0 : s.kind = 1
    rotate_left
    · have e0 : (s.kind == 1) = false := beq_eq_false_iff_ne.mpr k0
      have e0' : (s.kind != 1) = true := bne_iff_ne.mpr k0
      have hmt : mt s x = false := by unfold mt; simp [k0]
      have HMT := Aside0.mk hmt
      clear hmt k0
      go_enter Tryd.func25, Tryd.ntmps25
      go_wp2
      go_ret2
      exact .inl ⟨rfl, fun y hy e => by rw [← HXS.out.2.2 y hy e]; exact HMT.out, HL2.out, by first | exact HBW.out | (rw [← hg]; exact HBW.out)⟩
    have e0 : (s.kind == 1) = true := beq_iff_eq.mpr k0
    have e0' : (s.kind != 1) = false := bne_eq_false_iff_eq.mpr k0
    by_cases k1 : s.ino = x.ino
    rotate_left
    · have e1 : (s.ino == x.ino) = false := beq_eq_false_iff_ne.mpr k1
      have e1' : (s.ino != x.ino) = true := bne_iff_ne.mpr k1
      have hmt : mt s x = false := by unfold mt; simp [k1]
      have HMT := Aside0.mk hmt
      clear hmt k1
      go_enter Tryd.func25, Tryd.ntmps25
      go_wp2
      go_ret2
      exact .inl ⟨rfl, fun y hy e => by rw [← HXS.out.2.2 y hy e]; exact HMT.out, HL2.out, by first | exact HBW.out | (rw [← hg]; exact HBW.out)⟩
    have e1 : (s.ino == x.ino) = true := beq_iff_eq.mpr k1
    have e1' : (s.ino != x.ino) = false := bne_eq_false_iff_eq.mpr k1
    by_cases k2 : s.size = x.size
    rotate_left
    · have e2 : (s.size == x.size) = false := beq_eq_false_iff_ne.mpr k2
      have e2' : (s.size != x.size) = true := bne_iff_ne.mpr k2
      have hmt : mt s x = false := by unfold mt; simp [k2]
      have HMT := Aside0.mk hmt
      clear hmt k2
      go_enter Tryd.func25, Tryd.ntmps25
      go_wp2
      go_ret2
      exact .inl ⟨rfl, fun y hy e => by rw [← HXS.out.2.2 y hy e]; exact HMT.out, HL2.out, by first | exact HBW.out | (rw [← hg]; exact HBW.out)⟩
    have e2 : (s.size == x.size) = true := beq_iff_eq.mpr k2
    have e2' : (s.size != x.size) = false := bne_eq_false_iff_eq.mpr k2
    by_cases k3 : s.sec = x.sec
    rotate_left
    · have e3 : (s.sec == x.sec) = false := beq_eq_false_iff_ne.mpr k3
      have e3' : (s.sec != x.sec) = true := bne_iff_ne.mpr k3
      have hmt : mt s x = false := by unfold mt; simp [k3]
      have HMT := Aside0.mk hmt
      clear hmt k3
      go_enter Tryd.func25, Tryd.ntmps25
      go_wp2
      go_ret2
      exact .inl ⟨rfl, fun y hy e => by rw [← HXS.out.2.2 y hy e]; exact HMT.out, HL2.out, by first | exact HBW.out | (rw [← hg]; exact HBW.out)⟩
    have e3 : (s.sec == x.sec) = true := beq_iff_eq.mpr k3
    have e3' : (s.sec != x.sec) = false := bne_eq_false_iff_eq.mpr k3
    by_cases k4 : s.nano = x.nano
    rotate_left
    · have e4 : (s.nano == x.nano) = false := beq_eq_false_iff_ne.mpr k4
      have e4' : (s.nano != x.nano) = true := bne_iff_ne.mpr k4
      have hmt : mt s x = false := by unfold mt; simp [k4]
      have HMT := Aside0.mk hmt
      clear hmt k4
      go_enter Tryd.func25, Tryd.ntmps25
      go_wp2
      go_ret2
      exact .inl ⟨rfl, fun y hy e => by rw [← HXS.out.2.2 y hy e]; exact HMT.out, HL2.out, by first | exact HBW.out | (rw [← hg]; exact HBW.out)⟩
    have e4 : (s.nano == x.nano) = true := beq_iff_eq.mpr k4
    have e4' : (s.nano != x.nano) = false := bne_eq_false_iff_eq.mpr k4
    have hmt : mt s x = true := by unfold mt; simp [k0, k1, k2, k3, k4]
    have HMT := Aside0.mk hmt
    have HLa := Aside0.mk (row_last.at_ b0 p mb n room v S x w2.drew (HL2.out.below (below_drew (Below.refl _ _))) HQ.out HS.out.1 HS.out.2)
    unfold lnV at HLa
    clear hmt k0 k1 k2 k3 k4
    go_enter Tryd.func25, Tryd.ntmps25
    go_wp2_with fail
    refine start_ (n := 6) (S := fun w' => w'.cell? ⟨gx, 0, none⟩ = some (.string x.path) ∧ w'.cell? ⟨gx, 1, none⟩ = some (.int .i64 x.ino) ∧ w'.cell? ⟨gx, 2, none⟩ = some (.int .i64 x.size) ∧ w'.cell? ⟨gx, 3, none⟩ = some (.int .i64 x.sec) ∧ w'.cell? ⟨gx, 4, none⟩ = some (.int .i64 x.nano) ∧ w'.cell? ⟨gx, 5, none⟩ = some (.string x.sum)) (ds := []) #[F_,F_,F_,F_,F_,F_] (by kernel_rfl) rfl rfl ⟨(ln_cells HX2.out).1, (ln_cells HX2.out).2.1, (ln_cells HX2.out).2.2.1, (ln_cells HX2.out).2.2.2.1, (ln_cells HX2.out).2.2.2.2.1, (ln_cells HX2.out).2.2.2.2.2⟩ (fun hHeld => ?_)
    refine pure_ (i := 0) (N := some 59) (v := ?_) (a' := ?_) #[T_,F_,F_,F_,F_,F_] rfl rfl (by kernel_rfl) (fun _ _ _ h => h) (Or.inl ⟨by rfl, ?_⟩) ?_ ?_
    rotate_left
    · intro w'
      go_simp
      with_reducible rfl
    rotate_left
    · simp only [Act.put, List.setIfInBounds_toArray, List.set_cons_zero, List.set_cons_succ, i64_w, i32_w]
      rfl
    refine pure_ (i := 1) (N := some 60) (v := ?_) (a' := ?_) #[T_,T_,F_,F_,F_,F_] rfl rfl (by kernel_rfl) (fun _ _ _ h => h) (Or.inl ⟨by rfl, ?_⟩) ?_ ?_
    rotate_left
    · intro w'
      go_simp
      with_reducible rfl
    rotate_left
    · simp only [Act.put, List.setIfInBounds_toArray, List.set_cons_zero, List.set_cons_succ, i64_w, i32_w]
      rfl
    refine pure_ (i := 2) (N := some 61) (v := ?_) (a' := ?_) #[T_,T_,T_,F_,F_,F_] rfl rfl (by kernel_rfl) (fun _ _ _ h => h) (Or.inl ⟨by rfl, ?_⟩) ?_ ?_
    rotate_left
    · intro w'
      go_simp
      with_reducible rfl
    rotate_left
    · simp only [Act.put, List.setIfInBounds_toArray, List.set_cons_zero, List.set_cons_succ, i64_w, i32_w]
      rfl
    refine pure_ (i := 3) (N := some 62) (v := ?_) (a' := ?_) #[T_,T_,T_,T_,F_,F_] rfl rfl (by kernel_rfl) (fun _ _ _ h => h) (Or.inl ⟨by rfl, ?_⟩) ?_ ?_
    rotate_left
    · intro w'
      go_simp
      with_reducible rfl
    rotate_left
    · simp only [Act.put, List.setIfInBounds_toArray, List.set_cons_zero, List.set_cons_succ, i64_w, i32_w]
      rfl
    refine take_ (i := 4) (N := some 63) (v := ?_) (a' := ?_) #[T_,T_,T_,T_,T_,F_] rfl rfl (by kernel_rfl) (fun _ _ _ h => h) (Or.inl ⟨by rfl, ?_⟩) hHeld ?_ ?_
    rotate_left
    · rintro w' ⟨s0, s1, s2, s3, s4, s5⟩
      go_simp
      with_reducible rfl
    rotate_left
    · simp only [Act.put, List.setIfInBounds_toArray, List.set_cons_zero, List.set_cons_succ, i64_w, i32_w]
      rfl
    refine one_ (i := 5) (N := some 64) #[T_,T_,T_,T_,T_,T_] rfl rfl (by kernel_rfl) (by decide) (fun K hK => ?_)
    refine goes_ Tryd.func42 (by kernel_rfl) rfl #[.pointer (some ⟨p, 1, none⟩), .string x.path, .agg #[.string x.path, .int .i64 x.ino, .int .i64 x.size, .int .i64 x.sec, .int .i64 x.nano, .string x.sum]] (by rfl) rfl rfl (by simp only [List.map_toArray, List.map_cons, List.map_nil]; rfl) ?_
    with_reducible refine (HLa.out).mono ?_
    rintro e w3 ⟨rfl, v3, hL3, hB3, hO3⟩
    refine ⟨_, rfl, ?_⟩
    have HL3 := Aside0.mk hL3
    have HB3 := Aside0.mk hB3
    have HO3 := Aside0.mk hO3
    have HX3 := Aside0.mk (hB3.blk (w := w2.drew) HX2.out HNE.out.1 HNE.out.2)
    clear hL3 hB3 hO3
    refine hK.out _ _ ⟨(ln_cells HX3.out).1, (ln_cells HX3.out).2.1, (ln_cells HX3.out).2.2.1, (ln_cells HX3.out).2.2.2.1, (ln_cells HX3.out).2.2.2.2.1, (ln_cells HX3.out).2.2.2.2.2⟩ (fun hHeld => ?_)
    clear hK K
    refine norm_ (a' := ?_) ?_ ?_
    rotate_left
    · show Act.put _ (some 64) _ = _
      simp only [Act.put, List.setIfInBounds_toArray, List.set_cons_zero, List.set_cons_succ, i64_w, i32_w]
      rfl
    refine done_ (by kernel_rfl) ?_
    have x5' := (ln_cells HX3.out).2.2.2.2.2
    clear hHeld s0 s1 s2 s5 s6 x0 x1 x2 x3 x4 x5
    go_wp2
    go_ret2
    exact .inr ⟨x, HXS.out.1, rfl, HMT.out, rfl, v3, HL3.out, (((Bm.refl p mb w).below HBW.out).below (below_drew (Below.refl _ _))).trans HB3.out, fun j hj => by have h1 := HO3.out j hj; have h2 : w2.heap.size ≤ j := h1; have := HBW.out.size; omega⟩
/-! ### ledger_Ledger_Tell: function 23, a contract of my own -/
def tellX (q : ByteArray) (s : St) (sm : ByteArray) : Ln := ⟨q, s.ino, s.size, s.sec, s.nano, sm⟩
def tellE (q : ByteArray) (s : St) (sm : ByteArray) : Int := if mayF (tellX q s sm) = 9 then 9 else if s.kind = 1 then mayF (tellX q s sm) else 17
def capS (room : Int) (S : List Ln) : List Ln := if (S.length : Int) > room then S.tail else S
theorem outS_head (y : Ln) (S : List Ln) (h : (paths (y :: S)).Nodup) : outS (eqP y.path) (y :: S) = S := by
  unfold outS
  rw [List.filter_cons, if_neg (by simp [(eqP_iff y.path y.path).2 rfl]), List.filter_eq_self]
  intro z hz
  have hne : z.path ≠ y.path := fun e => (List.nodup_cons.1 h).1 (by rw [← e]; exact List.mem_map.2 ⟨z, hz, rfl⟩)
  cases hz2 : eqP y.path z.path with
  | true => exact absurd ((eqP_iff _ _).1 hz2) hne
  | false => rfl
theorem Lg.mono {b0 p mb n n' : Nat} {room : Int} {v : Value} {S : List Ln} {w : World} (h : Lg b0 p mb n room v S w) (hn : n ≤ n') : Lg b0 p mb n' room v S w := by
  obtain ⟨D, hown, h2⟩ := h.hM
  exact ⟨h.hP, ⟨D, hown.mono hn, h2⟩, h.hR, h.hN, h.hz, h.hne, h.hp0, h.hm0, h.hl⟩
set_option maxHeartbeats 8000000 in
set_option maxRecDepth 20000 in
theorem led_Tell.at_ (b0 p mb n : Nat) (room : Int) (v : Value) (S : List Ln) (q : ByteArray) (s : St) (sm : ByteArray) (w : World) (h : Lg b0 p mb n room v S w) (hq : q.size ≤ 1000000) (hS : S.length < 1000000) (hn : n ≤ 1000000) :
    Calls Tryd.prog 23 #[.pointer (some ⟨p, 0, none⟩), .string q, stV s, .string sm] w fun e w' => e = .returned (.int .i64 (tellE q s sm)) ∧
      ((tellE q s sm ≠ 0 ∧ Lg b0 p mb n room v S w' ∧ Below w.heap.size w w') ∨
       (tellE q s sm = 0 ∧ ∃ v', Lg b0 p mb (n + 1) room v' (capS room (lastS (tellX q s sm) S)) w' ∧ Bm p mb w w' ∧ ∀ j, v'.ownBlock = some j → w.heap.size ≤ j)) := by
  have hmf : ∀ (fn : Fn) (first cap : Array Value) (w : World), (Instr.makeFunc fn first cap).run Tryd.prog w = .ok (.func fn first cap) w := fun _ _ _ _ => rfl
  obtain ⟨w1, hw1⟩ : ∃ w1, w.alloc (.cells (stC s) 37) = w1 := ⟨_, rfl⟩
  obtain ⟨g, hg⟩ : ∃ g, w.heap.size = g := ⟨_, rfl⟩
  have HG1 : Aside0 (w1.heap[g]? = some (.cells (stC s) 37 (0, 0))) := ⟨by rw [← hw1, ← hg]; exact blk_new w _⟩
  have HB1 : Aside0 (Below g w w1) := ⟨by rw [← hw1, ← hg]; exact below_alloc (Below.refl _ _) _⟩
  have HL1 := Aside0.mk (h.below (by rw [hg]; exact HB1.out))
  have HW1 : Aside0 (w1.heap.size = g + 1) := ⟨by rw [← hw1, ← hg]; simp⟩
  have HQ := Aside0.mk hq
  have HS := Aside0.mk (And.intro hS hn)
  have HH := Aside0.mk h
  obtain ⟨gx, hgx⟩ : ∃ gx, g + 1 = gx := ⟨_, rfl⟩
  have hsz : w1.heap.size = gx := by rw [HW1.out, hgx]
  obtain ⟨w2, hw2⟩ : ∃ w2, w1.alloc (.cells #[.string q, .int .i64 s.ino, .int .i64 s.size, .int .i64 s.sec, .int .i64 s.nano, .string sm] 68) = w2 := ⟨_, rfl⟩
  have HX2 : Aside0 (w2.heap[gx]? = some (.cells #[.string q, .int .i64 s.ino, .int .i64 s.size, .int .i64 s.sec, .int .i64 s.nano, .string sm] 68 (0, 0))) := ⟨by rw [← hw2, ← hsz]; exact blk_new w1 _⟩
  have HB2 : Aside0 (Below gx w1 w2) := ⟨by rw [← hw2, ← hsz]; exact below_alloc (Below.refl _ _) _⟩
  have HBW : Aside0 (Below w.heap.size w w2) := ⟨ld_step (by rw [hg]; exact HB1.out) (by rw [hsz]; exact HB2.out)⟩
  have HNE : Aside0 (gx ≠ p ∧ gx ≠ mb ∧ g ≠ p ∧ g ≠ mb) := ⟨by have h1 := blk_lt h.hP; have h2 := h.hM.lt; exact ⟨by omega, by omega, by omega, by omega⟩⟩
  have HG2 := Aside0.mk (blk_below HG1.out (by rw [hsz]; exact HB2.out))
  obtain ⟨s0, s1, s2, s5, s6⟩ := st_cells HG1.out
  obtain ⟨x0, x1, x2, x3, x4, x5⟩ := ln_cells (x := (⟨q, s.ino, s.size, s.sec, s.nano, sm⟩ : Ln)) HX2.out
  dsimp only at x0 x1 x2 x3 x4 x5
  have HMay := Aside0.mk (line_may.at_ (tellX q s sm) hq w2)
  unfold lnV at HMay
  have HE : Aside0 (mayF (tellX q s sm) = 9 ∨ mayF (tellX q s sm) = 2 ∨ mayF (tellX q s sm) = 0) := ⟨by unfold mayF; split; exact .inl rfl; split; exact .inr (.inl rfl); exact .inr (.inr rfl)⟩
  obtain ⟨r, hr⟩ : ∃ r, tellE q s sm = r := ⟨_, rfl⟩
  rw [hr]
  unfold tellE at hr
  have HRr := Aside0.mk hr
  unfold tellX at HMay HE HRr ⊢
  dsimp only at HMay
  unfold stV
  clear h hq hS hn hr
  go_enter Tryd.func23, Tryd.ntmps23
  go_wp2_with fail
  refine HMay.out.mono ?_
  rintro e w3 ⟨rfl, hb⟩
  have HB3 := Aside0.mk (ld_step HBW.out hb)
  have HL3 := Aside0.mk (HH.out.below HB3.out)
  have HX3 := Aside0.mk (blk_below HX2.out hb)
  have HG3 := Aside0.mk (blk_below HG2.out hb)
  clear hb s0 s1 s2 s5 s6 x0 x1 x2 x3 x4 x5 HMay
  obtain ⟨s0, s1, s2, s5, s6⟩ := st_cells HG3.out
  have HRR := HRr.out
  generalize mayF (⟨q, s.ino, s.size, s.sec, s.nano, sm⟩ : Ln) = f at HE HRR ⊢
  have quit : ∀ z : Int, z = r → z ≠ 0 → (Ending.returned (.int .i64 z) = Ending.returned (.int .i64 r) ∧ ((r ≠ 0 ∧ Lg b0 p mb n room v S w3 ∧ Below w.heap.size w w3) ∨ (r = 0 ∧ ∃ v', Lg b0 p mb (n + 1) room v' (capS room (lastS (⟨q, s.ino, s.size, s.sec, s.nano, sm⟩ : Ln) S)) w3 ∧ Bm p mb w w3 ∧ ∀ j, v'.ownBlock = some j → w.heap.size ≤ j))) := fun z hz h0 => ⟨by rw [hz], .inl ⟨by rw [← hz]; exact h0, HL3.out, HB3.out⟩⟩
  rcases HE.out with rfl | rfl | rfl
  · have HQ9 := Aside0.mk (quit 9 (by simpa using HRR) (by decide))
    clear HRR
    go_wp2
    go_ret
    have q9 := HQ9.out
    rw [hg] at q9
    first | exact q9 | (rw [hg]; exact q9) | exact HQ9.out
  · by_cases k0 : s.kind = 1
    · have e0 : (s.kind == 1) = true := beq_iff_eq.mpr k0
      have e0' : (s.kind != 1) = false := bne_eq_false_iff_eq.mpr k0
      have HQ9 := Aside0.mk (quit 2 (by simpa [k0] using HRR) (by decide))
      clear k0 HRR
      go_wp2
      go_ret
      have q9 := HQ9.out
      rw [hg] at q9
      first | exact q9 | (rw [hg]; exact q9) | exact HQ9.out
    · have e0 : (s.kind == 1) = false := beq_eq_false_iff_ne.mpr k0
      have e0' : (s.kind != 1) = true := bne_iff_ne.mpr k0
      have HQ9 := Aside0.mk (quit 17 (by simpa [k0] using HRR) (by decide))
      clear k0 HRR
      go_wp2
      go_ret
      have q9 := HQ9.out
      rw [hg] at q9
      first | exact q9 | (rw [hg]; exact q9) | exact HQ9.out
  · by_cases k0 : s.kind = 1
    rotate_left
    · have e0 : (s.kind == 1) = false := beq_eq_false_iff_ne.mpr k0
      have e0' : (s.kind != 1) = true := bne_iff_ne.mpr k0
      have HQ9 := Aside0.mk (quit 17 (by simpa [k0] using HRR) (by decide))
      clear k0 HRR
      go_wp2
      go_ret
      have q9 := HQ9.out
      rw [hg] at q9
      first | exact q9 | (rw [hg]; exact q9) | exact HQ9.out
    have e0 : (s.kind == 1) = true := beq_iff_eq.mpr k0
    have e0' : (s.kind != 1) = false := bne_eq_false_iff_eq.mpr k0
    have hr0 : 0 = r := by simpa [k0] using HRR
    have HLa := Aside0.mk (row_last.at_ b0 p mb n room v S (⟨q, s.ino, s.size, s.sec, s.nano, sm⟩ : Ln) w3.drew (HL3.out.below (below_drew (Below.refl _ _))) HQ.out HS.out.1 HS.out.2)
    unfold lnV at HLa
    have HR0 := Aside0.mk hr0
    clear k0 quit HRR hr0
    go_wp2_with fail
    refine start_ (n := 6) (S := fun w' => w'.cell? ⟨gx, 0, none⟩ = some (.string q) ∧ w'.cell? ⟨gx, 1, none⟩ = some (.int .i64 s.ino) ∧ w'.cell? ⟨gx, 2, none⟩ = some (.int .i64 s.size) ∧ w'.cell? ⟨gx, 3, none⟩ = some (.int .i64 s.sec) ∧ w'.cell? ⟨gx, 4, none⟩ = some (.int .i64 s.nano) ∧ w'.cell? ⟨gx, 5, none⟩ = some (.string sm)) (ds := []) #[F_,F_,F_,F_,F_,F_] (by kernel_rfl) rfl rfl ⟨(ln_cells (x := (⟨q, s.ino, s.size, s.sec, s.nano, sm⟩ : Ln)) HX3.out).1, (ln_cells (x := (⟨q, s.ino, s.size, s.sec, s.nano, sm⟩ : Ln)) HX3.out).2.1, (ln_cells (x := (⟨q, s.ino, s.size, s.sec, s.nano, sm⟩ : Ln)) HX3.out).2.2.1, (ln_cells (x := (⟨q, s.ino, s.size, s.sec, s.nano, sm⟩ : Ln)) HX3.out).2.2.2.1, (ln_cells (x := (⟨q, s.ino, s.size, s.sec, s.nano, sm⟩ : Ln)) HX3.out).2.2.2.2.1, (ln_cells (x := (⟨q, s.ino, s.size, s.sec, s.nano, sm⟩ : Ln)) HX3.out).2.2.2.2.2⟩ (fun hHeld => ?_)
    refine pure_ (i := 0) (N := some 38) (v := ?_) (a' := ?_) #[T_,F_,F_,F_,F_,F_] rfl rfl (by kernel_rfl) (fun _ _ _ h => h) (Or.inl ⟨by rfl, ?_⟩) ?_ ?_
    rotate_left
    · intro w'
      go_simp
      with_reducible rfl
    rotate_left
    · simp only [Act.put, List.setIfInBounds_toArray, List.set_cons_zero, List.set_cons_succ, i64_w, i32_w]
      rfl
    refine pure_ (i := 1) (N := some 39) (v := ?_) (a' := ?_) #[T_,T_,F_,F_,F_,F_] rfl rfl (by kernel_rfl) (fun _ _ _ h => h) (Or.inl ⟨by rfl, ?_⟩) ?_ ?_
    rotate_left
    · intro w'
      go_simp
      with_reducible rfl
    rotate_left
    · simp only [Act.put, List.setIfInBounds_toArray, List.set_cons_zero, List.set_cons_succ, i64_w, i32_w]
      rfl
    refine pure_ (i := 2) (N := some 40) (v := ?_) (a' := ?_) #[T_,T_,T_,F_,F_,F_] rfl rfl (by kernel_rfl) (fun _ _ _ h => h) (Or.inl ⟨by rfl, ?_⟩) ?_ ?_
    rotate_left
    · intro w'
      go_simp
      with_reducible rfl
    rotate_left
    · simp only [Act.put, List.setIfInBounds_toArray, List.set_cons_zero, List.set_cons_succ, i64_w, i32_w]
      rfl
    refine pure_ (i := 3) (N := some 41) (v := ?_) (a' := ?_) #[T_,T_,T_,T_,F_,F_] rfl rfl (by kernel_rfl) (fun _ _ _ h => h) (Or.inl ⟨by rfl, ?_⟩) ?_ ?_
    rotate_left
    · intro w'
      go_simp
      with_reducible rfl
    rotate_left
    · simp only [Act.put, List.setIfInBounds_toArray, List.set_cons_zero, List.set_cons_succ, i64_w, i32_w]
      rfl
    refine take_ (i := 4) (N := some 42) (v := ?_) (a' := ?_) #[T_,T_,T_,T_,T_,F_] rfl rfl (by kernel_rfl) (fun _ _ _ h => h) (Or.inl ⟨by rfl, ?_⟩) hHeld ?_ ?_
    rotate_left
    · rintro w' ⟨s0, s1, s2, s3, s4, s5⟩
      go_simp
      with_reducible rfl
    rotate_left
    · simp only [Act.put, List.setIfInBounds_toArray, List.set_cons_zero, List.set_cons_succ, i64_w, i32_w]
      rfl
    refine one_ (i := 5) (N := some 43) #[T_,T_,T_,T_,T_,T_] rfl rfl (by kernel_rfl) (by decide) (fun K hK => ?_)
    refine goes_ Tryd.func42 (by kernel_rfl) rfl #[.pointer (some ⟨p, 1, none⟩), .string q, .agg #[.string q, .int .i64 s.ino, .int .i64 s.size, .int .i64 s.sec, .int .i64 s.nano, .string sm]] (by rfl) rfl rfl (by simp only [List.map_toArray, List.map_cons, List.map_nil]; rfl) ?_
    with_reducible refine (HLa.out).mono ?_
    rintro e w4 ⟨rfl, v4, hL4, hB4, hO4⟩
    refine ⟨_, rfl, ?_⟩
    have HL4 := Aside0.mk hL4
    have HB4 := Aside0.mk hB4
    have HO4 := Aside0.mk hO4
    have HX4 := Aside0.mk (hB4.blk (w := w3.drew) HX3.out HNE.out.1 HNE.out.2.1)
    clear hL4 hB4 hO4
    refine hK.out _ _ ⟨(ln_cells (x := (⟨q, s.ino, s.size, s.sec, s.nano, sm⟩ : Ln)) HX4.out).1, (ln_cells (x := (⟨q, s.ino, s.size, s.sec, s.nano, sm⟩ : Ln)) HX4.out).2.1, (ln_cells (x := (⟨q, s.ino, s.size, s.sec, s.nano, sm⟩ : Ln)) HX4.out).2.2.1, (ln_cells (x := (⟨q, s.ino, s.size, s.sec, s.nano, sm⟩ : Ln)) HX4.out).2.2.2.1, (ln_cells (x := (⟨q, s.ino, s.size, s.sec, s.nano, sm⟩ : Ln)) HX4.out).2.2.2.2.1, (ln_cells (x := (⟨q, s.ino, s.size, s.sec, s.nano, sm⟩ : Ln)) HX4.out).2.2.2.2.2⟩ (fun hHeld => ?_)
    clear hK K
    refine norm_ (a' := ?_) ?_ ?_
    rotate_left
    · show Act.put _ (some 43) _ = _
      simp only [Act.put, List.setIfInBounds_toArray, List.set_cons_zero, List.set_cons_succ, i64_w, i32_w]
      rfl
    refine done_ (by kernel_rfl) ?_
    clear hHeld s0 s1 s2 s5 s6 HLa
    generalize hS1 : lastS (⟨q, s.ino, s.size, s.sec, s.nano, sm⟩ : Ln) S = S1 at HL4
    have HBW4 := Aside0.mk ((((Bm.refl p mb w).below HB3.out).below (below_drew (Below.refl _ _))).trans HB4.out)
    have HO4' : Aside0 (∀ j, v4.ownBlock = some j → w.heap.size ≤ j) := ⟨fun j hj => by have h1 := HO4.out j hj; have h2 : w3.heap.size ≤ j := h1; have := HB3.out.size; omega⟩
    obtain ⟨A, c, rfl, hc, hC⟩ := Kd.R_reads HL4.out.hR
    obtain ⟨m, hm⟩ : ∃ m, m = (paths S1).length := ⟨_, rfl⟩
    have hmS : m = S1.length := by rw [hm]; unfold paths; rw [List.length_map]
    have HC4 := Aside0.mk hC
    have HM := Aside0.mk (And.intro hm hmS)
    have HP4 := Aside0.mk HL4.out.hP
    rw [← hm] at HP4
    clear hC hc hm hmS
    go_wp2_with fail
    refine start_ (n := 11) (S := fun w' => w'.cell? ⟨p, 0, none⟩ = some (.int .i64 room) ∧ w'.cell? ⟨p, 1, none⟩ = some (.slice A m c)) (ds := []) #[F_,F_,F_,F_,F_,F_,F_,F_,F_,F_,F_] (by kernel_rfl) rfl rfl ⟨(rw_cells HP4.out).1, (rw_cells HP4.out).2.1⟩ (fun hHeld => ?_)
    refine pure_ (i := 0) (N := some 44) (v := ?_) (a' := ?_) #[T_,F_,F_,F_,F_,F_,F_,F_,F_,F_,F_] rfl rfl (by kernel_rfl) (fun _ _ _ h => h) (Or.inl ⟨by rfl, ?_⟩) ?_ ?_
    rotate_left
    · intro w'
      go_simp
      with_reducible rfl
    rotate_left
    · simp only [Act.put, List.setIfInBounds_toArray, List.set_cons_zero, List.set_cons_succ, i64_w, i32_w]
      rfl
    refine pure_ (i := 1) (N := some 45) (v := ?_) (a' := ?_) #[T_,T_,F_,F_,F_,F_,F_,F_,F_,F_,F_] rfl rfl (by kernel_rfl) (fun _ _ _ h => h) (Or.inl ⟨by rfl, ?_⟩) ?_ ?_
    rotate_left
    · intro w'
      go_simp
      with_reducible rfl
    rotate_left
    · simp only [Act.put, List.setIfInBounds_toArray, List.set_cons_zero, List.set_cons_succ, i64_w, i32_w]
      rfl
    refine pure_ (i := 2) (N := some 46) (v := ?_) (a' := ?_) #[T_,T_,T_,F_,F_,F_,F_,F_,F_,F_,F_] rfl rfl (by kernel_rfl) (fun _ _ _ h => h) (Or.inl ⟨by rfl, ?_⟩) ?_ ?_
    rotate_left
    · intro w'
      go_simp
      with_reducible rfl
    rotate_left
    · simp only [Act.put, List.setIfInBounds_toArray, List.set_cons_zero, List.set_cons_succ, i64_w, i32_w]
      rfl
    refine pure_ (i := 3) (N := some 47) (v := ?_) (a' := ?_) #[T_,T_,T_,T_,F_,F_,F_,F_,F_,F_,F_] rfl rfl (by kernel_rfl) (fun _ _ _ h => h) (Or.inl ⟨by rfl, ?_⟩) ?_ ?_
    rotate_left
    · intro w'
      go_simp
      with_reducible rfl
    rotate_left
    · simp only [Act.put, List.setIfInBounds_toArray, List.set_cons_zero, List.set_cons_succ, i64_w, i32_w]
      rfl
    refine pure_ (i := 6) (N := some 50) (v := ?_) (a' := ?_) #[T_,T_,T_,T_,F_,F_,T_,F_,F_,F_,F_] rfl rfl (by kernel_rfl) (fun _ _ _ h => h) (Or.inl ⟨by rfl, ?_⟩) ?_ ?_
    rotate_left
    · intro w'
      go_simp
      with_reducible rfl
    rotate_left
    · simp only [Act.put, List.setIfInBounds_toArray, List.set_cons_zero, List.set_cons_succ, i64_w, i32_w]
      rfl
    refine pure_ (i := 7) (N := some 51) (v := ?_) (a' := ?_) #[T_,T_,T_,T_,F_,F_,T_,T_,F_,F_,F_] rfl rfl (by kernel_rfl) (fun _ _ _ h => h) (Or.inl ⟨by rfl, ?_⟩) ?_ ?_
    rotate_left
    · intro w'
      go_simp
      with_reducible rfl
    rotate_left
    · simp only [Act.put, List.setIfInBounds_toArray, List.set_cons_zero, List.set_cons_succ, i64_w, i32_w]
      rfl
    refine pure_ (i := 8) (N := some 52) (v := ?_) (a' := ?_) #[T_,T_,T_,T_,F_,F_,T_,T_,T_,F_,F_] rfl rfl (by kernel_rfl) (fun _ _ _ h => h) (Or.inl ⟨by rfl, ?_⟩) ?_ ?_
    rotate_left
    · intro w'
      go_simp
      with_reducible rfl
    rotate_left
    · simp only [Act.put, List.setIfInBounds_toArray, List.set_cons_zero, List.set_cons_succ, i64_w, i32_w]
      rfl
    refine take_ (i := 4) (N := some 48) (v := ?_) (a' := ?_) #[T_,T_,T_,T_,T_,F_,T_,T_,T_,F_,F_] rfl rfl (by kernel_rfl) (fun _ _ _ h => h) (Or.inl ⟨by rfl, ?_⟩) hHeld ?_ ?_
    rotate_left
    · rintro w' ⟨s0, s1⟩
      go_simp
      with_reducible rfl
    rotate_left
    · simp only [Act.put, List.setIfInBounds_toArray, List.set_cons_zero, List.set_cons_succ, i64_w, i32_w]
      rfl
    refine pure_ (i := 5) (N := some 49) (v := ?_) (a' := ?_) #[T_,T_,T_,T_,T_,T_,T_,T_,T_,F_,F_] rfl rfl (by kernel_rfl) (fun _ _ _ h => h) (Or.inl ⟨by rfl, ?_⟩) ?_ ?_
    rotate_left
    · intro w'
      go_simp
      with_reducible rfl
    rotate_left
    · simp only [Act.put, List.setIfInBounds_toArray, List.set_cons_zero, List.set_cons_succ, i64_w, i32_w]
      rfl
    refine take_ (i := 9) (N := some 53) (v := ?_) (a' := ?_) #[T_,T_,T_,T_,T_,T_,T_,T_,T_,T_,F_] rfl rfl (by kernel_rfl) (fun _ _ _ h => h) (Or.inl ⟨by rfl, ?_⟩) hHeld ?_ ?_
    rotate_left
    · rintro w' ⟨s0, s1⟩
      go_simp
      with_reducible rfl
    rotate_left
    · simp only [Act.put, List.setIfInBounds_toArray, List.set_cons_zero, List.set_cons_succ, i64_w, i32_w]
      rfl
    refine pure_ (i := 10) (N := some 54) (v := ?_) (a' := ?_) #[T_,T_,T_,T_,T_,T_,T_,T_,T_,T_,T_] rfl rfl (by kernel_rfl) (fun _ _ _ h => h) (Or.inl ⟨by rfl, ?_⟩) ?_ ?_
    rotate_left
    · intro w'
      go_simp
      with_reducible rfl
    rotate_left
    · simp only [Act.put, List.setIfInBounds_toArray, List.set_cons_zero, List.set_cons_succ, i64_w, i32_w]
      rfl
    refine done_ (by kernel_rfl) ?_
    have HL5 := Aside0.mk (HL4.out.below (below_drew (Below.refl _ _)))
    have HBW5 := Aside0.mk (HBW4.out.below (below_drew (Below.refl _ _)))
    have HC5 := Aside0.mk (Kd.C_drew HC4.out)
    have HP5 : Aside0 (w4.drew.heap[p]? = _) := HP4
    clear hHeld HL4 HBW4 HC4 HP4
    generalize w4.drew = w5 at HL5 HBW5 HC5 HP5 ⊢
    have q1 := (rw_cells HP5.out).2.1
    by_cases kc : room < (m : Int)
    rotate_left
    · have ec : decide (room < (m : Int)) = false := decide_eq_false kc
      have KC := Aside0.mk kc
      clear kc
      rw [ec]
      go_wp2
      go_ret
      have hL := HL5.out
      refine ⟨by first | (show Ending.returned (.int .i64 0) = _; rw [HR0.out]; done) | (show Ending.returned (.int .i64 r) = _; rfl), .inr ⟨HR0.out.symm, _, ?_, HBW5.out, by first | exact HO4'.out | (rw [← hg]; exact HO4'.out)⟩⟩
      try rw [hS1]
      unfold capS
      rw [if_neg (by have := KC.out; have := HM.out; omega)]
      exact hL
    have ec : decide (room < (m : Int)) = true := decide_eq_true kc
    have KC := Aside0.mk kc
    cases hcs : S1 with
    | nil =>
      exfalso
      rw [hcs] at hS1
      unfold lastS at hS1
      simp at hS1
    | cons y T =>
    subst hcs
    have hm0 : (0 < m) = True := eq_true (by rw [HM.out.2]; simp)
    have hm0' : ((0 : Int) < (m : Int)) = True := eq_true (by have := of_eq_true hm0; omega)
    obtain ⟨ad, f0, rfl, hf0, hcell⟩ := str_at HC5.out 0 (by have := HM.out.1; have := of_eq_true hm0; omega)
    obtain rfl : y.path = f0 := by simpa [paths] using hf0
    rw [Addr.add_zero'] at hcell
    obtain ⟨gf, hgf⟩ : ∃ gf, w5.heap.size = gf := ⟨_, rfl⟩
    obtain ⟨w6, hw6⟩ : ∃ w6, w5.alloc (.cells #[.string y.path] 9) = w6 := ⟨_, rfl⟩
    have HF6 : w6.heap[gf]? = some (.cells #[.string y.path] 9 (0, 0)) := by rw [← hw6, ← hgf]; exact blk_new w5 _
    have HB6 : Below w5.heap.size w5 w6 := by rw [← hw6]; exact below_alloc (Below.refl _ _) _
    have hp5 := blk_lt HP5.out
    have hm5 := HL5.out.hM.lt
    have HO := Aside0.mk (row_out.tell b0 p mb (n + 1) gf y.path (eqP y.path) room _ (y :: T) w6 (HL5.out.below HB6) HF6 (by omega) (by omega) (fun w2 s h2 _ => clo_tell gf y.path s w2 h2))
    rw [outS_head y T HL5.out.hN] at HO
    have HBW6 := Aside0.mk (HBW5.out.below HB6)
    clear hf0 HF6 HB6 hp5 hm5 kc
    rw [ec]
    go_wp2_with fail
    refine HO.out.mono ?_
    rintro e w7 ⟨rfl, v7, hL7, hB7, hO7⟩
    have HL7 := Aside0.mk hL7
    have HB7 := Aside0.mk (HBW6.out.trans hB7)
    have HO7 : Aside0 (∀ j, v7.ownBlock = some j → w.heap.size ≤ j) := ⟨fun j hj => by have := hO7 j hj; have := HBW6.out.size; omega⟩
    clear hL7 hB7 hO7 HO
    go_wp2
    go_ret
    refine ⟨by first | (show Ending.returned (.int .i64 0) = _; rw [HR0.out]; done) | (show Ending.returned (.int .i64 r) = _; rfl), .inr ⟨HR0.out.symm, v7, ?_, HB7.out, by first | exact HO7.out | (rw [← hg]; exact HO7.out)⟩⟩
    try rw [hS1]
    unfold capS
    rw [if_pos (by have := KC.out; have := HM.out; omega)]
    exact HL7.out
theorem led_Paths.at_ (b0 p mb n : Nat) (room : Int) (v : Value) (S : List Ln) (w : World) (h : Lg b0 p mb n room v S w) :
    Calls Tryd.prog 18 #[.pointer (some ⟨p, 0, none⟩)] w fun e w' => ∃ v', e = .returned v' ∧ Kd.R Kd.string 9 w' w.heap.size (fun _ => True) v' (paths S) ∧ Below w.heap.size w w' := by
  obtain ⟨A, c, rfl, hc, hC⟩ := Kd.R_reads h.hR
  obtain ⟨L, hL⟩ : ∃ L, L = paths S := ⟨_, rfl⟩
  have hlen : L.length ≤ 1000000 := by rw [hL]; unfold paths; rw [List.length_map]; exact h.hl
  have q := (rw_cells h.hP).2.1
  rw [← hL] at q hC hc ⊢
  have HC := Aside0.mk hC
  obtain ⟨m, hm⟩ : ∃ m, m = L.length := ⟨_, rfl⟩
  rw [← hm] at q
  have HM := Aside0.mk hm
  rw [← hm] at HC
  have HL0 : Aside0 ((([] : List ByteArray).length + m) * 16 ≤ 140737488355328) := ⟨by rw [List.length_nil]; omega⟩
  clear h hC hc hL hlen hm
  go_enter Tryd.func18, Tryd.ntmps18
  go_wp2_with (first | ((with_reducible refine gate_builtin (b := .append) (xs := #[.const (.slice none 0 0), .tmp 9]) rfl ?_); at_builtin; refine Kd.R_append_rows Kd.string (w0 := w) w.heap.size rfl (.const (.slice none 0 0)) (.tmp 9) 46 9 (.string ⟨#[]⟩) 16 rfl Tryd.underlying46 ld_info9 rfl (by decide) (by omega) (.slice none 0 0) [] L A m c (fun _ => True) (fun _ => False) rfl rfl (Kd.R_nil _ _ _ _ _) HC.out (fun _ _ h => h) (fun _ h => h.elim) (fun _ _ => trivial) (Below.refl _ _) (Nat.le_refl _) HL0.out ?_; intro v9 w9 ho9 hb9 hg9 ha9; clear ha9))
  go_wp2
  go_ret
  exact ⟨_, rfl, ho9, hb9⟩
/-- A call: 0 Ask, 1 Tell, 2 Forget; any other one: nothing. -/
structure Ac where
  act : Int
  path : ByteArray
  st : St
  sum : ByteArray
def acC (a : Ac) : Array Value := #[.int .i64 a.act, .string a.path, .int .i64 a.st.kind, .int .i64 a.st.ino, .int .i64 a.st.size, .int .i64 a.st.links, .int .i64 a.st.mode, .int .i64 a.st.sec, .int .i64 a.st.nano, .int .i64 a.st.uid, .int .i64 a.st.gid, .string a.st.target, .string a.sum]
def acV (a : Ac) : Value := .agg (acC a)
theorem ld_results4 {fn : Func} {t u v x : Tmp} (h : fn.results = #[.tmp t, .tmp u, .tmp v, .tmp x]) (tmps : Array Value) (P : Program) (w : World) :
    (results fn tmps).run P w = .ok (.tuple #[tmps.getD t undef, tmps.getD u undef, tmps.getD v undef, tmps.getD x undef]) w := by
  simp [results, h]
theorem ac_cells {w : World} {g : Nat} {a : Ac} (h : w.heap[g]? = some (.cells (acC a) 39 (0, 0))) :
    w.cell? ⟨g, 0, none⟩ = some (.int .i64 a.act) ∧ w.cell? ⟨g, 1, none⟩ = some (.string a.path) ∧ w.cell? ⟨g, 2, none⟩ = some (.int .i64 a.st.kind) ∧ w.cell? ⟨g, 3, none⟩ = some (.int .i64 a.st.ino) ∧ w.cell? ⟨g, 4, none⟩ = some (.int .i64 a.st.size) ∧ w.cell? ⟨g, 5, none⟩ = some (.int .i64 a.st.links) ∧ w.cell? ⟨g, 6, none⟩ = some (.int .i64 a.st.mode) ∧ w.cell? ⟨g, 7, none⟩ = some (.int .i64 a.st.sec) ∧ w.cell? ⟨g, 8, none⟩ = some (.int .i64 a.st.nano) ∧ w.cell? ⟨g, 9, none⟩ = some (.int .i64 a.st.uid) ∧ w.cell? ⟨g, 10, none⟩ = some (.int .i64 a.st.gid) ∧ w.cell? ⟨g, 11, none⟩ = some (.string a.st.target) ∧ w.cell? ⟨g, 12, none⟩ = some (.string a.sum) := by
  refine ⟨?_, ?_, ?_, ?_, ?_, ?_, ?_, ?_, ?_, ?_, ?_, ?_, ?_⟩ <;> rw [cell_of_row w g _ _ 39 (0, 0) h] <;> rfl
def askX (S : List Ln) (q : ByteArray) (s : St) : Option Ln := S.find? (fun x => eqP q x.path && mt s x)
theorem askX_none {S : List Ln} {q : ByteArray} {s : St} (h : ∀ x ∈ S, x.path = q → mt s x = false) : askX S q s = none := by
  unfold askX
  rw [List.find?_eq_none]
  intro x hx
  cases he : eqP q x.path with
  | false => simp
  | true => rw [h x hx ((eqP_iff q x.path).1 he)]; simp
theorem nodup_unique {S : List Ln} (h : (paths S).Nodup) {x y : Ln} (hx : x ∈ S) (hy : y ∈ S) (e : x.path = y.path) : x = y := by
  induction S with
  | nil => cases hx
  | cons z T ih =>
    obtain ⟨h1, h2⟩ := List.nodup_cons.1 (show (z.path :: paths T).Nodup from h)
    rcases List.mem_cons.1 hx with rfl | hx'
    · rcases List.mem_cons.1 hy with rfl | hy'
      · rfl
      · exact absurd (List.mem_map.2 ⟨y, hy', e.symm⟩) h1
    · rcases List.mem_cons.1 hy with rfl | hy'
      · exact absurd (List.mem_map.2 ⟨x, hx', e⟩) h1
      · exact ih h2 hx' hy'
theorem askX_some {S : List Ln} {q : ByteArray} {s : St} {x : Ln} (hn : (paths S).Nodup) (hx : x ∈ S) (hq : x.path = q) (hm : mt s x = true) : askX S q s = some x := by
  unfold askX
  cases hf : S.find? (fun x => eqP q x.path && mt s x) with
  | none =>
    have := List.find?_eq_none.1 hf x hx
    rw [(eqP_iff q x.path).2 hq, hm] at this
    exact absurd rfl this
  | some y =>
    have h1 := List.find?_some hf
    have h2 := List.mem_of_find?_eq_some hf
    rw [Bool.and_eq_true] at h1
    exact congrArg some (nodup_unique hn h2 hx (((eqP_iff q y.path).1 h1.1).trans hq.symm))
structure Re where
  sum : ByteArray
  ok : Bool
  e : Int
  k : Int
  S : List Ln
def doF (room : Int) (S : List Ln) (a : Ac) : Re :=
  if a.act = 0 then (match askX S a.path a.st with | none => ⟨⟨#[]⟩, false, 0, 0, S⟩ | some x => ⟨x.sum, true, 0, 0, lastS x S⟩)
  else if a.act = 1 then ⟨⟨#[]⟩, false, tellE a.path a.st a.sum, 0, if tellE a.path a.st a.sum = 0 then capS room (lastS (tellX a.path a.st a.sum) S) else S⟩
  else if a.act = 2 then ⟨⟨#[]⟩, false, 0, (S.length : Int) - (outS (fun q => underF q a.path) S).length, outS (fun q => underF q a.path) S⟩
  else ⟨⟨#[]⟩, false, 0, 0, S⟩
def reV (r : Re) : Value := .tuple #[.string r.sum, .bool r.ok, .int .i64 r.e, .int .i64 r.k]
set_option maxHeartbeats 8000000 in
set_option maxRecDepth 20000 in
theorem law_Do.at_ (b0 p mb n : Nat) (room : Int) (v : Value) (S : List Ln) (a : Ac) (w : World) (h : Lg b0 p mb n room v S w) (hq : a.path.size ≤ 1000000) (hS : S.length < 1000000) (hn : n ≤ 1000000) :
    Calls Tryd.prog 11 #[.pointer (some ⟨p, 0, none⟩), acV a] w fun e w' => e = .returned (reV (doF room S a)) ∧ ∃ v', Lg b0 p mb (n + 1) room v' (doF room S a).S w' ∧ Bm p mb w w' := by
  obtain ⟨w1, hw1⟩ : ∃ w1, w.alloc (.cells (acC a) 39) = w1 := ⟨_, rfl⟩
  obtain ⟨g, hg⟩ : ∃ g, w.heap.size = g := ⟨_, rfl⟩
  have HG1 : Aside0 (w1.heap[g]? = some (.cells (acC a) 39 (0, 0))) := ⟨by rw [← hw1, ← hg]; exact blk_new w _⟩
  have HB1 : Aside0 (Below w.heap.size w w1) := ⟨by rw [← hw1]; exact below_alloc (Below.refl _ _) _⟩
  have HL1 := Aside0.mk (h.below HB1.out)
  have HBm := Aside0.mk ((Bm.refl p mb w).below HB1.out)
  have HN := Aside0.mk h.hN
  obtain ⟨c0, c1, c2, c3, c4, c5, c6, c7, c8, c9, c10, c11, c12⟩ := ac_cells HG1.out
  have HAsk := Aside0.mk (led_Ask.at_ b0 p mb n room v S a.path a.st w1 HL1.out hq hS hn)
  have HTell := Aside0.mk (led_Tell.at_ b0 p mb n room v S a.path a.st a.sum w1 HL1.out hq hS hn)
  have HFor := Aside0.mk (led_Forget.at_ b0 p mb n room v S a.path w1 HL1.out hq)
  unfold stV stC at HAsk HTell
  have HD : Aside0 (∀ r, r = doF room S a → reV (doF room S a) = reV r) := ⟨fun r h => by rw [h]⟩
  unfold acV
  clear h hq hS hn
  by_cases k0 : a.act = 0
  · have e0 : (a.act == 0) = true := beq_iff_eq.mpr k0
    have K0 := Aside0.mk k0
    clear k0
    go_enter Tryd.func11, Tryd.ntmps11
    go_wp2_with fail
    refine HAsk.out.mono ?_
    rintro e w2 (⟨rfl, hno, hL, hB⟩ | ⟨x, hx, hxq, hm, rfl, v', hL, hB, _⟩)
    · have HD2 : Aside0 (doF room S a = ⟨⟨#[]⟩, false, 0, 0, S⟩) := ⟨by unfold doF; rw [if_pos K0.out, askX_none hno]⟩
      have HL2 := Aside0.mk (hL.mono (Nat.le_succ n))
      have HB2 := Aside0.mk (HBm.out.below hB)
      clear hL hB hno
      clear HAsk HTell HFor
      go_wp2
      refine bodyPost_ret (ld_results4 rfl _ _ _) rfl ?_
      refine ⟨?_, v, ?_, HB2.out⟩
      · show Ending.returned (.tuple #[.string ⟨#[]⟩, .bool false, .int .i64 0, .int .i64 0]) = _
        rw [HD2.out]; rfl
      · rw [HD2.out]; exact HL2.out
    · have HD2 : Aside0 (doF room S a = ⟨x.sum, true, 0, 0, lastS x S⟩) := ⟨by unfold doF; rw [if_pos K0.out, askX_some HN.out hx hxq hm]⟩
      have HL2 := Aside0.mk hL
      have HB2 := Aside0.mk (HBm.out.trans hB)
      clear hL hB hx hxq hm
      clear HAsk HTell HFor
      go_wp2
      refine bodyPost_ret (ld_results4 rfl _ _ _) rfl ?_
      refine ⟨?_, v', ?_, HB2.out⟩
      · show Ending.returned (.tuple #[.string x.sum, .bool true, .int .i64 0, .int .i64 0]) = _
        rw [HD2.out]; rfl
      · rw [HD2.out]; exact HL2.out
  have e0 : (a.act == 0) = false := beq_eq_false_iff_ne.mpr k0
  by_cases k1 : a.act = 1
  · have e1 : (a.act == 1) = true := beq_iff_eq.mpr k1
    have K1 := Aside0.mk (And.intro k0 k1)
    clear k0 k1
    go_enter Tryd.func11, Tryd.ntmps11
    go_wp2_with fail
    refine HTell.out.mono ?_
    rintro e w2 ⟨rfl, ⟨hz, hL, hB⟩ | ⟨hz, v', hL, hB, _⟩⟩
    · have HD2 : Aside0 (doF room S a = ⟨⟨#[]⟩, false, tellE a.path a.st a.sum, 0, S⟩) := ⟨by unfold doF; rw [if_neg K1.out.1, if_pos K1.out.2, if_neg hz]⟩
      have HL2 := Aside0.mk (hL.mono (Nat.le_succ n))
      have HB2 := Aside0.mk (HBm.out.below hB)
      clear hL hB hz
      clear HAsk HTell HFor
      go_wp2
      refine bodyPost_ret (ld_results4 rfl _ _ _) rfl ?_
      refine ⟨?_, v, ?_, HB2.out⟩
      · show Ending.returned (.tuple #[.string ⟨#[]⟩, .bool false, .int .i64 (tellE a.path a.st a.sum), .int .i64 0]) = _
        rw [HD2.out]; rfl
      · rw [HD2.out]; exact HL2.out
    · have HD2 : Aside0 (doF room S a = ⟨⟨#[]⟩, false, tellE a.path a.st a.sum, 0, capS room (lastS (tellX a.path a.st a.sum) S)⟩) := ⟨by unfold doF; rw [if_neg K1.out.1, if_pos K1.out.2, if_pos hz]⟩
      have HL2 := Aside0.mk hL
      have HB2 := Aside0.mk (HBm.out.trans hB)
      clear hL hB hz
      clear HAsk HTell HFor
      go_wp2
      refine bodyPost_ret (ld_results4 rfl _ _ _) rfl ?_
      refine ⟨?_, v', ?_, HB2.out⟩
      · show Ending.returned (.tuple #[.string ⟨#[]⟩, .bool false, .int .i64 (tellE a.path a.st a.sum), .int .i64 0]) = _
        rw [HD2.out]; rfl
      · rw [HD2.out]; exact HL2.out
  have e1 : (a.act == 1) = false := beq_eq_false_iff_ne.mpr k1
  by_cases k2 : a.act = 2
  · have e2 : (a.act == 2) = true := beq_iff_eq.mpr k2
    have HD2 : Aside0 (doF room S a = ⟨⟨#[]⟩, false, 0, (S.length : Int) - (outS (fun q => underF q a.path) S).length, outS (fun q => underF q a.path) S⟩) := ⟨by unfold doF; rw [if_neg k0, if_neg k1, if_pos k2]⟩
    clear k0 k1 k2
    go_enter Tryd.func11, Tryd.ntmps11
    go_wp2_with fail
    refine HFor.out.mono ?_
    rintro e w2 ⟨rfl, v', hL, hB, _⟩
    have HL2 := Aside0.mk (hL.mono (Nat.le_succ n))
    have HB2 := Aside0.mk (HBm.out.trans hB)
    clear hL hB
    clear HAsk HTell HFor
    go_wp2
    refine bodyPost_ret (ld_results4 rfl _ _ _) rfl ?_
    refine ⟨?_, v', ?_, HB2.out⟩
    · show Ending.returned (.tuple #[.string ⟨#[]⟩, .bool false, .int .i64 0, .int .i64 ((S.length : Int) - (outS (fun q => underF q a.path) S).length)]) = _
      rw [HD2.out]; rfl
    · rw [HD2.out]; exact HL2.out
  have e2 : (a.act == 2) = false := beq_eq_false_iff_ne.mpr k2
  have HD2 : Aside0 (doF room S a = ⟨⟨#[]⟩, false, 0, 0, S⟩) := ⟨by unfold doF; rw [if_neg k0, if_neg k1, if_neg k2]⟩
  have HL2 := Aside0.mk (HL1.out.mono (Nat.le_succ n))
  clear k0 k1 k2
  go_enter Tryd.func11, Tryd.ntmps11
  clear HAsk HTell HFor
  go_wp2
  refine bodyPost_ret (ld_results4 rfl _ _ _) rfl ?_
  refine ⟨?_, v, ?_, HBm.out⟩
  · show Ending.returned (.tuple #[.string ⟨#[]⟩, .bool false, .int .i64 0, .int .i64 0]) = _
    rw [HD2.out]; rfl
  · rw [HD2.out]; exact HL2.out

/-! ### remoralaw33_sum: function 24 -/
def remoralaw33_sum.l0 : Nat → Int → List Int → Int → Option (ByteArray)
  | 0, _, _, _ => none
  | k + 1, x0, x3, x4 => if x4 < 32 then (if 0 ≤ x4 then (if x4 < (x3.length : Int) then (remoralaw33_sum.l0 k x0 (x3.set (x4 : Int).toNat x0) (wrap64 (x4 + 1))) else (none)) else (none)) else (some (strOfNums x3))
def remoralaw33_sum.f (k : Nat) (a0 : Int) : Option (ByteArray) := if 32 ≤ 281474976710656 then (remoralaw33_sum.l0 k a0 (List.replicate 32 0) 0) else (none)
set_option maxHeartbeats 8000000 in
set_option maxRecDepth 100000 in
theorem remoralaw33_sum.calls (k : Nat) (a0 : Int) (r : ByteArray) (w : World) (h : remoralaw33_sum.f k a0 = some r) :
    Calls Tryd.prog 24 #[.int .u8 a0] w fun e w' => e = .returned (.string r) ∧ Below w.heap.size w w' := by
  have HB := Aside0.mk (Below.refl w.heap.size w)
  have H : (if 32 ≤ 281474976710656 then (remoralaw33_sum.l0 k a0 (List.replicate 32 0) 0) else (none)) = some r := h
  clear h
  by_cases c2 : 32 ≤ 281474976710656
  · rw [if_pos c2] at H
    have c2b0 := eq_true c2
    have c2b1 : decide (32 ≤ 281474976710656) = true := decide_eq_true c2
    clear c2
    obtain ⟨y105, hy105⟩ : ∃ y_ : List Int, y_ = (List.replicate 32 0) := ⟨_, rfl⟩
    replace H : (remoralaw33_sum.l0 k a0 y105 0) = some r := by first | (rw [hy105]; with_reducible exact H) | (have H2_ := (Option.bind_some _ _).symm.trans H; rw [hy105]; with_reducible exact H2_) | (have H2_ := (Option.bind_some _ _).symm.trans H; with_reducible exact H2_) | with_reducible exact H | (rw [hy105]; exact H) | exact H
    have Ny105 := Aside0.mk hy105
    clear hy105
    have H' := Aside0.mk H
    clear H
    go_enter Tryd.func24, Tryd.ntmps24
    go_wp2_with (first | ((with_reducible refine gate_dst (N := 5) rfl ?_); refine Kd.R_make (Kd.int .u8) _ 5 rfl (N := 5) rfl 41 _ _ rfl 32 rfl rfl Tryd.underlying41 (.int .u8 0) 1 info5 rfl (by decide) (by omega) 0 (ok := fun _ => True) (okp := fun _ => True) rfl (fun _ hk => hk) trivial (by omega) (by omega) (Below.refl _ _) (Nat.le_refl _) ?_; intro v106 w3 ho4 hb hg_ hnew_; clear hg_ hnew_; (first | rw [← Ny105.out] at ho4 | (simp only [Int.reduceToNat] at ho4; rw [← Ny105.out] at ho4)); have n0_ := Aside0.mk (Kd.R_lower ho4 (below_size (by repeat (first | (with_reducible first | exact HB.out | apply below_alloc | apply pw_below_drewN | apply below_drew1) | exact HB.out)))); have n1_ := Aside0.mk (below_step (by repeat (first | (with_reducible first | exact HB.out | apply below_alloc | apply pw_below_drewN | apply below_drew1) | exact HB.out)) hb); clear HB; have HO107 := n0_; have HB := n1_; clear n0_ n1_; clear hb ho4))
    go_loopg [4] k (fun kq v4 w' => ∃ (x3_1 : List Int) (x4_1 : Int), v4 = .int .i64 x4_1 ∧ Aside0 (remoralaw33_sum.l0 kq a0 x3_1 x4_1 = some r) ∧ Aside0 (kq ≤ k) ∧ Aside0 (Kd.R (Kd.int .u8) 5 w' w.heap.size (fun _ => True) v106 x3_1) ∧ Aside0 (Below w.heap.size w w'))
    case atStart => exact ⟨(y105), (0), (by first | rfl | (simp; done) | (simp [*]; done)), H', ⟨Nat.le_refl _⟩, ⟨by (with_reducible repeat (first | apply Kd.R_alloc | apply Kd.R_drewN | apply Kd.R_drew)); exact HO107.out⟩, ⟨by repeat (first | (with_reducible first | exact HB.out | apply below_alloc | apply pw_below_drewN | apply below_drew1) | exact HB.out)⟩⟩
    case round =>
      clear H'
      try clear c2
      try clear c2b0
      try clear c2b1
      try clear p2
      obtain ⟨x3_1, x4_1, rfl, HA, HK1, HO_3, HB⟩ := hrel
      cases gk with
      | zero => exact absurd HA.out (by simp [remoralaw33_sum.l0])
      | succ k1 =>
        have H := HA.out
        clear HA
        simp only [remoralaw33_sum.l0] at H
        by_cases c5 : x4_1 < 32
        · rw [if_pos c5] at H
          have c5b0 : decide (x4_1 < 32) = true := decide_eq_true c5
          clear c5
          by_cases c6 : 0 ≤ x4_1
          · rw [if_pos c6] at H
            have c6b0 : decide (0 ≤ x4_1) = true := decide_eq_true c6
            clear c6
            by_cases c7 : x4_1 < (x3_1.length : Int)
            · rw [if_pos c7] at H
              have c7b0 : decide (x4_1 < (x3_1.length : Int)) = true := decide_eq_true c7
              clear c7
              obtain ⟨y108, hy108⟩ : ∃ y_ : List Int, y_ = (x3_1.set (x4_1 : Int).toNat a0) := ⟨_, rfl⟩
              replace H : (remoralaw33_sum.l0 k1 a0 y108 (wrap64 (x4_1 + 1))) = some r := by first | (rw [hy108]; with_reducible exact H) | (have H2_ := (Option.bind_some _ _).symm.trans H; rw [hy108]; with_reducible exact H2_) | (have H2_ := (Option.bind_some _ _).symm.trans H; with_reducible exact H2_) | with_reducible exact H | (rw [hy108]; exact H) | exact H
              have Ny108 := Aside0.mk hy108
              clear hy108
              have H' := Aside0.mk H
              clear H
              have p8 : 0 ≤ (x4_1 : Int) := of_decide_eq_true (by first | (with_reducible assumption) | assumption)
              have q8 : (x4_1 : Int) < ((x3_1.length : Int) : Int) := of_decide_eq_true (by first | (with_reducible assumption) | assumption)
              obtain ⟨go8, co8, eo8, gb8, gl8, cl8, HG8⟩ := Kd.R_form HO_3.out (by omega)
              (first | cases eo8 | (injection eo8 with ea_ en_ ec_; (first | subst ea_ | (injection ea_ with ea_; subst ea_)); subst ec_; clear en_))
              have GB8 := Aside0.mk gb8
              have GG8 := Aside0.mk HG8
              clear gb8 gl8 HG8
              obtain ⟨hx8_0, hf8_0⟩ := Kd.R_celln 0 HO_3.out (x4_1 : Int) p8 q8
              replace p8 := eq_true p8
              replace q8 := eq_true q8
              have HP9 := Kd.R_putg HO_3.out (x4_1 : Int) a0
              go_wp2_with (first | ((with_reducible refine gate_store (t := 5) (p := 13) rfl ?_); refine store_event (t := 5) (p := 13) (v := ?vo_w10) (w1 := (wr.setCell ⟨go8, (x4_1 : Int).toNat, none⟩ (.int .u8 a0))) ?hg ?ho ?hn ?hr ?_; (case ho => rfl); (case hg => rfl); (case hn => rfl); (case hr => first | (go_simp; done) | (go_simp; rfl)); intro w10 hw; have hg : wr.grownBy w10 (some go8) := (by rw [hw]; exact HP9.2); have hp_ : Kd.R (Kd.int .u8) 5 w10 w.heap.size (fun _ => True) (.slice (some ⟨go8, 0, none⟩) x3_1.length co8) y108 := (by rw [hw, Ny108.out]; exact HP9.1); clear HP9; have n0_ := Aside0.mk (hp_); have n1_ := Aside0.mk ((by rw [hw]; exact below_set (HB.out) GB8.out : Below w.heap.size w w10)); clear HO_3; clear HB; have HO_3 := n0_; have HB := n1_; clear n0_ n1_; clear hg hw hp_))
              go_roundg k1
              case measure => have := HK1.out; omega
              case rel => exact ⟨(y108), (wrap64 (x4_1 + 1)), (by first | rfl | (simp; done) | (simp [*]; done)), H', ⟨by have := HK1.out; omega⟩, ⟨by (with_reducible repeat (first | apply Kd.R_alloc | apply Kd.R_drewN | apply Kd.R_drew)); exact HO_3.out⟩, ⟨by repeat (first | (with_reducible first | exact HB.out | apply below_alloc | apply pw_below_drewN | apply below_drew1) | exact HB.out)⟩⟩
            · rw [if_neg c7] at H
              exact absurd H (by simp)
          · rw [if_neg c6] at H
            exact absurd H (by simp)
        · rw [if_neg c5] at H
          have c5b0 : decide (x4_1 < 32) = false := decide_eq_false c5
          clear c5
          obtain rfl := Option.some.inj H
          have hcv11 := own_string (P := Tryd.prog) Tryd.underlying41 Tryd.underlying5 Tryd.underlying9 (Kd.own_of_R HO_3.out)
          go_wp2
          go_ret
          exact ⟨by first | rfl | (simp [errW_none, errW_some] <;> rfl) | (simp [*, errW_none, errW_some] <;> rfl), by repeat (first | (with_reducible first | exact HB.out | apply below_alloc | apply pw_below_drewN | apply below_drew1) | exact HB.out)⟩
  · rw [if_neg c2] at H
    exact absurd H (by simp)

/-! ### remoralaw33_awake: function 10, a contract of my own -/
def s0_ : St := ⟨1, 7, 0, 0, 0, 0, 0, 0, 0, ⟨#[]⟩⟩
theorem st0_cells {w : World} {g : Nat} (h : w.heap[g]? = some (.cells (stC s0_) 37 (0, 0))) :
    w.cell? ⟨g, 0, none⟩ = some (.int .i64 1) ∧ w.cell? ⟨g, 1, none⟩ = some (.int .i64 7) ∧ w.cell? ⟨g, 2, none⟩ = some (.int .i64 0) ∧ w.cell? ⟨g, 3, none⟩ = some (.int .i64 0) ∧ w.cell? ⟨g, 4, none⟩ = some (.int .i64 0) ∧ w.cell? ⟨g, 5, none⟩ = some (.int .i64 0) ∧ w.cell? ⟨g, 6, none⟩ = some (.int .i64 0) ∧ w.cell? ⟨g, 7, none⟩ = some (.int .i64 0) ∧ w.cell? ⟨g, 8, none⟩ = some (.int .i64 0) ∧ w.cell? ⟨g, 9, none⟩ = some (.string ⟨#[]⟩) := by
  refine ⟨?_, ?_, ?_, ?_, ?_, ?_, ?_, ?_, ?_, ?_⟩ <;> rw [cell_of_row w g _ _ 37 (0, 0) h] <;> rfl
def sumS (c : Int) : ByteArray := strOfNums (List.replicate 32 c)
theorem sum_f (c : Int) (h : c = 97 ∨ c = 98 ∨ c = 99) : remoralaw33_sum.f 40 c = some (sumS c) := by
  rcases h with rfl | rfl | rfl <;> kernel_rfl
abbrev bA : ByteArray := ⟨#[97]⟩
abbrev bB : ByteArray := ⟨#[98]⟩
abbrev bC : ByteArray := ⟨#[99]⟩
abbrev lA : Ln := tellX bA s0_ (sumS 97)
abbrev lB : Ln := tellX bB s0_ (sumS 98)
abbrev lC : Ln := tellX bC s0_ (sumS 99)
theorem split_small (p : ByteArray) (h : p = bA ∨ p = bB ∨ p = bC) : splitF p = [p] := by
  rcases h with rfl | rfl | rfl
  all_goals
    unfold splitF
    rw [if_neg (by rw [ByteArray.toList_eq]; decide)]
    kernel_rfl
theorem right_small (p : ByteArray) (h : p = bA ∨ p = bB ∨ p = bC) : rightF p = true := by
  rcases h with rfl | rfl | rfl
  all_goals
    unfold rightF
    rw [split_small _ (by first | exact .inl rfl | exact .inr (.inl rfl) | exact .inr (.inr rfl))]
    unfold partF
    simp only [ByteArray.toList_eq, List.all_cons, List.all_nil]
    decide
theorem tell_small (p : ByteArray) (c : Int) (h : p = bA ∨ p = bB ∨ p = bC) (hc : c = 97 ∨ c = 98 ∨ c = 99) : tellE p s0_ (sumS c) = 0 := by
  have hw : wrongF (tellX p s0_ (sumS c)) = false := by
    unfold wrongF tellX s0_
    rcases hc with rfl | rfl | rfl <;> rfl
  have hm : mayF (tellX p s0_ (sumS c)) = 0 := by
    unfold mayF
    have : (tellX p s0_ (sumS c)).path = p := rfl
    rw [this, right_small p h, hw]
    have he : p.toList.isEmpty = false := by
      rcases h with rfl | rfl | rfl <;> (rw [ByteArray.toList_eq]; rfl)
    rw [he]
    rfl
  unfold tellE
  rw [hm]
  rfl
theorem cap_a : capS 2 (lastS lA []) = [lA] := rfl
theorem eqP_ne {c s : ByteArray} (h : s ≠ c) : eqP c s = false := by
  cases hh : eqP c s with
  | false => rfl
  | true => exact absurd ((eqP_iff c s).1 hh) h
theorem eqP_rfl (c : ByteArray) : eqP c c = true := (eqP_iff c c).2 rfl
theorem cap_b : capS 2 (lastS lB [lA]) = [lA, lB] := by
  have e : eqP lB.path lA.path = false := eqP_ne (by decide)
  unfold lastS outS
  rw [List.filter_cons, e]
  rfl
theorem ask_a : lastS lA [lA, lB] = [lB, lA] := by
  have e : eqP lA.path lA.path = true := eqP_rfl _
  have e2 : eqP lA.path lB.path = false := eqP_ne (by decide)
  unfold lastS outS
  rw [List.filter_cons, e, List.filter_cons, e2]
  rfl
theorem cap_c : capS 2 (lastS lC [lB, lA]) = [lA, lC] := by
  have e : eqP lC.path lB.path = false := eqP_ne (by decide)
  have e2 : eqP lC.path lA.path = false := eqP_ne (by decide)
  unfold lastS outS
  rw [List.filter_cons, e, List.filter_cons, e2]
  rfl
theorem tell_any (q : ByteArray) (c : Int) (S S2 : List Ln) (n : Nat) (hq : q = bA ∨ q = bB ∨ q = bC) (hc : c = 97 ∨ c = 98 ∨ c = 99) (hS : S.length < 1000000) (hn : n ≤ 1000000) (hcap : capS 2 (lastS (tellX q s0_ (sumS c)) S) = S2)
    (b0 p mb : Nat) (v : Value) (w : World) (h : Lg b0 p mb n 2 v S w) :
    Calls Tryd.prog 23 #[.pointer (some ⟨p, 0, none⟩), .string q, .agg #[.int .i64 1, .int .i64 7, .int .i64 0, .int .i64 0, .int .i64 0, .int .i64 0, .int .i64 0, .int .i64 0, .int .i64 0, .string ⟨#[]⟩], .string (sumS c)] w fun e w' => e = .returned (.int .i64 0) ∧ ∃ v', Lg b0 p mb (n + 1) 2 v' S2 w' ∧ Bm p mb w w' := by
  refine (led_Tell.at_ b0 p mb n 2 v S q s0_ (sumS c) w h (by rcases hq with rfl | rfl | rfl <;> decide) hS hn).mono ?_
  rintro e w' ⟨rfl, ⟨h1, _⟩ | ⟨h1, v', hL, hB, _⟩⟩
  · exact absurd (tell_small q c hq hc) h1
  · rw [tell_small q c hq hc]
    rw [hcap] at hL
    exact ⟨rfl, v', hL, hB⟩
theorem ask_small (b0 p mb : Nat) (v : Value) (w : World) (h : Lg b0 p mb 2 2 v [lA, lB] w) :
    Calls Tryd.prog 25 #[.pointer (some ⟨p, 0, none⟩), .string bA, .agg #[.int .i64 1, .int .i64 7, .int .i64 0, .int .i64 0, .int .i64 0, .int .i64 0, .int .i64 0, .int .i64 0, .int .i64 0, .string ⟨#[]⟩]] w fun e w' => e = .returned (.tuple #[.string (sumS 97), .bool true]) ∧ ∃ v', Lg b0 p mb 3 2 v' [lB, lA] w' ∧ Bm p mb w w' := by
  refine (led_Ask.at_ b0 p mb 2 2 v [lA, lB] bA s0_ w h (by decide) (by simp) (by omega)).mono ?_
  rintro e w' (⟨_, h1, _⟩ | ⟨x, hx, hq, hm, rfl, v', hL, hB, _⟩)
  · have := h1 lA (by simp) rfl
    exact absurd this (by decide)
  · have hxA : x = lA := nodup_unique h.hN hx (by simp) (hq.trans rfl)
    subst hxA
    rw [ask_a] at hL
    exact ⟨rfl, v', hL, hB⟩
theorem two_C (w : World) (a b : ByteArray) : Kd.C Kd.string (w.alloc (.cells #[.string a, .string b] 9)) (some ⟨w.heap.size, 0, none⟩) 2 [a, b] := by
  refine Kd.C_of_reads (enc := Value.string) (d := a) (h1 := fun _ => rfl) ⟨rfl, by decide, fun _ => ⟨_, rfl, fun j hj => ?_⟩⟩
  have hb := blk_new w (.cells #[.string a, .string b] 9)
  match j, hj with
  | 0, _ => exact (cell_of_row _ _ _ _ _ _ hb)
  | 1, _ => exact (cell_of_row _ _ _ _ _ _ hb)
set_option maxHeartbeats 8000000 in
set_option maxRecDepth 20000 in
theorem law_awake.at_ (w : World) : Calls Tryd.prog 10 #[] w fun e w' => e = .returned (.bool true) ∧ Below w.heap.size w w' := by
  have HNew := Aside0.mk (led_New.at_ 2 w rfl)
  go_enter Tryd.func10, Tryd.ntmps10
  go_wp2_with fail
  refine HNew.out.mono ?_
  rintro e w1 ⟨p, mb, rfl, hL, hB⟩
  obtain ⟨gs, hgs⟩ : ∃ gs, w1.heap.size = gs := ⟨_, rfl⟩
  obtain ⟨w2, hw2⟩ : ∃ w2, w1.alloc (.cells #[.int .i64 1, .int .i64 7, .int .i64 0, .int .i64 0, .int .i64 0, .int .i64 0, .int .i64 0, .int .i64 0, .int .i64 0, .string ⟨#[]⟩] 37) = w2 := ⟨_, rfl⟩
  have HG2 : Aside0 (w2.heap[gs]? = some (.cells (stC s0_) 37 (0, 0))) := ⟨by rw [← hw2, ← hgs]; exact blk_new w1 _⟩
  have hB2 : Below w1.heap.size w1 w2 := by rw [← hw2]; exact below_alloc (Below.refl _ _) _
  have HL2 := Aside0.mk (hL.below hB2)
  have HNE : Aside0 (gs ≠ p ∧ gs ≠ mb) := ⟨by have h1 := blk_lt hL.hP; have h2 := hL.hM.lt; exact ⟨by omega, by omega⟩⟩
  have HB2 : Aside0 (Bm p mb w1 w2) := ⟨(Bm.refl p mb w1).below hB2⟩
  have HBB := Aside0.mk hB
  have HP0 : Aside0 (w.heap.size ≤ p ∧ w.heap.size ≤ mb) := ⟨⟨hL.hp0, hL.hm0⟩⟩
  have HW2 := Aside0.mk hw2
  clear hL hB hB2 HNew hw2
  go_wp2_with fail
  rw [HW2.out]
  refine start_ (n := 10) (S := fun w' => w'.cell? ⟨gs, 0, none⟩ = some (.int .i64 1) ∧ w'.cell? ⟨gs, 1, none⟩ = some (.int .i64 7) ∧ w'.cell? ⟨gs, 2, none⟩ = some (.int .i64 0) ∧ w'.cell? ⟨gs, 3, none⟩ = some (.int .i64 0) ∧ w'.cell? ⟨gs, 4, none⟩ = some (.int .i64 0) ∧ w'.cell? ⟨gs, 5, none⟩ = some (.int .i64 0) ∧ w'.cell? ⟨gs, 6, none⟩ = some (.int .i64 0) ∧ w'.cell? ⟨gs, 7, none⟩ = some (.int .i64 0) ∧ w'.cell? ⟨gs, 8, none⟩ = some (.int .i64 0) ∧ w'.cell? ⟨gs, 9, none⟩ = some (.string ⟨#[]⟩)) (ds := []) #[F_,F_,F_,F_,F_,F_,F_,F_,F_,F_] (by kernel_rfl) rfl rfl ⟨(st0_cells HG2.out).1, (st0_cells HG2.out).2.1, (st0_cells HG2.out).2.2.1, (st0_cells HG2.out).2.2.2.1, (st0_cells HG2.out).2.2.2.2.1, (st0_cells HG2.out).2.2.2.2.2.1, (st0_cells HG2.out).2.2.2.2.2.2.1, (st0_cells HG2.out).2.2.2.2.2.2.2.1, (st0_cells HG2.out).2.2.2.2.2.2.2.2.1, (st0_cells HG2.out).2.2.2.2.2.2.2.2.2⟩ (fun hHeld => ?_)
  refine pure_ (i := 0) (N := some 20) (v := ?_) (a' := ?_) #[T_,F_,F_,F_,F_,F_,F_,F_,F_,F_] rfl rfl (by kernel_rfl) (fun _ _ _ h => h) (Or.inl ⟨by rfl, ?_⟩) ?_ ?_
  rotate_left
  · intro w'
    go_simp
    with_reducible rfl
  rotate_left
  · simp only [Act.put, List.setIfInBounds_toArray, List.set_cons_zero, List.set_cons_succ, i64_w, i32_w]
    rfl
  refine pure_ (i := 4) (N := some 24) (v := ?_) (a' := ?_) #[T_,F_,F_,F_,T_,F_,F_,F_,F_,F_] rfl rfl (by kernel_rfl) (fun _ _ _ h => h) (Or.inl ⟨by rfl, ?_⟩) ?_ ?_
  rotate_left
  · intro w'
    go_simp
    with_reducible rfl
  rotate_left
  · simp only [Act.put, List.setIfInBounds_toArray, List.set_cons_zero, List.set_cons_succ, i64_w, i32_w]
    rfl
  refine take_ (i := 1) (N := some 21) (v := ?_) (a' := ?_) #[T_,T_,F_,F_,T_,F_,F_,F_,F_,F_] rfl rfl (by kernel_rfl) (fun _ _ _ h => h) (Or.inl ⟨by rfl, ?_⟩) hHeld ?_ ?_
  rotate_left
  · rintro w' ⟨s0, s1, s2, s3, s4, s5, s6, s7, s8, s9⟩
    go_simp
    with_reducible rfl
  rotate_left
  · simp only [Act.put, List.setIfInBounds_toArray, List.set_cons_zero, List.set_cons_succ, i64_w, i32_w]
    rfl
  refine take_ (i := 5) (N := some 25) (v := ?_) (a' := ?_) #[T_,T_,F_,F_,T_,T_,F_,F_,F_,F_] rfl rfl (by kernel_rfl) (fun _ _ _ h => h) (Or.inl ⟨by rfl, ?_⟩) hHeld ?_ ?_
  rotate_left
  · rintro w' ⟨s0, s1, s2, s3, s4, s5, s6, s7, s8, s9⟩
    go_simp
    with_reducible rfl
  rotate_left
  · simp only [Act.put, List.setIfInBounds_toArray, List.set_cons_zero, List.set_cons_succ, i64_w, i32_w]
    rfl
  refine one_ (i := 2) (N := some 22) #[T_,T_,T_,F_,T_,T_,F_,F_,F_,F_] rfl rfl (by kernel_rfl) (by decide) (fun K hK => ?_)
  refine goes_ Tryd.func24 (by kernel_rfl) rfl #[.int .u8 97] (by rfl) rfl rfl (by simp only [List.map_toArray, List.map_cons, List.map_nil]; rfl) ?_
  with_reducible refine (remoralaw33_sum.calls 40 97 (sumS 97) w2.drew (sum_f 97 (by decide))).mono ?_
  rintro e w3 ⟨rfl, hb_w3⟩
  refine ⟨_, rfl, ?_⟩
  have HL_w3 := Aside0.mk ((HL2.out.below (below_drew (Below.refl _ _))).below hb_w3)
  have HG_w3 := Aside0.mk (blk_below (w := w2.drew) HG2.out hb_w3)
  have HB_w3 := Aside0.mk ((HB2.out.below (below_drew (Below.refl _ _))).below hb_w3)
  clear hb_w3
  refine hK.out _ _ ⟨(st0_cells HG_w3.out).1, (st0_cells HG_w3.out).2.1, (st0_cells HG_w3.out).2.2.1, (st0_cells HG_w3.out).2.2.2.1, (st0_cells HG_w3.out).2.2.2.2.1, (st0_cells HG_w3.out).2.2.2.2.2.1, (st0_cells HG_w3.out).2.2.2.2.2.2.1, (st0_cells HG_w3.out).2.2.2.2.2.2.2.1, (st0_cells HG_w3.out).2.2.2.2.2.2.2.2.1, (st0_cells HG_w3.out).2.2.2.2.2.2.2.2.2⟩ (fun hHeld => ?_)
  clear hK K
  refine norm_ (a' := ?_) ?_ ?_
  rotate_left
  · show Act.put _ (some 22) _ = _
    simp only [Act.put, List.setIfInBounds_toArray, List.set_cons_zero, List.set_cons_succ, i64_w, i32_w]
    rfl
  refine one_ (i := 3) (N := some 23) #[T_,T_,T_,T_,T_,T_,F_,F_,F_,F_] rfl rfl (by kernel_rfl) (by decide) (fun K hK => ?_)
  refine goes_ Tryd.func23 (by kernel_rfl) rfl #[.pointer (some ⟨p, 0, none⟩), .string ⟨#[97]⟩, .agg #[.int .i64 1, .int .i64 7, .int .i64 0, .int .i64 0, .int .i64 0, .int .i64 0, .int .i64 0, .int .i64 0, .int .i64 0, .string ⟨#[]⟩], .string (sumS 97)] (by rfl) rfl rfl (by simp only [List.map_toArray, List.map_cons, List.map_nil]; rfl) ?_
  with_reducible refine (tell_any bA 97 [] [lA] 0 (.inl rfl) (.inl rfl) (by simp) (by omega) cap_a _ p mb _ _ HL_w3.out).mono ?_
  rintro e w4 ⟨rfl, v_w4, hL_w4, hB_w4⟩
  refine ⟨_, rfl, ?_⟩
  have HL_w4 := Aside0.mk hL_w4
  have HG_w4 := Aside0.mk (hB_w4.blk HG_w3.out HNE.out.1 HNE.out.2)
  have HB_w4 := Aside0.mk (HB_w3.out.trans hB_w4)
  clear hL_w4 hB_w4
  refine hK.out _ _ ⟨(st0_cells HG_w4.out).1, (st0_cells HG_w4.out).2.1, (st0_cells HG_w4.out).2.2.1, (st0_cells HG_w4.out).2.2.2.1, (st0_cells HG_w4.out).2.2.2.2.1, (st0_cells HG_w4.out).2.2.2.2.2.1, (st0_cells HG_w4.out).2.2.2.2.2.2.1, (st0_cells HG_w4.out).2.2.2.2.2.2.2.1, (st0_cells HG_w4.out).2.2.2.2.2.2.2.2.1, (st0_cells HG_w4.out).2.2.2.2.2.2.2.2.2⟩ (fun hHeld => ?_)
  clear hK K
  refine norm_ (a' := ?_) ?_ ?_
  rotate_left
  · show Act.put _ (some 23) _ = _
    simp only [Act.put, List.setIfInBounds_toArray, List.set_cons_zero, List.set_cons_succ, i64_w, i32_w]
    rfl
  refine one_ (i := 6) (N := some 26) #[T_,T_,T_,T_,T_,T_,T_,F_,F_,F_] rfl rfl (by kernel_rfl) (by decide) (fun K hK => ?_)
  refine goes_ Tryd.func24 (by kernel_rfl) rfl #[.int .u8 98] (by rfl) rfl rfl (by simp only [List.map_toArray, List.map_cons, List.map_nil]; rfl) ?_
  with_reducible refine (remoralaw33_sum.calls 40 98 (sumS 98) w4 (sum_f 98 (by decide))).mono ?_
  rintro e w5 ⟨rfl, hb_w5⟩
  refine ⟨_, rfl, ?_⟩
  have HL_w5 := Aside0.mk (HL_w4.out.below hb_w5)
  have HG_w5 := Aside0.mk (blk_below (w := w4) HG_w4.out hb_w5)
  have HB_w5 := Aside0.mk (HB_w4.out.below hb_w5)
  clear hb_w5
  refine hK.out _ _ ⟨(st0_cells HG_w5.out).1, (st0_cells HG_w5.out).2.1, (st0_cells HG_w5.out).2.2.1, (st0_cells HG_w5.out).2.2.2.1, (st0_cells HG_w5.out).2.2.2.2.1, (st0_cells HG_w5.out).2.2.2.2.2.1, (st0_cells HG_w5.out).2.2.2.2.2.2.1, (st0_cells HG_w5.out).2.2.2.2.2.2.2.1, (st0_cells HG_w5.out).2.2.2.2.2.2.2.2.1, (st0_cells HG_w5.out).2.2.2.2.2.2.2.2.2⟩ (fun hHeld => ?_)
  clear hK K
  refine norm_ (a' := ?_) ?_ ?_
  rotate_left
  · show Act.put _ (some 26) _ = _
    simp only [Act.put, List.setIfInBounds_toArray, List.set_cons_zero, List.set_cons_succ, i64_w, i32_w]
    rfl
  refine one_ (i := 7) (N := some 27) #[T_,T_,T_,T_,T_,T_,T_,T_,F_,F_] rfl rfl (by kernel_rfl) (by decide) (fun K hK => ?_)
  refine goes_ Tryd.func23 (by kernel_rfl) rfl #[.pointer (some ⟨p, 0, none⟩), .string ⟨#[98]⟩, .agg #[.int .i64 1, .int .i64 7, .int .i64 0, .int .i64 0, .int .i64 0, .int .i64 0, .int .i64 0, .int .i64 0, .int .i64 0, .string ⟨#[]⟩], .string (sumS 98)] (by rfl) rfl rfl (by simp only [List.map_toArray, List.map_cons, List.map_nil]; rfl) ?_
  with_reducible refine (tell_any bB 98 [lA] [lA, lB] 1 (.inr (.inl rfl)) (.inr (.inl rfl)) (by simp) (by omega) cap_b _ p mb _ _ HL_w5.out).mono ?_
  rintro e w6 ⟨rfl, v_w6, hL_w6, hB_w6⟩
  refine ⟨_, rfl, ?_⟩
  have HL_w6 := Aside0.mk hL_w6
  have HG_w6 := Aside0.mk (hB_w6.blk HG_w5.out HNE.out.1 HNE.out.2)
  have HB_w6 := Aside0.mk (HB_w5.out.trans hB_w6)
  clear hL_w6 hB_w6
  refine hK.out _ _ ⟨(st0_cells HG_w6.out).1, (st0_cells HG_w6.out).2.1, (st0_cells HG_w6.out).2.2.1, (st0_cells HG_w6.out).2.2.2.1, (st0_cells HG_w6.out).2.2.2.2.1, (st0_cells HG_w6.out).2.2.2.2.2.1, (st0_cells HG_w6.out).2.2.2.2.2.2.1, (st0_cells HG_w6.out).2.2.2.2.2.2.2.1, (st0_cells HG_w6.out).2.2.2.2.2.2.2.2.1, (st0_cells HG_w6.out).2.2.2.2.2.2.2.2.2⟩ (fun hHeld => ?_)
  clear hK K
  refine norm_ (a' := ?_) ?_ ?_
  rotate_left
  · show Act.put _ (some 27) _ = _
    simp only [Act.put, List.setIfInBounds_toArray, List.set_cons_zero, List.set_cons_succ, i64_w, i32_w]
    rfl
  refine pure_ (i := 8) (N := some 4) (v := ?_) (a' := ?_) #[T_,T_,T_,T_,T_,T_,T_,T_,T_,F_] rfl rfl (by kernel_rfl) (fun _ _ _ h => h) (Or.inl ⟨by rfl, ?_⟩) ?_ ?_
  rotate_left
  · intro w'
    go_simp
    with_reducible rfl
  rotate_left
  · simp only [Act.put, List.setIfInBounds_toArray, List.set_cons_zero, List.set_cons_succ, i64_w, i32_w]
    rfl
  refine pure_ (i := 9) (N := some 5) (v := ?_) (a' := ?_) #[T_,T_,T_,T_,T_,T_,T_,T_,T_,T_] rfl rfl (by kernel_rfl) (fun _ _ _ h => h) (Or.inl ⟨by rfl, ?_⟩) ?_ ?_
  rotate_left
  · intro w'
    go_simp
    with_reducible rfl
  rotate_left
  · simp only [Act.put, List.setIfInBounds_toArray, List.set_cons_zero, List.set_cons_succ, i64_w, i32_w]
    rfl
  refine done_ (by kernel_rfl) ?_
  clear hHeld
  obtain ⟨q0, q1, q2, q3, q4, q5, q6, q7, q8, q9⟩ := st0_cells HG_w6.out
  go_wp2_with fail
  refine (ask_small _ p mb _ w6 HL_w6.out).mono ?_
  rintro e w7 ⟨rfl, v7, hL7, hB7⟩
  have HL7 := Aside0.mk hL7
  have HB7 := Aside0.mk (HB_w6.out.trans hB7)
  have HG7 := Aside0.mk (hB7.blk HG_w6.out HNE.out.1 HNE.out.2)
  clear hL7 hB7 q0 q1 q2 q3 q4 q5 q6 q7 q8 q9
  go_wp2_with fail
  refine start_ (n := 5) (S := fun w' => w'.cell? ⟨gs, 0, none⟩ = some (.int .i64 1) ∧ w'.cell? ⟨gs, 1, none⟩ = some (.int .i64 7) ∧ w'.cell? ⟨gs, 2, none⟩ = some (.int .i64 0) ∧ w'.cell? ⟨gs, 3, none⟩ = some (.int .i64 0) ∧ w'.cell? ⟨gs, 4, none⟩ = some (.int .i64 0) ∧ w'.cell? ⟨gs, 5, none⟩ = some (.int .i64 0) ∧ w'.cell? ⟨gs, 6, none⟩ = some (.int .i64 0) ∧ w'.cell? ⟨gs, 7, none⟩ = some (.int .i64 0) ∧ w'.cell? ⟨gs, 8, none⟩ = some (.int .i64 0) ∧ w'.cell? ⟨gs, 9, none⟩ = some (.string ⟨#[]⟩)) (ds := []) #[F_,F_,F_,F_,F_] (by kernel_rfl) rfl rfl ⟨(st0_cells HG7.out).1, (st0_cells HG7.out).2.1, (st0_cells HG7.out).2.2.1, (st0_cells HG7.out).2.2.2.1, (st0_cells HG7.out).2.2.2.2.1, (st0_cells HG7.out).2.2.2.2.2.1, (st0_cells HG7.out).2.2.2.2.2.2.1, (st0_cells HG7.out).2.2.2.2.2.2.2.1, (st0_cells HG7.out).2.2.2.2.2.2.2.2.1, (st0_cells HG7.out).2.2.2.2.2.2.2.2.2⟩ (fun hHeld => ?_)
  refine pure_ (i := 0) (N := some 34) (v := ?_) (a' := ?_) #[T_,F_,F_,F_,F_] rfl rfl (by kernel_rfl) (fun _ _ _ h => h) (Or.inl ⟨by rfl, ?_⟩) ?_ ?_
  rotate_left
  · intro w'
    go_simp
    with_reducible rfl
  rotate_left
  · simp only [Act.put, List.setIfInBounds_toArray, List.set_cons_zero, List.set_cons_succ, i64_w, i32_w]
    rfl
  refine take_ (i := 1) (N := some 35) (v := ?_) (a' := ?_) #[T_,T_,F_,F_,F_] rfl rfl (by kernel_rfl) (fun _ _ _ h => h) (Or.inl ⟨by rfl, ?_⟩) hHeld ?_ ?_
  rotate_left
  · rintro w' ⟨s0, s1, s2, s3, s4, s5, s6, s7, s8, s9⟩
    go_simp
    with_reducible rfl
  rotate_left
  · simp only [Act.put, List.setIfInBounds_toArray, List.set_cons_zero, List.set_cons_succ, i64_w, i32_w]
    rfl
  refine one_ (i := 2) (N := some 36) #[T_,T_,T_,F_,F_] rfl rfl (by kernel_rfl) (by decide) (fun K hK => ?_)
  refine goes_ Tryd.func24 (by kernel_rfl) rfl #[.int .u8 99] (by rfl) rfl rfl (by simp only [List.map_toArray, List.map_cons, List.map_nil]; rfl) ?_
  with_reducible refine (remoralaw33_sum.calls 40 99 (sumS 99) w7.drew (sum_f 99 (by decide))).mono ?_
  rintro e w8 ⟨rfl, hb_w8⟩
  refine ⟨_, rfl, ?_⟩
  have HL_w8 := Aside0.mk ((HL7.out.below (below_drew (Below.refl _ _))).below hb_w8)
  have HG_w8 := Aside0.mk (blk_below (w := w7.drew) HG7.out hb_w8)
  have HB_w8 := Aside0.mk ((HB7.out.below (below_drew (Below.refl _ _))).below hb_w8)
  clear hb_w8
  refine hK.out _ _ ⟨(st0_cells HG_w8.out).1, (st0_cells HG_w8.out).2.1, (st0_cells HG_w8.out).2.2.1, (st0_cells HG_w8.out).2.2.2.1, (st0_cells HG_w8.out).2.2.2.2.1, (st0_cells HG_w8.out).2.2.2.2.2.1, (st0_cells HG_w8.out).2.2.2.2.2.2.1, (st0_cells HG_w8.out).2.2.2.2.2.2.2.1, (st0_cells HG_w8.out).2.2.2.2.2.2.2.2.1, (st0_cells HG_w8.out).2.2.2.2.2.2.2.2.2⟩ (fun hHeld => ?_)
  clear hK K
  refine norm_ (a' := ?_) ?_ ?_
  rotate_left
  · show Act.put _ (some 36) _ = _
    simp only [Act.put, List.setIfInBounds_toArray, List.set_cons_zero, List.set_cons_succ, i64_w, i32_w]
    rfl
  refine one_ (i := 3) (N := some 37) #[T_,T_,T_,T_,F_] rfl rfl (by kernel_rfl) (by decide) (fun K hK => ?_)
  refine goes_ Tryd.func23 (by kernel_rfl) rfl #[.pointer (some ⟨p, 0, none⟩), .string ⟨#[99]⟩, .agg #[.int .i64 1, .int .i64 7, .int .i64 0, .int .i64 0, .int .i64 0, .int .i64 0, .int .i64 0, .int .i64 0, .int .i64 0, .string ⟨#[]⟩], .string (sumS 99)] (by rfl) rfl rfl (by simp only [List.map_toArray, List.map_cons, List.map_nil]; rfl) ?_
  with_reducible refine (tell_any bC 99 [lB, lA] [lA, lC] 3 (.inr (.inr rfl)) (.inr (.inr rfl)) (by simp) (by omega) cap_c _ p mb _ _ HL_w8.out).mono ?_
  rintro e w9 ⟨rfl, v_w9, hL_w9, hB_w9⟩
  refine ⟨_, rfl, ?_⟩
  have HL_w9 := Aside0.mk hL_w9
  have HG_w9 := Aside0.mk (hB_w9.blk HG_w8.out HNE.out.1 HNE.out.2)
  have HB_w9 := Aside0.mk (HB_w8.out.trans hB_w9)
  clear hL_w9 hB_w9
  refine hK.out _ _ ⟨(st0_cells HG_w9.out).1, (st0_cells HG_w9.out).2.1, (st0_cells HG_w9.out).2.2.1, (st0_cells HG_w9.out).2.2.2.1, (st0_cells HG_w9.out).2.2.2.2.1, (st0_cells HG_w9.out).2.2.2.2.2.1, (st0_cells HG_w9.out).2.2.2.2.2.2.1, (st0_cells HG_w9.out).2.2.2.2.2.2.2.1, (st0_cells HG_w9.out).2.2.2.2.2.2.2.2.1, (st0_cells HG_w9.out).2.2.2.2.2.2.2.2.2⟩ (fun hHeld => ?_)
  clear hK K
  refine norm_ (a' := ?_) ?_ ?_
  rotate_left
  · show Act.put _ (some 37) _ = _
    simp only [Act.put, List.setIfInBounds_toArray, List.set_cons_zero, List.set_cons_succ, i64_w, i32_w]
    rfl
  refine pure_ (i := 4) (N := some 8) (v := ?_) (a' := ?_) #[T_,T_,T_,T_,T_] rfl rfl (by kernel_rfl) (fun _ _ _ h => h) (Or.inl ⟨by rfl, ?_⟩) ?_ ?_
  rotate_left
  · intro w'
    go_simp
    with_reducible rfl
  rotate_left
  · simp only [Act.put, List.setIfInBounds_toArray, List.set_cons_zero, List.set_cons_succ, i64_w, i32_w]
    rfl
  refine done_ (by kernel_rfl) ?_
  clear hHeld
  go_wp2_with fail
  refine (remoralaw33_sum.calls 40 97 (sumS 97) w9 (sum_f 97 (by decide))).mono ?_
  rintro e w10 ⟨rfl, hb10⟩
  have HL10 := Aside0.mk (HL_w9.out.below hb10)
  have HB10 := Aside0.mk (HB_w9.out.below hb10)
  clear hb10
  go_wp2_with fail
  refine (led_Paths.at_ _ p mb _ 2 _ _ w10 HL10.out).mono ?_
  rintro e w11 ⟨v11, rfl, hR11, hb11⟩
  have HB11 := Aside0.mk (HB10.out.below hb11)
  obtain ⟨A, c, rfl, hc, hC⟩ := Kd.R_reads hR11
  have hp : paths [lA, lC] = [bA, bC] := rfl
  rw [hp] at hC hc hR11 ⊢
  have HC11 := Aside0.mk hC
  have HCC := Aside0.mk hc
  have HT : remoraref17_Texts.f 10 [bA, bC] [bA, bC] = some true := by
    unfold remoraref17_Texts.f
    rw [if_pos rfl]
    simp only [remoraref17_Texts.l0, ByteArray.toList_eq]
    kernel_rfl
  have HTT := Aside0.mk (fun (w : World) (A : Option Addr) (c : Nat) (A2 : Option Addr) h1 h2 h3 => remoraref17_Texts.calls 10 A c [bA, bC] A2 2 [bA, bC] true w h1 h2 h3 (Nat.le_refl _) HT)
  clear hR11 hb11 hC hc hp HT
  go_wp2_with fail
  refine (HTT.out _ A c _ (Kd.C_alloc HC11.out _) HCC.out (two_C w11 bA bC)).mono ?_
  rintro e w12 ⟨rfl, hd12⟩
  have HB12 := Aside0.mk ((HB11.out.below (below_alloc (Below.refl _ _) _)).below hd12.below)
  clear hd12
  go_wp2
  go_ret
  exact ⟨by rfl, HB12.out.to HBB.out (Nat.le_refl _) HP0.out.1 HP0.out.2⟩

/-- A state of type 60 at block g of W; what its slices lead to came in by w0. -/
def IsS60 (w0 W : World) (g : Nat) (f0 : Int) (f1 : List (S71)) : Prop := ∃ A1 c1, W.heap[g]? = some (.cells #[.int .i64 f0, .slice A1 f1.length c1] 60 (0, 0)) ∧ w0.heap.size ≤ g ∧ Kd.C k71 w0 A1 f1.length f1
theorem IsS60.grown {w0 W : World} {g : Nat} {f0 : Int} {f1 : List (S71)} {W1 : World} {row : Option Nat} (h : IsS60 w0 W g f0 f1) (hw : W.grownBy W1 row) (hne : some g ≠ row) : IsS60 w0 W1 g f0 f1 := by
  obtain ⟨A1, c1, hb, hg, hr1⟩ := h
  exact ⟨A1, c1, blk_grown hb hw hne, hg, hr1⟩
theorem IsS60.kept {w0 W : World} {g : Nat} {f0 : Int} {f1 : List (S71)} {W1 : World} {S : Nat → Prop} (h : IsS60 w0 W g f0 f1) (hk : Kept W W1 S) (hne : ¬ S g) : IsS60 w0 W1 g f0 f1 := by
  obtain ⟨A1, c1, hb, hg, hr1⟩ := h
  exact ⟨A1, c1, blk_kept hb hk hne, hg, hr1⟩
theorem IsS60.below {w0 W : World} {g : Nat} {f0 : Int} {f1 : List (S71)} {W1 : World} (h : IsS60 w0 W g f0 f1) (hw : Below W.heap.size W W1) : IsS60 w0 W1 g f0 f1 := h.grown (grown_of_below hw none) (by simp)
theorem IsS60.alloc {w0 W : World} {g : Nat} {f0 : Int} {f1 : List (S71)} (h : IsS60 w0 W g f0 f1) (o : Obj) : IsS60 w0 (W.alloc o) g f0 f1 := h.below (below_alloc (Below.refl _ _) o)
theorem IsS60.drewN {w0 W : World} {g : Nat} {f0 : Int} {f1 : List (S71)} (h : IsS60 w0 W g f0 f1) (m : Nat) : IsS60 w0 (W.drewN m) g f0 f1 := h
theorem IsS60.drew {w0 W : World} {g : Nat} {f0 : Int} {f1 : List (S71)} (h : IsS60 w0 W g f0 f1) : IsS60 w0 W.drew g f0 f1 := h
theorem IsS60.at_ {w0 W : World} {g : Nat} {f0 : Int} {f1 : List (S71)} {w' : World} {m : Nat} (hq : W.drewN m = w') (h : IsS60 w0 W g f0 f1) : IsS60 w0 w' g f0 f1 := by subst hq; exact IsS60.drewN h m
theorem IsS60.lt {w0 W : World} {g : Nat} {f0 : Int} {f1 : List (S71)} (h : IsS60 w0 W g f0 f1) : g < W.heap.size := by
  obtain ⟨A1, c1, hb, hg, hr1⟩ := h
  exact blk_lt hb
/-! ### num_Size: function 58 -/
def num_Size.l0 : Nat → Int → Int → Option (Int)
  | 0, _, _ => none
  | k + 1, x0, x3 => if x0 > 127 then (num_Size.l0 k (x0 / 128) (wrap64 (x3 + 1))) else (some x3)
def num_Size.f (k : Nat) (a0 : Int) : Option (Int) := num_Size.l0 k (mn (mx a0 0) 4611686018427387903) 1
set_option maxHeartbeats 8000000 in
set_option maxRecDepth 100000 in
theorem num_Size.calls (k : Nat) (a0 : Int) (r : Int) (w : World) (h : num_Size.f k a0 = some r) :
    Calls Tryd.prog 58 #[.int .i64 a0] w fun e w' => e = .returned (.int .i64 r) ∧ Below w.heap.size w w' := by
  have HB := Aside0.mk (Below.refl w.heap.size w)
  have H : (num_Size.l0 k (mn (mx a0 0) 4611686018427387903) 1) = some r := h
  clear h
  obtain ⟨ji2, hji2⟩ : ∃ j_ : Int, (mx a0 0) = j_ := ⟨_, rfl⟩
  replace H : (num_Size.l0 k (mn (ji2) 4611686018427387903) 1) = some r := by first | (rw [hji2] at H; exact H) | (simp only [hji2] at H ⊢; exact H)
  (try (have hji2l : 0 ≤ ji2 := by (rw [← hji2]; unfold mx; (repeat' split) <;> omega)))
  (try (have hji2m : 0 ≤ ji2 := by omega))
  have hji2_ : (if a0 < 0 then 0 else a0) = ji2 := hji2
  obtain ⟨ji3, hji3⟩ : ∃ j_ : Int, (mn (ji2) 4611686018427387903) = j_ := ⟨_, rfl⟩
  replace H : (num_Size.l0 k ji3 1) = some r := by first | (rw [hji3] at H; exact H) | (simp only [hji3] at H ⊢; exact H)
  have hji3_ : (if 4611686018427387903 < (ji2) then 4611686018427387903 else (ji2)) = ji3 := hji3
  have H' := Aside0.mk H
  clear H
  go_enter Tryd.func58, Tryd.ntmps58
  go_wp2
  go_loopg [0, 3] k (fun kq v0 v3 w' => ∃ (x0_1 : Int) (x3_1 : Int), v0 = .int .i64 x0_1 ∧ v3 = .int .i64 x3_1 ∧ Aside0 (num_Size.l0 kq x0_1 x3_1 = some r) ∧ Aside0 (kq ≤ k) ∧ Aside0 (Below w.heap.size w w'))
  case atStart => exact ⟨(ji3), (1), (by first | rfl | (simp; done) | (simp only [← hji3] <;> (first | rfl | simp)) | (simp [*]; done)), (by first | rfl | (simp; done) | (simp [*]; done)), H', ⟨Nat.le_refl _⟩, ⟨by repeat (first | (with_reducible first | exact HB.out | apply below_alloc | apply pw_below_drewN | apply below_drew1) | exact HB.out)⟩⟩
  case round =>
    clear H'
    try clear p2
    obtain ⟨x0_1, x3_1, rfl, rfl, HA, HK1, HB⟩ := hrel
    cases gk with
    | zero => exact absurd HA.out (by simp [num_Size.l0])
    | succ k1 =>
      have H := HA.out
      clear HA
      simp only [num_Size.l0] at H
      by_cases c4 : x0_1 > 127
      · rw [if_pos c4] at H
        have c4b0 : decide (127 < x0_1) = true := decide_eq_true c4
        clear c4
        have H' := Aside0.mk H
        clear H
        go_wp2
        go_roundg k1
        case measure => have := HK1.out; omega
        case rel => exact ⟨(x0_1 / 128), (wrap64 (x3_1 + 1)), (by first | rfl | (simp; done) | (simp [*]; done)), (by first | rfl | (simp; done) | (simp [*]; done)), H', ⟨by have := HK1.out; omega⟩, ⟨by repeat (first | (with_reducible first | exact HB.out | apply below_alloc | apply pw_below_drewN | apply below_drew1) | exact HB.out)⟩⟩
      · rw [if_neg c4] at H
        have c4b0 : decide (127 < x0_1) = false := decide_eq_false c4
        clear c4
        obtain rfl := Option.some.inj H
        go_wp2
        go_ret
        exact ⟨by first | rfl | (simp [errW_none, errW_some] <;> rfl) | (simp only [← hji2, ← hji3]; first | rfl | (simp [errW_none, errW_some] <;> rfl)) | (simp [*, errW_none, errW_some] <;> rfl), by repeat (first | (with_reducible first | exact HB.out | apply below_alloc | apply pw_below_drewN | apply below_drew1) | exact HB.out)⟩

/-! ### num_Put: function 30 -/
def num_Put.l0 : Nat → Int → List Int → Int → Int → Option (List Int)
  | 0, _, _, _, _ => none
  | k + 1, x1, x5, x19, x20 => if x20 < x19 then (if x5.length < 140737488355328 then (num_Put.l0 k (x1 / 128) (x5 ++ [(Go.bits .or .i64 (Go.bits .and .i64 x1 127) 128) % 256]) x19 (wrap64 (x20 + 1))) else (none)) else (if x5.length < 140737488355328 then (some (x5 ++ [(x1) % 256])) else (none))
def num_Put.f (k : Nat) (l0 : List Int) (a1 : Int) : Option (List Int) := (num_Size.f k (mn (mx a1 0) 4611686018427387903)).bind fun t159 => (if 0 ≤ (wrap64 ((l0.length : Int) + t159)) then (if (wrap64 ((l0.length : Int) + t159) : Int).toNat ≤ 281474976710656 then ((some (([] : List Int) : List Int)).bind fun y160 => (if y160.length + l0.length < 140737488355328 then ((num_Size.f k (mn (mx a1 0) 4611686018427387903)).bind fun t166 => (num_Put.l0 k (mn (mx a1 0) 4611686018427387903) (y160 ++ l0) (wrap64 (t166 - 1)) 0)) else (none))) else (none)) else (none))
set_option maxHeartbeats 8000000 in
set_option maxRecDepth 100000 in
theorem num_Put.calls (k : Nat) (A0 : Option Addr) (c0 : Nat) (l0 : List Int) (a1 : Int) (r : List Int) (w : World) (hr0 : Kd.C (Kd.int .u8) w A0 l0.length l0) (hc0 : l0.length ≤ c0) (h : num_Put.f k l0 a1 = some r) :
    Calls Tryd.prog 30 #[.slice A0 l0.length c0, .int .i64 a1] w fun e w' => ∃ v0_ : Value, e = .returned (v0_) ∧ Kd.R (Kd.int .u8) 5 w' w.heap.size (fun _ => True) v0_ r ∧ Below w.heap.size w w' := by
  have HR0 := Aside0.mk hr0
  have HC0 := Aside0.mk hc0
  clear hr0 hc0
  have HB := Aside0.mk (Below.refl w.heap.size w)
  have H : ((num_Size.f k (mn (mx a1 0) 4611686018427387903)).bind fun t159 => (if 0 ≤ (wrap64 ((l0.length : Int) + t159)) then (if (wrap64 ((l0.length : Int) + t159) : Int).toNat ≤ 281474976710656 then ((some (([] : List Int) : List Int)).bind fun y160 => (if y160.length + l0.length < 140737488355328 then ((num_Size.f k (mn (mx a1 0) 4611686018427387903)).bind fun t166 => (num_Put.l0 k (mn (mx a1 0) 4611686018427387903) (y160 ++ l0) (wrap64 (t166 - 1)) 0)) else (none))) else (none)) else (none))) = some r := h
  clear h
  obtain ⟨ji3, hji3⟩ : ∃ j_ : Int, (mx a1 0) = j_ := ⟨_, rfl⟩
  replace H : ((num_Size.f k (mn (ji3) 4611686018427387903)).bind fun t159 => (if 0 ≤ (wrap64 ((l0.length : Int) + t159)) then (if (wrap64 ((l0.length : Int) + t159) : Int).toNat ≤ 281474976710656 then ((some (([] : List Int) : List Int)).bind fun y160 => (if y160.length + l0.length < 140737488355328 then ((num_Size.f k (mn (ji3) 4611686018427387903)).bind fun t166 => (num_Put.l0 k (mn (ji3) 4611686018427387903) (y160 ++ l0) (wrap64 (t166 - 1)) 0)) else (none))) else (none)) else (none))) = some r := by first | (rw [hji3] at H; exact H) | (simp only [hji3] at H ⊢; exact H)
  (try (have hji3l : 0 ≤ ji3 := by (rw [← hji3]; unfold mx; (repeat' split) <;> omega)))
  (try (have hji3m : 0 ≤ ji3 := by omega))
  have hji3_ : (if a1 < 0 then 0 else a1) = ji3 := hji3
  obtain ⟨ji4, hji4⟩ : ∃ j_ : Int, (mn (ji3) 4611686018427387903) = j_ := ⟨_, rfl⟩
  replace H : ((num_Size.f k (ji4)).bind fun t159 => (if 0 ≤ (wrap64 ((l0.length : Int) + t159)) then (if (wrap64 ((l0.length : Int) + t159) : Int).toNat ≤ 281474976710656 then ((some (([] : List Int) : List Int)).bind fun y160 => (if y160.length + l0.length < 140737488355328 then ((num_Size.f k (ji4)).bind fun t166 => (num_Put.l0 k ji4 (y160 ++ l0) (wrap64 (t166 - 1)) 0)) else (none))) else (none)) else (none))) = some r := by first | (rw [hji4] at H; exact H) | (simp only [hji4] at H ⊢; exact H)
  have hji4_ : (if 4611686018427387903 < (ji3) then 4611686018427387903 else (ji3)) = ji4 := hji4
  replace H := Option.bind_eq_some_iff.mp H
  obtain ⟨t159, A50, H⟩ := H
  replace H : (if 0 ≤ (wrap64 ((l0.length : Int) + t159)) then (if (wrap64 ((l0.length : Int) + t159) : Int).toNat ≤ 281474976710656 then ((some (([] : List Int) : List Int)).bind fun y160 => (if y160.length + l0.length < 140737488355328 then ((num_Size.f k (ji4)).bind fun t166 => (num_Put.l0 k ji4 (y160 ++ l0) (wrap64 (t166 - 1)) 0)) else (none))) else (none)) else (none)) = some r := H
  have A5 := Aside0.mk A50
  clear A50
  obtain ⟨ji6, hji6⟩ : ∃ j_ : Int, (wrap64 ((l0.length : Int) + t159)) = j_ := ⟨_, rfl⟩
  replace H : (if 0 ≤ (ji6) then (if (ji6 : Int).toNat ≤ 281474976710656 then ((some (([] : List Int) : List Int)).bind fun y160 => (if y160.length + l0.length < 140737488355328 then ((num_Size.f k (ji4)).bind fun t166 => (num_Put.l0 k ji4 (y160 ++ l0) (wrap64 (t166 - 1)) 0)) else (none))) else (none)) else (none)) = some r := by first | (rw [hji6] at H; exact H) | (simp only [hji6] at H ⊢; exact H)
  (try rw [hji6] at A5)
  have hji6w : (IntKind.i64.wrap ((l0.length : Int) + t159)) = ji6 := (i64_w _).trans hji6
  by_cases c7 : 0 ≤ (ji6)
  · rw [if_pos c7] at H
    have c7b0 := eq_true c7
    have c7b1 : decide (0 ≤ (ji6)) = true := decide_eq_true c7
    clear c7
    by_cases c8 : (ji6 : Int).toNat ≤ 281474976710656
    · rw [if_pos c8] at H
      have c8b0 := eq_true c8
      have c8b1 : decide ((ji6 : Int).toNat ≤ 281474976710656) = true := decide_eq_true c8
      clear c8
      obtain ⟨y160, hy160⟩ : ∃ y_ : List Int, y_ = (([] : List Int)) := ⟨_, rfl⟩
      replace H : (if y160.length + l0.length < 140737488355328 then ((num_Size.f k (ji4)).bind fun t166 => (num_Put.l0 k ji4 (y160 ++ l0) (wrap64 (t166 - 1)) 0)) else (none)) = some r := by first | (rw [hy160]; with_reducible exact H) | (have H2_ := (Option.bind_some _ _).symm.trans H; rw [hy160]; with_reducible exact H2_) | (have H2_ := (Option.bind_some _ _).symm.trans H; with_reducible exact H2_) | with_reducible exact H | (rw [hy160]; exact H) | exact H
      have Ny160 := Aside0.mk hy160
      clear hy160
      by_cases c9 : y160.length + l0.length < 140737488355328
      · rw [if_pos c9] at H
        have LMc9 := Aside0.mk c9
        clear c9
        obtain ⟨y163, hy163⟩ : ∃ y_ : List Int, y_ = (y160 ++ l0) := ⟨_, rfl⟩
        replace H : ((num_Size.f k (ji4)).bind fun t166 => (num_Put.l0 k ji4 y163 (wrap64 (t166 - 1)) 0)) = some r := by first | (rw [hy163]; with_reducible exact H) | (have H2_ := (Option.bind_some _ _).symm.trans H; rw [hy163]; with_reducible exact H2_) | (have H2_ := (Option.bind_some _ _).symm.trans H; with_reducible exact H2_) | with_reducible exact H | (rw [hy163]; exact H) | exact H
        have Ny163 := Aside0.mk hy163
        clear hy163
        replace H := Option.bind_eq_some_iff.mp H
        obtain ⟨t166, A100, H⟩ := H
        replace H : (num_Put.l0 k ji4 y163 (wrap64 (t166 - 1)) 0) = some r := H
        have A10 := Aside0.mk A100
        clear A100
        have H' := Aside0.mk H
        clear H
        go_enter Tryd.func30, Tryd.ntmps30
        go_wp2_with (first | ((with_reducible refine gate_callee (f := 58) rfl ?_); refine goesL_ (some 12) rfl rfl Tryd.func58 (by kernel_rfl) rfl #[.int .i64 ji4] rfl (by (try simp only [List.map_toArray, List.map_cons, List.map_nil]); first | done | (simp only [hji4]; rfl) | rfl | (simp only [List.length_drop, List.length_take]; rfl) | (simp; done) | (simp; (repeat' apply And.intro) <;> rfl)) ?_; (with_reducible refine (num_Size.calls k ji4 t159 _ A5.out).mono ?_); rintro e w11 ⟨rfl, hb⟩; refine ⟨_, rfl, ?_⟩; have n0_ := Aside0.mk (below_step (by repeat (first | (with_reducible first | exact HB.out | apply below_alloc | apply pw_below_drewN | apply below_drew1) | exact HB.out)) hb); clear HB; have HB := n0_; clear n0_; (try clear hb); (try clear hb2); (try clear hk); (try clear hi)) | ((with_reducible refine gate_dst (N := 14) rfl ?_); refine Kd.R_makecap (Kd.int .u8) _ 5 rfl (N := 14) rfl 41 _ _ rfl ji6 rfl rfl Tryd.underlying41 (.int .u8 0) 1 info5 rfl (by decide) (by omega) 0 (ok := fun _ => True) (okp := fun _ => True) rfl (fun _ hk => hk) trivial (of_decide_eq_true (by first | (with_reducible assumption) | assumption)) (Nat.le_trans (Nat.mul_le_mul_right _ (of_decide_eq_true (by first | (with_reducible assumption) | assumption) : ji6.toNat ≤ 281474976710656)) (by omega)) (Below.refl _ _) (Nat.le_refl _) ?_; intro v161 w12 ho13 hb hg_ hnew_; clear hg_ hnew_; (first | rw [← Ny160.out] at ho13 | (simp only [Int.reduceToNat] at ho13; rw [← Ny160.out] at ho13)); have n0_ := Aside0.mk (Kd.R_lower ho13 (below_size (by repeat (first | (with_reducible first | exact HB.out | apply below_alloc | apply pw_below_drewN | apply below_drew1) | exact HB.out)))); have n1_ := Aside0.mk (below_step (by repeat (first | (with_reducible first | exact HB.out | apply below_alloc | apply pw_below_drewN | apply below_drew1) | exact HB.out)) hb); clear HB; have HO162 := n0_; have HB := n1_; clear n0_ n1_; clear hb ho13) | ((with_reducible refine gate_builtin (b := .append) (xs := #[.tmp 14, .tmp 15]) rfl ?_); at_builtin; refine Kd.R_append_rows (Kd.int .u8) (w0 := w) w.heap.size rfl (.tmp 14) (.tmp 15) 41 5 (.int .u8 0) 1 rfl Tryd.underlying41 info5 rfl (by decide) (by omega) v161 y160 l0 _ _ _ (fun _ => True) (fun _ => False) rfl rfl ?aO ?aR (fun _ _ h => h) (fun _ h => h.elim) ?aF ?aB ?aS ?aL ?_; (case aR => repeat (first | exact (Kd.C_below HR0.out HB.out) | (with_reducible refine Kd.C_alloc ?_ _) | (with_reducible refine Kd.C_drewN ?_ _) | (with_reducible refine Kd.C_drew ?_))); (case aB => exact (by repeat (first | (with_reducible first | exact HB.out | apply below_alloc | apply pw_below_drewN | apply below_drew1) | exact HB.out))); (case aF => exact (fun _ _ => trivial)); (case aO => exact (by (with_reducible repeat (first | apply Kd.R_alloc | apply Kd.R_drewN | apply Kd.R_drew)); exact HO162.out)); (case aS => exact (below_size (by repeat (first | (with_reducible first | exact HB.out | apply below_alloc | apply pw_below_drewN | apply below_drew1) | exact HB.out)))); (case aL => have := LMc9.out; omega); intro v164 w14 ho hb hg hat; rw [← Ny163.out] at ho; have n0_ := Aside0.mk (hb); have n1_ := Aside0.mk (ho); clear HB; clear HO162; have HB := n0_; have HO165 := n1_; clear n0_ n1_; clear ho hb hg hat) | ((with_reducible refine gate_callee (f := 58) rfl ?_); refine goesL_ (some 18) rfl rfl Tryd.func58 (by kernel_rfl) rfl #[.int .i64 ji4] rfl (by (try simp only [List.map_toArray, List.map_cons, List.map_nil]); first | done | (simp only [hji4]; rfl) | rfl | (simp only [List.length_drop, List.length_take]; rfl) | (simp; done) | (simp; (repeat' apply And.intro) <;> rfl)) ?_; (with_reducible refine (num_Size.calls k ji4 t166 _ A10.out).mono ?_); rintro e w15 ⟨rfl, hb⟩; refine ⟨_, rfl, ?_⟩; have n0_ := Aside0.mk (Kd.R_below (by (with_reducible repeat (first | apply Kd.R_alloc | apply Kd.R_drewN | apply Kd.R_drew)); exact HO165.out) hb); have n1_ := Aside0.mk (below_step (by repeat (first | (with_reducible first | exact HB.out | apply below_alloc | apply pw_below_drewN | apply below_drew1) | exact HB.out)) hb); clear HO165; clear HB; have HO165 := n0_; have HB := n1_; clear n0_ n1_; (try clear hb); (try clear hb2); (try clear hk); (try clear hi)))
        go_loopg [1, 5, 20] k (fun kq v1 v5 v20 w' => ∃ (x1_1 : Int) (x5_1 : List Int) (x20_1 : Int), v1 = .int .i64 x1_1 ∧ v20 = .int .i64 x20_1 ∧ Aside0 (num_Put.l0 kq x1_1 x5_1 (wrap64 (t166 - 1)) x20_1 = some r) ∧ Aside0 (kq ≤ k) ∧ Aside0 (Kd.R (Kd.int .u8) 5 w' w.heap.size (fun _ => True) v5 x5_1) ∧ Aside0 (Below w.heap.size w w'))
        case atStart => exact ⟨(ji4), (y163), (0), (by first | rfl | (simp; done) | (simp only [← hji4] <;> (first | rfl | simp)) | (simp [*]; done)), (by first | rfl | (simp; done) | (simp [*]; done)), H', ⟨Nat.le_refl _⟩, ⟨by (with_reducible repeat (first | apply Kd.R_alloc | apply Kd.R_drewN | apply Kd.R_drew)); exact HO165.out⟩, ⟨by repeat (first | (with_reducible first | exact HB.out | apply below_alloc | apply pw_below_drewN | apply below_drew1) | exact HB.out)⟩⟩
        case round =>
          clear H'
          try clear p2
          try clear c3
          try clear c5
          try clear p6
          try clear c7
          try clear c7b0
          try clear c7b1
          try clear c8
          try clear c8b0
          try clear c8b1
          try clear c9
          obtain ⟨x1_1, x5_1, x20_1, rfl, rfl, HA, HK1, HO_5, HB⟩ := hrel
          cases gk with
          | zero => exact absurd HA.out (by simp [num_Put.l0])
          | succ k1 =>
            have H := HA.out
            clear HA
            simp only [num_Put.l0] at H
            by_cases c16 : x20_1 < (wrap64 (t166 - 1))
            · rw [if_pos c16] at H
              have c16b0 : decide (x20_1 < (wrap64 (t166 - 1))) = true := decide_eq_true c16
              clear c16
              by_cases c17 : x5_1.length < 140737488355328
              · rw [if_pos c17] at H
                have LMc17 := Aside0.mk c17
                clear c17
                obtain ⟨y167, hy167⟩ : ∃ y_ : List Int, y_ = (x5_1 ++ [(Go.bits .or .i64 (Go.bits .and .i64 x1_1 127) 128) % 256]) := ⟨_, rfl⟩
                replace H : (num_Put.l0 k1 (x1_1 / 128) y167 (wrap64 (t166 - 1)) (wrap64 (x20_1 + 1))) = some r := by first | (rw [hy167]; with_reducible exact H) | (have H2_ := (Option.bind_some _ _).symm.trans H; rw [hy167]; with_reducible exact H2_) | (have H2_ := (Option.bind_some _ _).symm.trans H; with_reducible exact H2_) | with_reducible exact H | (rw [hy167]; exact H) | exact H
                have Ny167 := Aside0.mk hy167
                clear hy167
                have H' := Aside0.mk H
                clear H
                go_wp2_with (first | ((with_reducible refine gate_builtin (b := .append) (xs := #[.tmp 22, .tmp 27]) rfl ?_); at_builtin; refine Kd.R_append (Kd.int .u8) (w0 := w) w.heap.size rfl (.tmp 22) (.tmp 27) 41 5 (.int .u8 0) 1 rfl Tryd.underlying41 info5 rfl (by decide) (by omega) u5 x5_1 ((Go.bits .or .i64 (Go.bits .and .i64 x1_1 127) 128) % 256) [.int .u8 ((Go.bits .or .i64 (Go.bits .and .i64 x1_1 127) 128) % 256)] (fun _ => True) (fun _ => False) rfl rfl ?aP (fun _ hk => hk.elim) ?aF ?aO ?aB ?aS ?aL ?_; (case aP => exact rfl); (case aB => exact (by repeat (first | (with_reducible first | exact HB.out | apply below_alloc | apply pw_below_drewN | apply below_drew1) | exact HB.out))); (case aF => exact (fun _ _ => trivial)); (case aO => exact (by (with_reducible repeat (first | apply Kd.R_alloc | apply Kd.R_drewN | apply Kd.R_drew)); exact HO_5.out)); (case aS => exact (below_size (by repeat (first | (with_reducible first | exact HB.out | apply below_alloc | apply pw_below_drewN | apply below_drew1) | exact HB.out)))); (case aL => have := LMc17.out; omega); intro v168 w18 ho hb hg hat; rw [← Ny167.out] at ho; have n0_ := Aside0.mk (hb); have n1_ := Aside0.mk (ho); clear HB; clear HO_5; have HB := n0_; have HO169 := n1_; clear n0_ n1_; clear ho hb hg hat))
                go_roundg k1
                case measure => have := HK1.out; omega
                case rel => exact ⟨(x1_1 / 128), (y167), (wrap64 (x20_1 + 1)), (by first | rfl | (simp; done) | (simp [*]; done)), (by first | rfl | (simp; done) | (simp [*]; done)), H', ⟨by have := HK1.out; omega⟩, ⟨by (with_reducible repeat (first | apply Kd.R_alloc | apply Kd.R_drewN | apply Kd.R_drew)); exact HO169.out⟩, ⟨by repeat (first | (with_reducible first | exact HB.out | apply below_alloc | apply pw_below_drewN | apply below_drew1) | exact HB.out)⟩⟩
              · rw [if_neg c17] at H
                exact absurd H (by simp)
            · rw [if_neg c16] at H
              have c16b0 : decide (x20_1 < (wrap64 (t166 - 1))) = false := decide_eq_false c16
              clear c16
              by_cases c19 : x5_1.length < 140737488355328
              · rw [if_pos c19] at H
                have LMc19 := Aside0.mk c19
                clear c19
                obtain ⟨y170, hy170⟩ : ∃ y_ : List Int, y_ = (x5_1 ++ [(x1_1) % 256]) := ⟨_, rfl⟩
                replace H : (some y170) = some r := by first | (rw [hy170]; with_reducible exact H) | (have H2_ := (Option.bind_some _ _).symm.trans H; rw [hy170]; with_reducible exact H2_) | (have H2_ := (Option.bind_some _ _).symm.trans H; with_reducible exact H2_) | with_reducible exact H | (rw [hy170]; exact H) | exact H
                have Ny170 := Aside0.mk hy170
                clear hy170
                obtain rfl := Option.some.inj H
                go_wp2_with (first | ((with_reducible refine gate_builtin (b := .append) (xs := #[.tmp 32, .tmp 35]) rfl ?_); at_builtin; refine Kd.R_append (Kd.int .u8) (w0 := w) w.heap.size rfl (.tmp 32) (.tmp 35) 41 5 (.int .u8 0) 1 rfl Tryd.underlying41 info5 rfl (by decide) (by omega) u5 x5_1 ((x1_1) % 256) [.int .u8 ((x1_1) % 256)] (fun _ => True) (fun _ => False) rfl rfl ?aP (fun _ hk => hk.elim) ?aF ?aO ?aB ?aS ?aL ?_; (case aP => exact rfl); (case aB => exact (by repeat (first | (with_reducible first | exact HB.out | apply below_alloc | apply pw_below_drewN | apply below_drew1) | exact HB.out))); (case aF => exact (fun _ _ => trivial)); (case aO => exact (by (with_reducible repeat (first | apply Kd.R_alloc | apply Kd.R_drewN | apply Kd.R_drew)); exact HO_5.out)); (case aS => exact (below_size (by repeat (first | (with_reducible first | exact HB.out | apply below_alloc | apply pw_below_drewN | apply below_drew1) | exact HB.out)))); (case aL => have := LMc19.out; omega); intro v171 w20 ho hb hg hat; rw [← Ny170.out] at ho; have n0_ := Aside0.mk (hb); have n1_ := Aside0.mk (ho); clear HB; clear HO_5; have HB := n0_; have HO172 := n1_; clear n0_ n1_; clear ho hb hg hat))
                go_ret
                exact ⟨_, by first | rfl | (simp [errW_none, errW_some] <;> rfl) | (simp only [← hji3, ← hji4, ← hji6]; first | rfl | (simp [errW_none, errW_some] <;> rfl)) | (simp [*, errW_none, errW_some] <;> rfl), by (with_reducible repeat (first | apply Kd.R_alloc | apply Kd.R_drewN | apply Kd.R_drew)); exact HO172.out, by repeat (first | (with_reducible first | exact HB.out | apply below_alloc | apply pw_below_drewN | apply below_drew1) | exact HB.out)⟩
              · rw [if_neg c19] at H
                exact absurd H (by simp)
      · rw [if_neg c9] at H
        exact absurd H (by simp)
    · rw [if_neg c8] at H
      exact absurd H (by simp)
  · rw [if_neg c7] at H
    exact absurd H (by simp)

/-! ### num_PutText: function 31 -/
def num_PutText.f (k : Nat) (l0 : List Int) (a1 : ByteArray) : Option (List Int) := (num_Put.f k l0 (a1.size : Int)).bind fun t173 => (if t173.length + a1.size < 140737488355328 then (some (t173 ++ bytesOf a1)) else (none))
set_option maxHeartbeats 8000000 in
set_option maxRecDepth 100000 in
theorem num_PutText.calls (k : Nat) (A0 : Option Addr) (c0 : Nat) (l0 : List Int) (a1 : ByteArray) (r : List Int) (w : World) (hr0 : Kd.C (Kd.int .u8) w A0 l0.length l0) (hc0 : l0.length ≤ c0) (h : num_PutText.f k l0 a1 = some r) :
    Calls Tryd.prog 31 #[.slice A0 l0.length c0, .string a1] w fun e w' => ∃ v0_ : Value, e = .returned (v0_) ∧ Kd.R (Kd.int .u8) 5 w' w.heap.size (fun _ => True) v0_ r ∧ Below w.heap.size w w' := by
  have HR0 := Aside0.mk hr0
  have HC0 := Aside0.mk hc0
  clear hr0 hc0
  have HB := Aside0.mk (Below.refl w.heap.size w)
  have H : ((num_Put.f k l0 (a1.size : Int)).bind fun t173 => (if t173.length + a1.size < 140737488355328 then (some (t173 ++ bytesOf a1)) else (none))) = some r := h
  clear h
  replace H := Option.bind_eq_some_iff.mp H
  obtain ⟨t173, A30, H⟩ := H
  replace H : (if t173.length + a1.size < 140737488355328 then (some (t173 ++ bytesOf a1)) else (none)) = some r := H
  have A3 := Aside0.mk A30
  clear A30
  by_cases c4 : t173.length + a1.size < 140737488355328
  · rw [if_pos c4] at H
    have LMc4 := Aside0.mk c4
    clear c4
    obtain ⟨y176, hy176⟩ : ∃ y_ : List Int, y_ = (t173 ++ bytesOf a1) := ⟨_, rfl⟩
    replace H : (some y176) = some r := by first | (rw [hy176]; with_reducible exact H) | (have H2_ := (Option.bind_some _ _).symm.trans H; rw [hy176]; with_reducible exact H2_) | (have H2_ := (Option.bind_some _ _).symm.trans H; with_reducible exact H2_) | with_reducible exact H | (rw [hy176]; exact H) | exact H
    have Ny176 := Aside0.mk hy176
    clear hy176
    obtain rfl := Option.some.inj H
    go_enter Tryd.func31, Tryd.ntmps31
    go_wp2_with (first | ((with_reducible refine gate_callee (f := 30) rfl ?_); refine goesL_ (some 8) rfl rfl Tryd.func30 (by kernel_rfl) rfl #[.slice A0 l0.length c0, .int .i64 (a1.size : Int)] rfl (by (try simp only [List.map_toArray, List.map_cons, List.map_nil]); first | done | rfl | (simp only [List.length_drop, List.length_take]; rfl) | (simp; done) | (simp; (repeat' apply And.intro) <;> rfl)) ?_; (with_reducible refine (num_Put.calls k _ _ l0 (a1.size : Int) t173 _ ?side1 ?side2 A3.out).mono ?_); (case side1 => repeat (first | exact HR0.out | (with_reducible refine Kd.C_alloc ?_ _) | (with_reducible refine Kd.C_drewN ?_ _) | (with_reducible refine Kd.C_drew ?_))); (case side2 => exact HC0.out); rintro e w5 ⟨v174, rfl, ho0, hb⟩; refine ⟨_, rfl, ?_⟩; have n0_ := Aside0.mk (Kd.R_lower ho0 (below_size (by repeat (first | (with_reducible first | exact HB.out | apply below_alloc | apply pw_below_drewN | apply below_drew1) | exact HB.out)))); have n1_ := Aside0.mk (below_step (by repeat (first | (with_reducible first | exact HB.out | apply below_alloc | apply pw_below_drewN | apply below_drew1) | exact HB.out)) hb); clear HB; have HO175 := n0_; have HB := n1_; clear n0_ n1_; (try clear hb); (try clear hb2); (try clear hk); (try clear hi); (try clear ho0)) | (at_builtin; refine print_append_str (w0 := w) w.heap.size rfl (.tmp 8) _ 41 9 5 rfl Tryd.underlying41 Tryd.underlying9 info5 v174 t173 a1 rfl rfl ?aO ?aB ?aS ?aL ?_; (case aB => exact (by repeat (first | (with_reducible first | exact HB.out | apply below_alloc | apply pw_below_drewN | apply below_drew1) | exact HB.out))); (case aO => exact (Kd.own_of_R (by (with_reducible repeat (first | apply Kd.R_alloc | apply Kd.R_drewN | apply Kd.R_drew)); exact HO175.out))); (case aS => exact (below_size (by repeat (first | (with_reducible first | exact HB.out | apply below_alloc | apply pw_below_drewN | apply below_drew1) | exact HB.out)))); (case aL => have := LMc4.out; omega); intro v177 w6 ho0 hb hg; have ho := Kd.R_of_own (h1 := fun _ => rfl) (ok := fun _ => True) ho0 (fun _ _ => trivial); clear ho0; have hat := True.intro; rw [← Ny176.out] at ho; change Kd.R (Kd.int .u8) 5 w6 w.heap.size (fun _ => True) v177 y176 at ho; have n0_ := Aside0.mk (hb); have n1_ := Aside0.mk (ho); clear HB; clear HO175; have HB := n0_; have HO178 := n1_; clear n0_ n1_; clear ho hb hg hat))
    go_ret
    exact ⟨_, by first | rfl | (simp [errW_none, errW_some] <;> rfl) | (simp [*, errW_none, errW_some] <;> rfl), by (with_reducible repeat (first | apply Kd.R_alloc | apply Kd.R_drewN | apply Kd.R_drew)); exact HO178.out, by repeat (first | (with_reducible first | exact HB.out | apply below_alloc | apply pw_below_drewN | apply below_drew1) | exact HB.out)⟩
  · rw [if_neg c4] at H
    exact absurd H (by simp)

/-! ### num_PutInt: function 32 -/
def num_PutInt.f (k : Nat) (l0 : List Int) (a1 : Int) : Option (List Int) := if (mn (mx a1 (-2305843009213693952)) 2305843009213693951) < 0 then ((num_Put.f k l0 (((-2) * (mn (mx a1 (-2305843009213693952)) 2305843009213693951)) - 1)).bind fun t179 => (some t179)) else ((num_Put.f k l0 (2 * (mn (mx a1 (-2305843009213693952)) 2305843009213693951))).bind fun t182 => (some t182))
set_option maxHeartbeats 8000000 in
set_option maxRecDepth 100000 in
theorem num_PutInt.calls (k : Nat) (A0 : Option Addr) (c0 : Nat) (l0 : List Int) (a1 : Int) (r : List Int) (w : World) (hr0 : Kd.C (Kd.int .u8) w A0 l0.length l0) (hc0 : l0.length ≤ c0) (h : num_PutInt.f k l0 a1 = some r) :
    Calls Tryd.prog 32 #[.slice A0 l0.length c0, .int .i64 a1] w fun e w' => ∃ v0_ : Value, e = .returned (v0_) ∧ Kd.R (Kd.int .u8) 5 w' w.heap.size (fun _ => True) v0_ r ∧ Below w.heap.size w w' := by
  have HR0 := Aside0.mk hr0
  have HC0 := Aside0.mk hc0
  clear hr0 hc0
  have HB := Aside0.mk (Below.refl w.heap.size w)
  have H : (if (mn (mx a1 (-2305843009213693952)) 2305843009213693951) < 0 then ((num_Put.f k l0 (((-2) * (mn (mx a1 (-2305843009213693952)) 2305843009213693951)) - 1)).bind fun t179 => (some t179)) else ((num_Put.f k l0 (2 * (mn (mx a1 (-2305843009213693952)) 2305843009213693951))).bind fun t182 => (some t182))) = some r := h
  clear h
  obtain ⟨ji3, hji3⟩ : ∃ j_ : Int, (mx a1 (-2305843009213693952)) = j_ := ⟨_, rfl⟩
  replace H : (if (mn (ji3) 2305843009213693951) < 0 then ((num_Put.f k l0 (((-2) * (mn (ji3) 2305843009213693951)) - 1)).bind fun t179 => (some t179)) else ((num_Put.f k l0 (2 * (mn (ji3) 2305843009213693951))).bind fun t182 => (some t182))) = some r := by first | (rw [hji3] at H; exact H) | (simp only [hji3] at H ⊢; exact H)
  have hji3_ : (if a1 < (-2305843009213693952) then (-2305843009213693952) else a1) = ji3 := hji3
  obtain ⟨ji4, hji4⟩ : ∃ j_ : Int, (mn (ji3) 2305843009213693951) = j_ := ⟨_, rfl⟩
  replace H : (if (ji4) < 0 then ((num_Put.f k l0 (((-2) * (ji4)) - 1)).bind fun t179 => (some t179)) else ((num_Put.f k l0 (2 * (ji4))).bind fun t182 => (some t182))) = some r := by first | (rw [hji4] at H; exact H) | (simp only [hji4] at H ⊢; exact H)
  have hji4_ : (if 2305843009213693951 < (ji3) then 2305843009213693951 else (ji3)) = ji4 := hji4
  by_cases c5 : (ji4) < 0
  · rw [if_pos c5] at H
    have c5b0 : decide ((ji4) < 0) = true := decide_eq_true c5
    clear c5
    replace H := Option.bind_eq_some_iff.mp H
    obtain ⟨t179, A60, H⟩ := H
    replace H : (some t179) = some r := H
    have A6 := Aside0.mk A60
    clear A60
    obtain rfl := Option.some.inj H
    go_enter Tryd.func32, Tryd.ntmps32
    go_wp2_with (first | ((with_reducible refine gate_callee (f := 30) rfl ?_); refine goesL_ (some 14) rfl rfl Tryd.func30 (by kernel_rfl) rfl #[.slice A0 l0.length c0, .int .i64 (((-2) * (ji4)) - 1)] rfl (by (try simp only [List.map_toArray, List.map_cons, List.map_nil]); first | done | (simp only [hji4]; rfl) | rfl | (simp only [List.length_drop, List.length_take]; rfl) | (simp; done) | (simp; (repeat' apply And.intro) <;> rfl)) ?_; (with_reducible refine (num_Put.calls k _ _ l0 (((-2) * (ji4)) - 1) t179 _ ?side1 ?side2 A6.out).mono ?_); (case side1 => repeat (first | exact HR0.out | (with_reducible refine Kd.C_alloc ?_ _) | (with_reducible refine Kd.C_drewN ?_ _) | (with_reducible refine Kd.C_drew ?_))); (case side2 => exact HC0.out); rintro e w7 ⟨v180, rfl, ho0, hb⟩; refine ⟨_, rfl, ?_⟩; have n0_ := Aside0.mk (Kd.R_lower ho0 (below_size (by repeat (first | (with_reducible first | exact HB.out | apply below_alloc | apply pw_below_drewN | apply below_drew1) | exact HB.out)))); have n1_ := Aside0.mk (below_step (by repeat (first | (with_reducible first | exact HB.out | apply below_alloc | apply pw_below_drewN | apply below_drew1) | exact HB.out)) hb); clear HB; have HO181 := n0_; have HB := n1_; clear n0_ n1_; (try clear hb); (try clear hb2); (try clear hk); (try clear hi); (try clear ho0)))
    go_ret
    exact ⟨_, by first | rfl | (simp [errW_none, errW_some] <;> rfl) | (simp only [← hji3, ← hji4]; first | rfl | (simp [errW_none, errW_some] <;> rfl)) | (simp [*, errW_none, errW_some] <;> rfl), by (with_reducible repeat (first | apply Kd.R_alloc | apply Kd.R_drewN | apply Kd.R_drew)); exact HO181.out, by repeat (first | (with_reducible first | exact HB.out | apply below_alloc | apply pw_below_drewN | apply below_drew1) | exact HB.out)⟩
  · rw [if_neg c5] at H
    have c5b0 : decide ((ji4) < 0) = false := decide_eq_false c5
    clear c5
    replace H := Option.bind_eq_some_iff.mp H
    obtain ⟨t182, A80, H⟩ := H
    replace H : (some t182) = some r := H
    have A8 := Aside0.mk A80
    clear A80
    obtain rfl := Option.some.inj H
    go_enter Tryd.func32, Tryd.ntmps32
    go_wp2_with (first | ((with_reducible refine gate_callee (f := 30) rfl ?_); refine goesL_ (some 18) rfl rfl Tryd.func30 (by kernel_rfl) rfl #[.slice A0 l0.length c0, .int .i64 (2 * (ji4))] rfl (by (try simp only [List.map_toArray, List.map_cons, List.map_nil]); first | done | (simp only [hji4]; rfl) | rfl | (simp only [List.length_drop, List.length_take]; rfl) | (simp; done) | (simp; (repeat' apply And.intro) <;> rfl)) ?_; (with_reducible refine (num_Put.calls k _ _ l0 (2 * (ji4)) t182 _ ?side1 ?side2 A8.out).mono ?_); (case side1 => repeat (first | exact HR0.out | (with_reducible refine Kd.C_alloc ?_ _) | (with_reducible refine Kd.C_drewN ?_ _) | (with_reducible refine Kd.C_drew ?_))); (case side2 => exact HC0.out); rintro e w9 ⟨v183, rfl, ho0, hb⟩; refine ⟨_, rfl, ?_⟩; have n0_ := Aside0.mk (Kd.R_lower ho0 (below_size (by repeat (first | (with_reducible first | exact HB.out | apply below_alloc | apply pw_below_drewN | apply below_drew1) | exact HB.out)))); have n1_ := Aside0.mk (below_step (by repeat (first | (with_reducible first | exact HB.out | apply below_alloc | apply pw_below_drewN | apply below_drew1) | exact HB.out)) hb); clear HB; have HO184 := n0_; have HB := n1_; clear n0_ n1_; (try clear hb); (try clear hb2); (try clear hk); (try clear hi); (try clear ho0)))
    go_ret
    exact ⟨_, by first | rfl | (simp [errW_none, errW_some] <;> rfl) | (simp only [← hji3, ← hji4]; first | rfl | (simp [errW_none, errW_some] <;> rfl)) | (simp [*, errW_none, errW_some] <;> rfl), by (with_reducible repeat (first | apply Kd.R_alloc | apply Kd.R_drewN | apply Kd.R_drew)); exact HO184.out, by repeat (first | (with_reducible first | exact HB.out | apply below_alloc | apply pw_below_drewN | apply below_drew1) | exact HB.out)⟩

/-! ### crc_Seal: function 33, a contract of my own -/
def crc_Seal.f (l0 : List Int) : Option (List Int) := if l0.length + 4 ≤ 140737488355328 then some (l0 ++ sealL (crcSum l0)) else none
theorem crc_Seal.calls (A0 : Option Addr) (c0 : Nat) (l0 : List Int) (r : List Int) (w : World) (hG : GT w) (hr0 : Kd.C (Kd.int .u8) w A0 l0.length l0) (hc0 : l0.length ≤ c0) (h : crc_Seal.f l0 = some r) :
    Calls Tryd.prog 33 #[.slice A0 l0.length c0] w fun e w' => ∃ v0_ : Value, e = .returned (v0_) ∧ Kd.R (Kd.int .u8) 5 w' w.heap.size (fun _ => True) v0_ r ∧ Below w.heap.size w w' := by
  unfold crc_Seal.f at h
  by_cases hl : l0.length + 4 ≤ 140737488355328
  · rw [if_pos hl] at h
    obtain rfl := Option.some.inj h
    exact crc_Seal.walked A0 c0 l0 w hG hr0 hc0 hl
  · rw [if_neg hl] at h; cases h
/-! ### ledger_Ledger_Bytes: function 13, a contract of my own -/
theorem MapOk.look1 {w : World} {mb n : Nat} {S : List Ln} (h : MapOk w mb n S) (p : ByteArray) (hp : p.size ≤ maxLen) :
    ∃ x, (Instr.lookup 53 (.map (some mb)) (.string p) false).run Tryd.prog w = .ok (lnV x) w ∧ ∀ y ∈ S, y.path = p → x = y := by
  obtain ⟨D, hown, hmap, hhas, hat⟩ := h
  obtain ⟨v, ps, hrun, hv⟩ := hown.lookup strs_keyed Tryd.underlying53 (lnZero w) (lnR_lnV _) (kS_key hp)
  obtain ⟨x, rfl, hx⟩ := lnR_inv hv
  refine ⟨x, hrun, fun y hy e => ?_⟩
  have h2 := hat y hy (lnD ⟨⟨#[]⟩, 0, 0, 0, 0, ⟨#[]⟩⟩)
  rw [e] at h2
  simp only [Prod.mk.injEq] at hx
  exact lnD_inj (hx.1.symm.trans h2)
section
variable {P : Program} {ops : Array Oper} {o : Oper} {a : Act} {Q : Exit → Act → World → Prop} {K : Act → World → Prop}
theorem step_append_str {w0 W : World} (base : Nat) (hw : Region.wanted o (yielded ops a.tmps) = true) (s x : Operand) (t u e : TypeId)
    (ho : o.op = .call { callee := .builtin .append, args := #[s, x], argTypes := #[t, u] })
    (ht : P.underlying t = some (.slice e)) (hu : P.underlying u = some .string) (hinfo : (P.info? e).map (fun i => (i.zero, i.size, i.bytes)) = some (some (.int .u8 0), 1, 1))
    (v : Value) (xs : List Int) (y : ByteArray) (hs : a.eval s = v) (hx : a.eval x = .string y)
    (HO : Kd.R (Kd.int .u8) e W base (fun _ => True) v xs) (HB : Below base w0 W) (hbase : base ≤ W.heap.size) (hl : xs.length + y.size ≤ 140737488355328)
    (h : ∀ v1 w1, Kd.R (Kd.int .u8) e w1 base (fun _ => True) v1 (xs ++ bytesOf y) → Below base w0 w1 → K (a.put o.dst v1) w1) :
    if Region.wanted o (yielded ops a.tmps) = true then Oper.wp P o a W K Q else K (a.put o.dst undef) W := by
  obtain ⟨i0, hi, hzz⟩ := Option.map_eq_some_iff.1 hinfo
  simp only [Prod.mk.injEq] at hzz
  obtain ⟨hz0, hz1, hz2⟩ := hzz
  have HO1 : W.ownsRow base e 1 v xs.length (nums .u8 xs) := Kd.own_of_R HO
  rw [if_pos hw]
  obtain ⟨v1, w1, hr, hown, hg, _⟩ := Lib.run_append_own_string (P := P) W base t u o.type e i0 ht hu hi hz0 hz1 hz2 v xs.length (nums .u8 xs) HO1 y (by simp only [maxLen]; omega) hl hbase
  unfold Oper.wp execOp
  simp only [ho, resolve, invoke, builtin, Sem.run_bind, Sem.run_pure, Result.andThen_ok, List.map_toArray, List.map_cons, List.map_nil, hs, hx, hr]
  have hl2 : (xs ++ bytesOf y).length = xs.length + y.size := by rw [List.length_append, bytesOf_length]
  have hc : nums .u8 (xs ++ bytesOf y) = nums .u8 xs ++ Lib.strCells y := by
    rw [nums_append]
    congr 1
    simp [nums, bytesOf, Lib.strCells]
  rw [← hl2, ← hc] at hown
  exact h v1 w1 (Kd.R_of_own hown (fun _ _ => trivial)) (HB.grown hg hbase (own_base HO1))
end
def ledLine (k : Nat) (b : List Int) (x : Ln) : Option (List Int) :=
  (num_PutText.f k b x.path).bind fun b1 => (num_Put.f k b1 x.ino).bind fun b2 => (num_Put.f k b2 x.size).bind fun b3 => (num_PutInt.f k b3 x.sec).bind fun b4 => (num_Put.f k b4 x.nano).bind fun b5 =>
    if b5.length + x.sum.size ≤ 140737488355328 then some (b5 ++ bytesOf x.sum) else none
def ledLines (k : Nat) : List Int → List Ln → Option (List Int)
  | b, [] => some b
  | b, x :: S => (ledLine k b x).bind fun b' => ledLines k b' S
def ledBytesF (k : Nat) (S : List Ln) : Option (List Int) := (num_Put.f k [] S.length).bind fun b => (ledLines k b S).bind fun r => crc_Seal.f r
theorem ledLine_some {k : Nat} {b r : List Int} {x : Ln} (h : ledLine k b x = some r) : ∃ b1 b2 b3 b4 b5, num_PutText.f k b x.path = some b1 ∧ num_Put.f k b1 x.ino = some b2 ∧ num_Put.f k b2 x.size = some b3 ∧ num_PutInt.f k b3 x.sec = some b4 ∧ num_Put.f k b4 x.nano = some b5 ∧ b5.length + x.sum.size ≤ 140737488355328 ∧ b5 ++ bytesOf x.sum = r := by
  unfold ledLine at h
  obtain ⟨b1, h1, h⟩ := Option.bind_eq_some_iff.1 h
  obtain ⟨b2, h2, h⟩ := Option.bind_eq_some_iff.1 h
  obtain ⟨b3, h3, h⟩ := Option.bind_eq_some_iff.1 h
  obtain ⟨b4, h4, h⟩ := Option.bind_eq_some_iff.1 h
  obtain ⟨b5, h5, h⟩ := Option.bind_eq_some_iff.1 h
  split at h
  · exact ⟨b1, b2, b3, b4, b5, h1, h2, h3, h4, h5, by assumption, Option.some.inj h⟩
  · cases h
theorem info_u8 : (Tryd.prog.info? 5).map (fun i => (i.zero, i.size, i.bytes)) = some (some (.int .u8 0), 1, 1) := by kernel_rfl
set_option maxHeartbeats 16000000 in
set_option maxRecDepth 20000 in
theorem led_Bytes.at_ (k b0 p mb n : Nat) (room : Int) (v : Value) (S : List Ln) (r : List Int) (w : World) (hG : GT w) (h : Lg b0 p mb n room v S w) (hf : ledBytesF k S = some r) :
    Calls Tryd.prog 13 #[.pointer (some ⟨p, 0, none⟩)] w fun e w' => ∃ v', e = .returned v' ∧ Kd.R (Kd.int .u8) 5 w' w.heap.size (fun _ => True) v' r ∧ Below w.heap.size w w' := by
  obtain ⟨l0, h0, hf⟩ := Option.bind_eq_some_iff.1 hf
  obtain ⟨l1, h1, hf⟩ := Option.bind_eq_some_iff.1 hf
  have G0 := Aside0.mk h0
  have H1 := Aside0.mk h1
  have HF := Aside0.mk hf
  have HG := Aside0.mk hG
  have HL := Aside0.mk h
  obtain ⟨A, c, rfl, hc, hC⟩ := Kd.R_reads h.hR
  obtain ⟨m, hm⟩ : ∃ m, m = S.length := ⟨_, rfl⟩
  have hmp : (paths S).length = m := by rw [hm]; unfold paths; rw [List.length_map]
  rw [hmp] at hC hc h HL
  rw [← hm] at G0
  have HM := Aside0.mk (And.intro hm hmp)
  have HC := Aside0.mk hC
  have q1 := (rw_cells h.hP).2.1
  have HH := Aside0.mk (num_Put.calls k none 0 [] (m : Int) l0 w (Kd.C_nil _ _) (Nat.le_refl _) G0.out)
  clear h hf h0 h1 hC hc hm hmp hG
  go_enter Tryd.func13, Tryd.ntmps13
  go_wp2_with fail
  refine HH.out.mono ?_
  rintro e w1 ⟨v0, rfl, hR0, hb0⟩
  have HBB := Aside0.mk hb0
  have HR0 := Aside0.mk hR0
  have HL1 := Aside0.mk (HL.out.below hb0)
  clear hR0 hb0 HH q1
  have q1 := (rw_cells HL1.out.hP).2.1
  go_wp2
  go_loopg [3, 5, 6, 22] m (fun g v3 v5 v6 v22 w' => ∃ (i : Nat) (b : List Int), g = m - i ∧ v22 = .int .i64 i ∧ Aside0 (i ≤ m) ∧ Aside0 (Kd.R (Kd.int .u8) 5 w' w.heap.size (fun _ => True) v3 b) ∧ Aside0 (ledLines k b (S.drop i) = some l1) ∧ Aside0 (Below w.heap.size w w'))
  case atStart => exact ⟨0, l0, rfl, rfl, ⟨Nat.zero_le _⟩, HR0, H1, HBB⟩
  case round =>
    clear q1
    obtain ⟨i, b0_, rfl, rfl, HI, HR, HF1, HBW⟩ := hrel
    have HLw := Aside0.mk (HL.out.below HBW.out)
    have q1 := (rw_cells HLw.out.hP).2.1
    have q2 := (rw_cells HLw.out.hP).2.2
    by_cases c1 : i < m
    rotate_left
    · have e1 : decide ((i : Int) < (m : Int)) = false := decide_eq_false (by omega)
      have e1' : decide (i < m) = false := decide_eq_false c1
      have e1n : (i < m) = False := eq_false c1
      have e1i : ((i : Int) < (m : Int)) = False := eq_false (by omega)
      have hF1 := HF1.out
      rw [List.drop_eq_nil_of_le (by have := HM.out.1; omega)] at hF1
      obtain rfl : b0_ = l1 := Option.some.inj hF1
      obtain ⟨A3, c3, rfl, hc3, hC3⟩ := Kd.R_reads HR.out
      have HSe := Aside0.mk (crc_Seal.calls A3 c3 b0_ r wr (HG.out.below HBW.out) hC3 hc3 HF.out)
      clear c1 hF1 hc3 hC3 HF1
      go_wp2_with fail
      refine HSe.out.mono ?_
      rintro e w9 ⟨v9, rfl, hR9, hb9⟩
      have HR9 := Aside0.mk (Kd.R_mono (Kd.R_lower hR9 HBW.out.size) (fun _ _ => trivial))
      have HB9 := Aside0.mk (ld_step HBW.out hb9)
      clear hR9 hb9 HSe
      go_wp2
      go_ret
      exact ⟨_, rfl, HR9.out, HB9.out⟩
    have e1 : decide ((i : Int) < (m : Int)) = true := decide_eq_true (by omega)
    have e1' : decide (i < m) = true := decide_eq_true c1
    have e1n : (i < m) = True := eq_true c1
    have e1i : ((i : Int) < (m : Int)) = True := eq_true (by omega)
    have hi0 : (0 ≤ (i : Int)) = True := eq_true (by omega)
    have hadd : wrap64 ((i : Int) + 1) = ((i + 1 : Nat) : Int) := by have := HM.out.1; have := HL.out.hl; unfold wrap64; omega
    obtain ⟨x, hx⟩ : ∃ x, S[i]? = some x := ⟨_, List.getElem?_eq_getElem (show i < S.length by have := HM.out.1; omega)⟩
    have hF1 := HF1.out
    rw [List.drop_eq_getElem_cons (show i < S.length by have := HM.out.1; omega), show S[i]'(by have := HM.out.1; omega) = x from Option.some.inj ((List.getElem?_eq_getElem _).symm.trans hx)] at hF1
    obtain ⟨b6, hl1, hF2⟩ := Option.bind_eq_some_iff.1 hF1
    obtain ⟨b1, b2, b3, b4, b5, g1, g2, g3, g4, g5, g6, g7⟩ := ledLine_some hl1
    have G1 := Aside0.mk g1
    have G2 := Aside0.mk g2
    have G3 := Aside0.mk g3
    have G4 := Aside0.mk g4
    have G5 := Aside0.mk g5
    have G6 := Aside0.mk g6
    have G7 := Aside0.mk g7
    have HF2 := Aside0.mk hF2
    have HX := Aside0.mk hx
    have C1 := Aside0.mk c1
    clear hF1 hl1 hF2 g1 g2 g3 g4 g5 g6 g7 HF1
    obtain ⟨ad, y, rfl, hy, hcell⟩ := str_at (Kd.R_reads' HLw.out.hR).2.2 i (by have := HM.out.2; omega)
    obtain rfl : y = x.path := by
      unfold paths at hy
      rw [List.getElem?_map, hx] at hy
      exact (Option.some.inj hy).symm
    obtain ⟨z, hlk, hz⟩ := HLw.out.hM.look1 x.path (by have := HL.out.hz x (List.mem_of_getElem? hx); unfold maxLen; omega)
    obtain rfl := hz x (List.mem_of_getElem? hx) rfl
    unfold lnV at hlk
    clear hy hz hx c1
    obtain ⟨gx, hgx⟩ : ∃ gx, wr.heap.size = gx := ⟨_, rfl⟩
    obtain ⟨w2, hw2⟩ : ∃ w2, wr.alloc (.cells #[.string z.path, .int .i64 z.ino, .int .i64 z.size, .int .i64 z.sec, .int .i64 z.nano, .string z.sum] 68) = w2 := ⟨_, rfl⟩
    have HX2 : Aside0 (w2.heap[gx]? = some (.cells #[.string z.path, .int .i64 z.ino, .int .i64 z.size, .int .i64 z.sec, .int .i64 z.nano, .string z.sum] 68 (0, 0))) := ⟨by rw [← hw2, ← hgx]; exact blk_new wr _⟩
    have HB2 : Aside0 (Below wr.heap.size wr w2) := ⟨by rw [← hw2]; exact below_alloc (Below.refl _ _) _⟩
    have HBW2 := Aside0.mk (ld_step HBW.out HB2.out)
    have HRb := Aside0.mk (Kd.R_below HR.out HB2.out)
    obtain ⟨A0, c0, rfl, hc0, hC0⟩ := Kd.R_reads HRb.out
    have HSW2 : Aside0 (w.heap.size ≤ w2.heap.size) := ⟨HBW2.out.size⟩
    have HC0 := Aside0.mk (Kd.C_drew hC0)
    have HL0 := Aside0.mk hc0
    clear hc0 hC0
    go_wp2_with fail
    have HXd := Aside0.mk (show w2.drew.heap[gx]? = some (.cells #[.string z.path, .int .i64 z.ino, .int .i64 z.size, .int .i64 z.sec, .int .i64 z.nano, .string z.sum] 68 (0, 0)) from HX2.out)
    have HBWd : Aside0 (Below w.heap.size w w2.drew) := ⟨below_drew HBW2.out⟩
    have HSWd : Aside0 (w.heap.size ≤ w2.drew.heap.size) := HSW2
    refine start_ (n := 11) (S := fun w' => w'.cell? ⟨gx, 0, none⟩ = some (.string z.path) ∧ w'.cell? ⟨gx, 1, none⟩ = some (.int .i64 z.ino) ∧ w'.cell? ⟨gx, 2, none⟩ = some (.int .i64 z.size)) (ds := []) #[F_,F_,F_,F_,F_,F_,F_,F_,F_,F_,F_] (by kernel_rfl) rfl rfl ⟨(ln_cells (x := z) HXd.out).1, (ln_cells (x := z) HXd.out).2.1, (ln_cells (x := z) HXd.out).2.2.1⟩ (fun hHeld => ?_)
    refine pure_ (i := 0) (N := some 33) (v := ?_) (a' := ?_) #[T_,F_,F_,F_,F_,F_,F_,F_,F_,F_,F_] rfl rfl (by kernel_rfl) (fun _ _ _ h => h) (Or.inl ⟨by rfl, ?_⟩) ?_ ?_
    rotate_left
    · intro w'
      go_simp
      with_reducible rfl
    rotate_left
    · simp only [Act.put, List.setIfInBounds_toArray, List.set_cons_zero, List.set_cons_succ, i64_w, i32_w]
      rfl
    refine pure_ (i := 1) (N := some 34) (v := ?_) (a' := ?_) #[T_,T_,F_,F_,F_,F_,F_,F_,F_,F_,F_] rfl rfl (by kernel_rfl) (fun _ _ _ h => h) (Or.inl ⟨by rfl, ?_⟩) ?_ ?_
    rotate_left
    · intro w'
      go_simp
      with_reducible rfl
    rotate_left
    · simp only [Act.put, List.setIfInBounds_toArray, List.set_cons_zero, List.set_cons_succ, i64_w, i32_w]
      rfl
    refine pure_ (i := 4) (N := some 37) (v := ?_) (a' := ?_) #[T_,T_,F_,F_,T_,F_,F_,F_,F_,F_,F_] rfl rfl (by kernel_rfl) (fun _ _ _ h => h) (Or.inl ⟨by rfl, ?_⟩) ?_ ?_
    rotate_left
    · intro w'
      go_simp
      with_reducible rfl
    rotate_left
    · simp only [Act.put, List.setIfInBounds_toArray, List.set_cons_zero, List.set_cons_succ, i64_w, i32_w]
      rfl
    refine pure_ (i := 7) (N := some 40) (v := ?_) (a' := ?_) #[T_,T_,F_,F_,T_,F_,F_,T_,F_,F_,F_] rfl rfl (by kernel_rfl) (fun _ _ _ h => h) (Or.inl ⟨by rfl, ?_⟩) ?_ ?_
    rotate_left
    · intro w'
      go_simp
      with_reducible rfl
    rotate_left
    · simp only [Act.put, List.setIfInBounds_toArray, List.set_cons_zero, List.set_cons_succ, i64_w, i32_w]
      rfl
    refine take_ (i := 2) (N := some 35) (v := ?_) (a' := ?_) #[T_,T_,T_,F_,T_,F_,F_,T_,F_,F_,F_] rfl rfl (by kernel_rfl) (fun _ _ _ h => h) (Or.inl ⟨by rfl, ?_⟩) hHeld ?_ ?_
    rotate_left
    · rintro w' ⟨s0, s1, s2⟩
      go_simp
      with_reducible rfl
    rotate_left
    · simp only [Act.put, List.setIfInBounds_toArray, List.set_cons_zero, List.set_cons_succ, i64_w, i32_w]
      rfl
    refine take_ (i := 5) (N := some 38) (v := ?_) (a' := ?_) #[T_,T_,T_,F_,T_,T_,F_,T_,F_,F_,F_] rfl rfl (by kernel_rfl) (fun _ _ _ h => h) (Or.inl ⟨by rfl, ?_⟩) hHeld ?_ ?_
    rotate_left
    · rintro w' ⟨s0, s1, s2⟩
      go_simp
      with_reducible rfl
    rotate_left
    · simp only [Act.put, List.setIfInBounds_toArray, List.set_cons_zero, List.set_cons_succ, i64_w, i32_w]
      rfl
    refine take_ (i := 8) (N := some 41) (v := ?_) (a' := ?_) #[T_,T_,T_,F_,T_,T_,F_,T_,T_,F_,F_] rfl rfl (by kernel_rfl) (fun _ _ _ h => h) (Or.inl ⟨by rfl, ?_⟩) hHeld ?_ ?_
    rotate_left
    · rintro w' ⟨s0, s1, s2⟩
      go_simp
      with_reducible rfl
    rotate_left
    · simp only [Act.put, List.setIfInBounds_toArray, List.set_cons_zero, List.set_cons_succ, i64_w, i32_w]
      rfl
    refine one_ (i := 3) (N := some 36) #[T_,T_,T_,T_,T_,T_,F_,T_,T_,F_,F_] rfl rfl (by kernel_rfl) (by decide) (fun K hK => ?_)
    refine goes_ Tryd.func31 (by kernel_rfl) rfl #[.slice A0 b0_.length c0, .string z.path] (by rfl) rfl rfl (by simp only [List.map_toArray, List.map_cons, List.map_nil]; rfl) ?_
    with_reducible refine (num_PutText.calls k A0 c0 b0_ (z.path) b1 w2.drew (HC0.out) (HL0.out) G1.out).mono ?_
    rintro e W1 ⟨v1, rfl, hR1, hb1⟩
    refine ⟨_, rfl, ?_⟩
    have HX1 := Aside0.mk (blk_below (w := w2.drew) HXd.out hb1)
    have HBW1 := Aside0.mk (ld_step HBWd.out (show Below (w2.drew).heap.size (w2.drew) W1 from hb1))
    have HSW1 : Aside0 (w.heap.size ≤ W1.heap.size) := ⟨by have := HBW1.out.size; exact this⟩
    have HR1 := Aside0.mk (Kd.R_lower hR1 HSWd.out)
    obtain ⟨A1, c1, rfl, hcq, hCq⟩ := Kd.R_reads hR1
    have HC1 := Aside0.mk hCq
    have HL1 := Aside0.mk hcq
    clear hR1 hb1 hcq hCq
    refine hK.out _ _ ⟨(ln_cells (x := z) HX1.out).1, (ln_cells (x := z) HX1.out).2.1, (ln_cells (x := z) HX1.out).2.2.1⟩ (fun hHeld => ?_)
    clear hK K
    refine norm_ (a' := ?_) ?_ ?_
    rotate_left
    · show Act.put _ (some 36) _ = _
      simp only [Act.put, List.setIfInBounds_toArray, List.set_cons_zero, List.set_cons_succ, i64_w, i32_w]
      rfl
    refine one_ (i := 6) (N := some 39) #[T_,T_,T_,T_,T_,T_,T_,T_,T_,F_,F_] rfl rfl (by kernel_rfl) (by decide) (fun K hK => ?_)
    refine goes_ Tryd.func30 (by kernel_rfl) rfl #[.slice A1 b1.length c1, .int .i64 z.ino] (by rfl) rfl rfl (by simp only [List.map_toArray, List.map_cons, List.map_nil]; rfl) ?_
    with_reducible refine (num_Put.calls k A1 c1 b1 (z.ino) b2 W1 (HC1.out) (HL1.out) G2.out).mono ?_
    rintro e W2 ⟨v2, rfl, hR2, hb2⟩
    refine ⟨_, rfl, ?_⟩
    have HX2 := Aside0.mk (blk_below (w := W1) HX1.out hb2)
    have HBW2 := Aside0.mk (ld_step HBW1.out (show Below (W1).heap.size (W1) W2 from hb2))
    have HSW2 : Aside0 (w.heap.size ≤ W2.heap.size) := ⟨by have := HBW2.out.size; exact this⟩
    have HR2 := Aside0.mk (Kd.R_lower hR2 HSW1.out)
    obtain ⟨A2, c2, rfl, hcq, hCq⟩ := Kd.R_reads hR2
    have HC2 := Aside0.mk hCq
    have HL2 := Aside0.mk hcq
    clear hR2 hb2 hcq hCq
    refine hK.out _ _ ⟨(ln_cells (x := z) HX2.out).1, (ln_cells (x := z) HX2.out).2.1, (ln_cells (x := z) HX2.out).2.2.1⟩ (fun hHeld => ?_)
    clear hK K
    refine norm_ (a' := ?_) ?_ ?_
    rotate_left
    · show Act.put _ (some 39) _ = _
      simp only [Act.put, List.setIfInBounds_toArray, List.set_cons_zero, List.set_cons_succ, i64_w, i32_w]
      rfl
    refine one_ (i := 9) (N := some 42) #[T_,T_,T_,T_,T_,T_,T_,T_,T_,T_,F_] rfl rfl (by kernel_rfl) (by decide) (fun K hK => ?_)
    refine goes_ Tryd.func30 (by kernel_rfl) rfl #[.slice A2 b2.length c2, .int .i64 z.size] (by rfl) rfl rfl (by simp only [List.map_toArray, List.map_cons, List.map_nil]; rfl) ?_
    with_reducible refine (num_Put.calls k A2 c2 b2 (z.size) b3 W2 (HC2.out) (HL2.out) G3.out).mono ?_
    rintro e W3 ⟨v3, rfl, hR3, hb3⟩
    refine ⟨_, rfl, ?_⟩
    have HX3 := Aside0.mk (blk_below (w := W2) HX2.out hb3)
    have HBW3 := Aside0.mk (ld_step HBW2.out (show Below (W2).heap.size (W2) W3 from hb3))
    have HSW3 : Aside0 (w.heap.size ≤ W3.heap.size) := ⟨by have := HBW3.out.size; exact this⟩
    have HR3 := Aside0.mk (Kd.R_lower hR3 HSW2.out)
    obtain ⟨A3, c3, rfl, hcq, hCq⟩ := Kd.R_reads hR3
    have HC3 := Aside0.mk hCq
    have HL3 := Aside0.mk hcq
    clear hR3 hb3 hcq hCq
    refine hK.out _ _ ⟨(ln_cells (x := z) HX3.out).1, (ln_cells (x := z) HX3.out).2.1, (ln_cells (x := z) HX3.out).2.2.1⟩ (fun hHeld => ?_)
    clear hK K
    refine norm_ (a' := ?_) ?_ ?_
    rotate_left
    · show Act.put _ (some 42) _ = _
      simp only [Act.put, List.setIfInBounds_toArray, List.set_cons_zero, List.set_cons_succ, i64_w, i32_w]
      rfl
    refine pure_ (i := 10) (N := some 3) (v := ?_) (a' := ?_) #[T_,T_,T_,T_,T_,T_,T_,T_,T_,T_,T_] rfl rfl (by kernel_rfl) (fun _ _ _ h => h) (Or.inl ⟨by rfl, ?_⟩) ?_ ?_
    rotate_left
    · intro w'
      go_simp
      with_reducible rfl
    rotate_left
    · simp only [Act.put, List.setIfInBounds_toArray, List.set_cons_zero, List.set_cons_succ, i64_w, i32_w]
      rfl
    refine done_ (by kernel_rfl) ?_
    clear hHeld
    go_wp2_with fail
    have HC3d := Aside0.mk (Kd.C_drew HC3.out)
    have HX3d := Aside0.mk (show W3.drew.heap[gx]? = some (.cells #[.string z.path, .int .i64 z.ino, .int .i64 z.size, .int .i64 z.sec, .int .i64 z.nano, .string z.sum] 68 (0, 0)) from HX3.out)
    have HBW3d : Aside0 (Below w.heap.size w W3.drew) := ⟨below_drew HBW3.out⟩
    have HSW3d : Aside0 (w.heap.size ≤ W3.drew.heap.size) := HSW3
    refine start_ (n := 11) (S := fun w' => w'.cell? ⟨gx, 3, none⟩ = some (.int .i64 z.sec) ∧ w'.cell? ⟨gx, 4, none⟩ = some (.int .i64 z.nano) ∧ w'.cell? ⟨gx, 5, none⟩ = some (.string z.sum)) (ds := [9]) #[F_,F_,F_,F_,F_,F_,F_,F_,F_,F_,F_] (by kernel_rfl) rfl rfl ⟨(ln_cells (x := z) HX3d.out).2.2.2.1, (ln_cells (x := z) HX3d.out).2.2.2.2.1, (ln_cells (x := z) HX3d.out).2.2.2.2.2⟩ (fun hHeld => ?_)
    refine pure_ (i := 0) (N := some 43) (v := ?_) (a' := ?_) #[T_,F_,F_,F_,F_,F_,F_,F_,F_,F_,F_] rfl rfl (by kernel_rfl) (fun _ _ _ h => h) (Or.inl ⟨by rfl, ?_⟩) ?_ ?_
    rotate_left
    · intro w'
      go_simp
      with_reducible rfl
    rotate_left
    · simp only [Act.put, List.setIfInBounds_toArray, List.set_cons_zero, List.set_cons_succ, i64_w, i32_w]
      rfl
    refine pure_ (i := 1) (N := some 44) (v := ?_) (a' := ?_) #[T_,T_,F_,F_,F_,F_,F_,F_,F_,F_,F_] rfl rfl (by kernel_rfl) (fun _ _ _ h => h) (Or.inl ⟨by rfl, ?_⟩) ?_ ?_
    rotate_left
    · intro w'
      go_simp
      with_reducible rfl
    rotate_left
    · simp only [Act.put, List.setIfInBounds_toArray, List.set_cons_zero, List.set_cons_succ, i64_w, i32_w]
      rfl
    refine pure_ (i := 4) (N := some 47) (v := ?_) (a' := ?_) #[T_,T_,F_,F_,T_,F_,F_,F_,F_,F_,F_] rfl rfl (by kernel_rfl) (fun _ _ _ h => h) (Or.inl ⟨by rfl, ?_⟩) ?_ ?_
    rotate_left
    · intro w'
      go_simp
      with_reducible rfl
    rotate_left
    · simp only [Act.put, List.setIfInBounds_toArray, List.set_cons_zero, List.set_cons_succ, i64_w, i32_w]
      rfl
    refine pure_ (i := 7) (N := some 50) (v := ?_) (a' := ?_) #[T_,T_,F_,F_,T_,F_,F_,T_,F_,F_,F_] rfl rfl (by kernel_rfl) (fun _ _ _ h => h) (Or.inl ⟨by rfl, ?_⟩) ?_ ?_
    rotate_left
    · intro w'
      go_simp
      with_reducible rfl
    rotate_left
    · simp only [Act.put, List.setIfInBounds_toArray, List.set_cons_zero, List.set_cons_succ, i64_w, i32_w]
      rfl
    refine take_ (i := 2) (N := some 45) (v := ?_) (a' := ?_) #[T_,T_,T_,F_,T_,F_,F_,T_,F_,F_,F_] rfl rfl (by kernel_rfl) (fun _ _ _ h => h) (Or.inl ⟨by rfl, ?_⟩) hHeld ?_ ?_
    rotate_left
    · rintro w' ⟨s0, s1, s2⟩
      go_simp
      with_reducible rfl
    rotate_left
    · simp only [Act.put, List.setIfInBounds_toArray, List.set_cons_zero, List.set_cons_succ, i64_w, i32_w]
      rfl
    refine take_ (i := 5) (N := some 48) (v := ?_) (a' := ?_) #[T_,T_,T_,F_,T_,T_,F_,T_,F_,F_,F_] rfl rfl (by kernel_rfl) (fun _ _ _ h => h) (Or.inl ⟨by rfl, ?_⟩) hHeld ?_ ?_
    rotate_left
    · rintro w' ⟨s0, s1, s2⟩
      go_simp
      with_reducible rfl
    rotate_left
    · simp only [Act.put, List.setIfInBounds_toArray, List.set_cons_zero, List.set_cons_succ, i64_w, i32_w]
      rfl
    refine take_ (i := 8) (N := some 51) (v := ?_) (a' := ?_) #[T_,T_,T_,F_,T_,T_,F_,T_,T_,F_,F_] rfl rfl (by kernel_rfl) (fun _ _ _ h => h) (Or.inl ⟨by rfl, ?_⟩) hHeld ?_ ?_
    rotate_left
    · rintro w' ⟨s0, s1, s2⟩
      go_simp
      with_reducible rfl
    rotate_left
    · simp only [Act.put, List.setIfInBounds_toArray, List.set_cons_zero, List.set_cons_succ, i64_w, i32_w]
      rfl
    refine one_ (i := 3) (N := some 46) #[T_,T_,T_,T_,T_,T_,F_,T_,T_,F_,F_] rfl rfl (by kernel_rfl) (by decide) (fun K hK => ?_)
    refine goes_ Tryd.func32 (by kernel_rfl) rfl #[.slice A3 b3.length c3, .int .i64 z.sec] (by rfl) rfl rfl (by simp only [List.map_toArray, List.map_cons, List.map_nil]; rfl) ?_
    with_reducible refine (num_PutInt.calls k A3 c3 b3 (z.sec) b4 W3.drew (HC3d.out) (HL3.out) G4.out).mono ?_
    rintro e W4 ⟨v4, rfl, hR4, hb4⟩
    refine ⟨_, rfl, ?_⟩
    have HX4 := Aside0.mk (blk_below (w := W3.drew) HX3d.out hb4)
    have HBW4 := Aside0.mk (ld_step HBW3d.out (show Below (W3.drew).heap.size (W3.drew) W4 from hb4))
    have HSW4 : Aside0 (w.heap.size ≤ W4.heap.size) := ⟨by have := HBW4.out.size; exact this⟩
    have HR4 := Aside0.mk (Kd.R_lower hR4 HSW3d.out)
    obtain ⟨A4, c4, rfl, hcq, hCq⟩ := Kd.R_reads hR4
    have HC4 := Aside0.mk hCq
    have HL4 := Aside0.mk hcq
    clear hR4 hb4 hcq hCq
    refine hK.out _ _ ⟨(ln_cells (x := z) HX4.out).2.2.2.1, (ln_cells (x := z) HX4.out).2.2.2.2.1, (ln_cells (x := z) HX4.out).2.2.2.2.2⟩ (fun hHeld => ?_)
    clear hK K
    refine norm_ (a' := ?_) ?_ ?_
    rotate_left
    · show Act.put _ (some 46) _ = _
      simp only [Act.put, List.setIfInBounds_toArray, List.set_cons_zero, List.set_cons_succ, i64_w, i32_w]
      rfl
    refine one_ (i := 6) (N := some 49) #[T_,T_,T_,T_,T_,T_,T_,T_,T_,F_,F_] rfl rfl (by kernel_rfl) (by decide) (fun K hK => ?_)
    refine goes_ Tryd.func30 (by kernel_rfl) rfl #[.slice A4 b4.length c4, .int .i64 z.nano] (by rfl) rfl rfl (by simp only [List.map_toArray, List.map_cons, List.map_nil]; rfl) ?_
    with_reducible refine (num_Put.calls k A4 c4 b4 (z.nano) b5 W4 (HC4.out) (HL4.out) G5.out).mono ?_
    rintro e W5 ⟨v5, rfl, hR5, hb5⟩
    refine ⟨_, rfl, ?_⟩
    have HX5 := Aside0.mk (blk_below (w := W4) HX4.out hb5)
    have HBW5 := Aside0.mk (ld_step HBW4.out (show Below (W4).heap.size (W4) W5 from hb5))
    have HSW5 : Aside0 (w.heap.size ≤ W5.heap.size) := ⟨by have := HBW5.out.size; exact this⟩
    have HR5 := Aside0.mk (Kd.R_lower hR5 HSW4.out)
    obtain ⟨A5, c5, rfl, hcq, hCq⟩ := Kd.R_reads hR5
    have HC5 := Aside0.mk hCq
    have HL5 := Aside0.mk hcq
    clear hR5 hb5 hcq hCq
    refine hK.out _ _ ⟨(ln_cells (x := z) HX5.out).2.2.2.1, (ln_cells (x := z) HX5.out).2.2.2.2.1, (ln_cells (x := z) HX5.out).2.2.2.2.2⟩ (fun hHeld => ?_)
    clear hK K
    refine norm_ (a' := ?_) ?_ ?_
    rotate_left
    · show Act.put _ (some 49) _ = _
      simp only [Act.put, List.setIfInBounds_toArray, List.set_cons_zero, List.set_cons_succ, i64_w, i32_w]
      rfl
    refine last_ (i := 9) (N := some 52) #[T_,T_,T_,T_,T_,T_,T_,T_,T_,T_,F_] rfl rfl (by kernel_rfl) (by decide) (fun K hK => ?_)
    refine step_append_str (w0 := w) w.heap.size (by rfl) (.tmp 49) (.tmp 51) 41 9 5 rfl Tryd.underlying41 Tryd.underlying9 info_u8 (.slice A5 b5.length c5) b5 z.sum rfl rfl HR5.out HBW5.out HSW5.out G6.out ?_
    intro v6 w6 ho6 hb6
    rw [G7.out] at ho6
    have HR6 := Aside0.mk ho6
    have HBW6 := Aside0.mk hb6
    clear ho6 hb6
    refine hK.out _ _ ?_
    clear hK K
    refine norm_ (a' := ?_) ?_ ?_
    rotate_left
    · show Act.put _ (some 52) _ = _
      simp only [Act.put, List.setIfInBounds_toArray, List.set_cons_zero, List.set_cons_succ, i64_w, i32_w]
      rfl
    refine pure_ (i := 10) (N := some 3) (v := ?_) (a' := ?_) #[T_,T_,T_,T_,T_,T_,T_,T_,T_,T_,T_] rfl rfl (by kernel_rfl) (fun _ _ _ h => h) (Or.inl ⟨by rfl, ?_⟩) ?_ ?_
    rotate_left
    · intro w'
      go_simp
      with_reducible rfl
    rotate_left
    · simp only [Act.put, List.setIfInBounds_toArray, List.set_cons_zero, List.set_cons_succ, i64_w, i32_w]
      rfl
    refine done_ (by kernel_rfl) ?_
    clear hHeld
    go_wp2
    go_roundg (m - (i + 1))
    case measure => have := C1.out; omega
    case rel => exact ⟨i + 1, b6, rfl, by first | rfl | rw [hadd], ⟨by have := C1.out; omega⟩, HR6, HF2, HBW6⟩

def ofL (x : Ln) : S71 := ⟨x.path, x.ino, x.size, x.sec, x.nano, x.sum⟩
/-- The document's ledger in memory. -/
structure Rl (b0 p : Nat) (room : Int) (v : Value) (S : List Ln) (w : World) : Prop where
  hP : w.heap[p]? = some (.cells #[.int .i64 room, v] 60 (0, 0))
  hR : Kd.R k71 71 w b0 (fun j => j ≠ p) v (S.map ofL)
  hp0 : b0 ≤ p
  hl : S.length ≤ 1000000
theorem Rl.below {b0 p : Nat} {room : Int} {v : Value} {S : List Ln} {w w' : World} (h : Rl b0 p room v S w) (hb : Below w.heap.size w w') : Rl b0 p room v S w' :=
  ⟨blk_below h.hP hb, Kd.R_below h.hR hb, h.hp0, h.hl⟩
/-- The program's ledger under what the document's one changes. -/
theorem Lg.bm {b0 p mb n q : Nat} {room : Int} {v : Value} {S : List Ln} {w w' : World} {cs : Array Value} (h : Lg b0 p mb n room v S w) (hb : Bm q q w w') (hq : w.heap[q]? = some (.cells cs 60 (0, 0))) : Lg b0 p mb n room v S w' := by
  have hp : p ≠ q := fun e => by
    have h1 := h.hP
    rw [e, hq] at h1
    injection h1 with h1
    injection h1 with _ h1
    exact absurd h1 (by decide)
  have hm : mb ≠ q := fun e => by
    obtain ⟨D, hown, _⟩ := h.hM
    obtain ⟨es, c, hmb, _⟩ := hown
    rw [e, hq] at hmb
    cases hmb
  refine ⟨(hb.block p (blk_lt h.hP) hp hp).trans h.hP, h.hM.kept (row := some q) ⟨hb.os, hb.tape, hb.output, hb.size, fun i hi hne => hb.block i hi (fun e => hne (by rw [e])) (fun e => hne (by rw [e]))⟩ (fun e => hm (Option.some.inj e)), ?_, h.hN, h.hz, h.hne, h.hp0, h.hm0, h.hl⟩
  have hE : Kd.string.E = [] := by rfl
  have h2 := Kd.R_types h.hR hq (fun z hz => by rw [hE] at hz; rw [List.mem_singleton.1 hz]; decide)
  exact Kd.R_mono (Kd.R_step h2 (fun k hk hlt => hb.block k hlt hk.2 hk.2)) (fun k hk => hk.1)
/-- The document's ledger under what the program's one changes. -/
theorem Rl.bm {b0 p mb q : Nat} {room : Int} {v : Value} {S : List Ln} {w w' : World} {b1 n : Nat} {room1 : Int} {v1 : Value} {S1 : List Ln} (h : Rl b0 q room v S w) (hb : Bm p mb w w') (hl : Lg b1 p mb n room1 v1 S1 w) : Rl b0 q room v S w' := by
  have hp : q ≠ p := fun e => by
    have h1 := h.hP
    rw [e, hl.hP] at h1
    injection h1 with h1
    injection h1 with _ h1
    exact absurd h1 (by decide)
  have hm : q ≠ mb := fun e => by
    obtain ⟨D, hown, _⟩ := hl.hM
    obtain ⟨es, c, hmb, _⟩ := hown
    rw [← e, h.hP] at hmb
    cases hmb
  refine ⟨(hb.block q (blk_lt h.hP) hp hm).trans h.hP, ?_, h.hp0, h.hl⟩
  have hE : k71.E = [] := by rfl
  have h2 := Kd.R_types h.hR hl.hP (fun z hz => by rw [hE] at hz; rw [List.mem_singleton.1 hz]; decide)
  refine Kd.R_mono (Kd.R_step (Kd.R_bound h2) (fun k hk hlt => hb.block k hlt hk.1.2 (fun e => ?_))) (fun k hk => hk.1.1)
  obtain ⟨_, _, _, z, hz, cells, hc⟩ := hk
  obtain ⟨D, hown, _⟩ := hl.hM
  obtain ⟨es, c, hmb, _⟩ := hown
  rw [← e, hc] at hmb
  cases hmb
theorem small_l0 (l : List S39) (hl : l.length ≤ 2000000000000) : ∀ (d k i : Nat), i + d = l.length → d < k → ∃ b, remoraref33_Small.l0 k l (i : Int) = some b ∧ (b = true → l.length ≤ 60 ∧ ∀ j : Nat, i ≤ j → j < l.length → (rd_T39 l (j : Int)).f1.size ≤ 600 ∧ (rd_T39 l (j : Int)).f3.size ≤ 100) := by
  intro d
  induction d with
  | zero =>
    intro k i h hk
    obtain ⟨k, rfl⟩ : ∃ m, k = m + 1 := ⟨k - 1, by omega⟩
    simp only [remoraref33_Small.l0]
    rw [if_neg (by omega)]
    exact ⟨_, rfl, fun h1 => ⟨by have := of_decide_eq_true h1; omega, fun j h2 h3 => by omega⟩⟩
  | succ d ih =>
    intro k i h hk
    obtain ⟨k, rfl⟩ : ∃ m, k = m + 1 := ⟨k - 1, by omega⟩
    simp only [remoraref33_Small.l0]
    rw [if_pos (by omega), if_pos (by omega)]
    by_cases c1 : ((rd_T39 l (i : Int)).f1.size : Int) > 600
    · rw [if_pos c1]; exact ⟨_, rfl, fun h => by cases h⟩
    rw [if_neg c1]
    by_cases c2 : ((rd_T39 l (i : Int)).f3.size : Int) > 100
    · rw [if_pos c2]; exact ⟨_, rfl, fun h => by cases h⟩
    rw [if_neg c2, show wrap64 ((i : Int) + 1) = ((i + 1 : Nat) : Int) by unfold wrap64; omega]
    obtain ⟨b, hb, h2⟩ := ih k (i + 1) (by omega) (by omega)
    refine ⟨b, hb, fun hb => ⟨(h2 hb).1, fun j h3 h4 => ?_⟩⟩
    by_cases e : j = i
    · subst e; omega
    · exact (h2 hb).2 j (by omega) h4
theorem small_f (l : List S39) (hl : l.length ≤ 2000000000000) : ∃ b, remoraref33_Small.f (l.length + 1) l = some b ∧ (b = true → l.length ≤ 60 ∧ ∀ j : Nat, j < l.length → (rd_T39 l (j : Int)).f1.size ≤ 600 ∧ (rd_T39 l (j : Int)).f3.size ≤ 100) := by
  obtain ⟨b, hb, h⟩ := small_l0 l hl l.length (l.length + 1) 0 (by omega) (by omega)
  exact ⟨b, hb, fun h1 => ⟨(h h1).1, fun j hj => (h h1).2 j (Nat.zero_le _) hj⟩⟩
theorem texts_l0 (L : List ByteArray) (hl : L.length ≤ 2000000000000) : ∀ (d k i : Nat), i + d = L.length → d < k → remoraref17_Texts.l0 k L L (i : Int) = some true := by
  intro d
  induction d with
  | zero =>
    intro k i h hk
    obtain ⟨k, rfl⟩ : ∃ m, k = m + 1 := ⟨k - 1, by omega⟩
    simp only [remoraref17_Texts.l0]
    rw [if_neg (by omega)]
  | succ d ih =>
    intro k i h hk
    obtain ⟨k, rfl⟩ : ∃ m, k = m + 1 := ⟨k - 1, by omega⟩
    simp only [remoraref17_Texts.l0]
    rw [if_pos (by omega), if_pos (by omega), if_pos (by omega), if_pos trivial, show wrap64 ((i : Int) + 1) = ((i + 1 : Nat) : Int) by unfold wrap64; omega]
    exact ih k (i + 1) (by omega) (by omega)
theorem texts_f (L : List ByteArray) (hl : L.length ≤ 2000000000000) : remoraref17_Texts.f (L.length + 1) L L = some true := by
  unfold remoraref17_Texts.f
  rw [if_pos rfl]
  exact texts_l0 L hl L.length _ 0 (by omega) (by omega)
def acOf (x : S39) : Ac := ⟨x.f0, x.f1, ⟨x.f2.f0, x.f2.f1, x.f2.f2, x.f2.f3, x.f2.f4.f0, x.f2.f4.f1, x.f2.f4.f2, x.f2.f4.f3, x.f2.f4.f4, x.f2.f5⟩, x.f3⟩
theorem askX_mem {S : List Ln} {q : ByteArray} {s : St} {x : Ln} (h : askX S q s = some x) : x ∈ S ∧ x.path = q ∧ mt s x = true := by
  unfold askX at h
  have h1 := List.find?_some h
  rw [Bool.and_eq_true] at h1
  exact ⟨List.mem_of_find?_eq_some h, (eqP_iff q x.path).1 h1.1, h1.2⟩
theorem outS_lt {S : List Ln} {x : Ln} (h : x ∈ S) : (outS (eqP x.path) S).length + 1 ≤ S.length := by
  unfold outS
  have := List.length_filter_lt_length_iff_exists (p := fun y : Ln => !eqP x.path y.path) (l := S)
  have h2 := this.2 ⟨x, h, by rw [(eqP_iff x.path x.path).2 rfl]; simp⟩
  omega
theorem lastS_len (x : Ln) (S : List Ln) : (lastS x S).length = (outS (eqP x.path) S).length + 1 := by unfold lastS; simp
theorem outS_le (pr : ByteArray → Bool) (S : List Ln) : (outS pr S).length ≤ S.length := List.length_filter_le _ _
theorem capS_le (room : Int) (x : Ln) (S : List Ln) (h1 : 1 ≤ room) (h : (S.length : Int) ≤ room) : ((capS room (lastS x S)).length : Int) ≤ room := by
  have h2 := lastS_len x S
  have h3 := outS_le (eqP x.path) S
  unfold capS
  split
  · rw [List.length_tail]; omega
  · omega
theorem doF_len (room : Int) (S : List Ln) (a : Ac) (h1 : 1 ≤ room) (h : (S.length : Int) ≤ room) : ((doF room S a).S.length : Int) ≤ room := by
  unfold doF
  split
  · cases hx : askX S a.path a.st with
    | none => exact h
    | some x =>
      have h2 := lastS_len x S
      have h3 := outS_lt (askX_mem hx).1
      show ((lastS x S).length : Int) ≤ room
      omega
  · split
    · show ((if tellE a.path a.st a.sum = 0 then capS room (lastS (tellX a.path a.st a.sum) S) else S).length : Int) ≤ room
      split
      · exact capS_le room _ S h1 h
      · exact h
    · split
      · have := outS_le (fun q => underF q a.path) S
        show ((outS (fun q => underF q a.path) S).length : Int) ≤ room
        omega
      · exact h
theorem paths_len (S : List Ln) : (paths S).length = S.length := by unfold paths; rw [List.length_map]
theorem act_cells {w : World} {A : Option Addr} {n : Nat} {l : List S39} (h : Kd.C k39 w A n l) (i : Nat) (h1 : i < n) : ∃ ad, A = some ad ∧ w.cell? (ad.add (i * 13)) = some (.int .i64 (rd_T39 l (i : Int)).f0) ∧ w.cell? ⟨(ad.add (i * 13)).block, (ad.add (i * 13)).off + 1, none⟩ = some (.string (rd_T39 l (i : Int)).f1) ∧ w.cell? ⟨(ad.add (i * 13)).block, (ad.add (i * 13)).off + 2, none⟩ = some (.int .i64 (rd_T39 l (i : Int)).f2.f0) ∧ w.cell? ⟨(ad.add (i * 13)).block, (ad.add (i * 13)).off + 3, none⟩ = some (.int .i64 (rd_T39 l (i : Int)).f2.f1) ∧ w.cell? ⟨(ad.add (i * 13)).block, (ad.add (i * 13)).off + 4, none⟩ = some (.int .i64 (rd_T39 l (i : Int)).f2.f2) ∧ w.cell? ⟨(ad.add (i * 13)).block, (ad.add (i * 13)).off + 5, none⟩ = some (.int .i64 (rd_T39 l (i : Int)).f2.f3) ∧ w.cell? ⟨(ad.add (i * 13)).block, (ad.add (i * 13)).off + 6, none⟩ = some (.int .i64 (rd_T39 l (i : Int)).f2.f4.f0) ∧ w.cell? ⟨(ad.add (i * 13)).block, (ad.add (i * 13)).off + 7, none⟩ = some (.int .i64 (rd_T39 l (i : Int)).f2.f4.f1) ∧ w.cell? ⟨(ad.add (i * 13)).block, (ad.add (i * 13)).off + 8, none⟩ = some (.int .i64 (rd_T39 l (i : Int)).f2.f4.f2) ∧ w.cell? ⟨(ad.add (i * 13)).block, (ad.add (i * 13)).off + 9, none⟩ = some (.int .i64 (rd_T39 l (i : Int)).f2.f4.f3) ∧ w.cell? ⟨(ad.add (i * 13)).block, (ad.add (i * 13)).off + 10, none⟩ = some (.int .i64 (rd_T39 l (i : Int)).f2.f4.f4) ∧ w.cell? ⟨(ad.add (i * 13)).block, (ad.add (i * 13)).off + 11, none⟩ = some (.string (rd_T39 l (i : Int)).f2.f5) ∧ w.cell? ⟨(ad.add (i * 13)).block, (ad.add (i * 13)).off + 12, none⟩ = some (.string (rd_T39 l (i : Int)).f3) := by
  have := at_T39 h (i : Int) (by omega) (by omega)
  rw [Int.toNat_natCast] at this
  exact this
theorem cv_step {P : Program} {o : Oper} {a : Act} {W : World} {x : Operand} {s d : TypeId} {u z : Value} (ho : o.op = .convert s d x) (hx : a.eval x = u) (hr : (convert s d u).run P W = .ok z W) : (execOp a.eval o).run P W = .ok (.value z) W := by
  unfold execOp
  simp only [ho, hx, hr, Sem.run_bind, Sem.run_pure, Result.andThen_ok]
theorem C_str33 {w : World} {A : Option Addr} {n c : Nat} {l : List Int} (hC : Kd.C (Kd.int .u8) w A n l) : (convert 41 9 (.slice A n c)).run Tryd.prog w = .ok (.string (strOfNums l)) w := by
  have e : l.length = n := hC.1
  subst e
  exact Kd.C_string (P := Tryd.prog) (A := A) (c := c) Tryd.underlying41 Tryd.underlying5 Tryd.underlying9 hC
theorem lastS_mem {x y : Ln} {S : List Ln} (h : y ∈ lastS x S) : y = x ∨ y ∈ S := by
  unfold lastS at h
  rcases List.mem_append.1 h with h | h
  · exact .inr (List.mem_filter.1 h).1
  · exact .inl (List.mem_singleton.1 h)
theorem tellE_may {q : ByteArray} {s : St} {sm : ByteArray} (h : tellE q s sm = 0) : mayF (tellX q s sm) = 0 := by
  unfold tellE at h
  split at h
  · omega
  · split at h
    · exact h
    · omega
theorem doF_valid (room : Int) (S : List Ln) (a : Ac) (h : ∀ x ∈ S, mayF x = 0) : ∀ x ∈ (doF room S a).S, mayF x = 0 := by
  unfold doF
  split
  · cases hx : askX S a.path a.st with
    | none => exact h
    | some x =>
      intro y hy
      rcases lastS_mem hy with rfl | hy
      · exact h _ (askX_mem hx).1
      · exact h y hy
  · split
    · show ∀ x ∈ (if tellE a.path a.st a.sum = 0 then capS room (lastS (tellX a.path a.st a.sum) S) else S), mayF x = 0
      split
      · rename_i hz
        intro y hy
        have hy2 : y ∈ lastS (tellX a.path a.st a.sum) S := by
          unfold capS at hy
          split at hy
          · exact List.mem_of_mem_tail hy
          · exact hy
        rcases lastS_mem hy2 with rfl | hy
        · exact tellE_may hz
        · exact h y hy
      · exact h
    · split
      · intro y hy
        exact h y (List.mem_filter.1 hy).1
      · exact h

/-! ### crc_Open: function 38, a contract of my own -/
theorem sealV_eq (s : Int) : sealV s = .agg ((sealL s).map (Value.int .u8)).toArray := rfl
theorem tail_cell {w : World} {a : Addr} {l : List Int} (hC : Kd.C (Kd.int .u8) w (some a) l.length l) (n : Nat) (hn : l.length = n + 4) (i : Nat) (hi : i < 4) : w.cell? ((a.add n).add i) = some (.int .u8 (rd l ((n + i : Nat) : Int))) := by
  obtain ⟨ad, e, hx⟩ := Kd.at_int hC ((n + i : Nat) : Int) (by omega) (by omega)
  cases e
  rw [Addr.add_add]
  rw [Int.toNat_natCast] at hx
  exact hx
theorem crc_seal.at_ (A : Option Addr) (c n : Nat) (l : List Int) (w : World) (hn : l.length = n) (hG : GT w) (hC : Kd.C (Kd.int .u8) w A n l) (hcap : n ≤ c) (hlen : n ≤ 9223372036854775807) :
    Calls Tryd.prog 59 #[.slice A n c] w fun e w' => e = .returned (sealV (crcSum l)) ∧ Below w.heap.size w w' := by
  subst hn
  exact crc_seal.calls A c l w hG hC hcap hlen
set_option maxHeartbeats 1000000 in
theorem crc_Open.bad (a : Addr) (c : Nat) (l : List Int) (n : Nat) (w : World) (hG : GT w) (hC : Kd.C (Kd.int .u8) w (some a) l.length l) (hcap : l.length ≤ c) (hlen : l.length ≤ 9223372036854775807) (hn : l.length = n + 4) (x0 x1 x2 x3 : Int)
    (hx0 : rd l ((n + 0 : Nat) : Int) = x0) (hx1 : rd l ((n + 1 : Nat) : Int) = x1) (hx2 : rd l ((n + 2 : Nat) : Int) = x2) (hx3 : rd l ((n + 3 : Nat) : Int) = x3) (hb : decide (sealL (crcSum (l.take n)) = [x0, x1, x2, x3]) = false) :
    Calls Tryd.prog 38 #[.slice (some a) l.length c] w fun e w' => e = .returned (.tuple #[.slice none 0 0, .int .i64 6]) ∧ Below w.heap.size w w' := by
  have hS : ∀ W : World, Below w.heap.size w W → W.cell? (a.add n) = some (.int .u8 x0) ∧ W.cell? ⟨(a.add n).block, (a.add n).off + 1, none⟩ = some (.int .u8 x1) ∧
      W.cell? ⟨(a.add n).block, (a.add n).off + 2, none⟩ = some (.int .u8 x2) ∧ W.cell? ⟨(a.add n).block, (a.add n).off + 3, none⟩ = some (.int .u8 x3) := by
    intro W hb
    have t := fun i hi => tail_cell (Kd.C_below hC hb) n hn i hi
    subst hx0 hx1 hx2 hx3
    exact ⟨(by have := t 0 (by omega); rwa [Addr.add_zero'] at this), t 1 (by omega), t 2 (by omega), t 3 (by omega)⟩
  obtain ⟨i0, hi0, _, hsz0, _⟩ := info_parts info5_
  have hs1 := cut_to (P := Tryd.prog) 41 5 .i64 Tryd.underlying41 hi0 (some a) (n + 4) c (n : Int) (by omega) (by omega) (by omega)
  have hs2 := cut_from (P := Tryd.prog) 41 5 .i64 Tryd.underlying41 hi0 1 hsz0 (some a) (n + 4) c (n : Int) (by omega) (by omega)
  rw [Int.toNat_natCast] at hs1 hs2
  rw [if_neg (by omega), show n + 4 - n = 4 by omega, Nat.mul_one] at hs2
  have hs3 := fun W : World => run_arrayAt (P := Tryd.prog) W 98 5 4 (some (a.add n)) 4 (c - n) Tryd.underlying98 (Nat.le_refl _)
  have hbin : ∀ W : World, (binOp .neq 98 (sealV (crcSum (l.take n))) (.agg #[.int .u8 x0, .int .u8 x1, .int .u8 x2, .int .u8 x3])).run Tryd.prog W = .ok (.bool true) W := by
    intro W
    have := run_equalIn_ints (P := Tryd.prog) W 9998 98 5 .u8 4 (sealL (crcSum (l.take n))) [x0, x1, x2, x3] Tryd.underlying98 Tryd.underlying5 (by kernel_rfl) rfl rfl
    rw [hb, ← sealV_eq] at this
    unfold sealV at this ⊢
    rw [run_neq_struct]
    rw [show (9998 + 2 : Nat) = 10000 from rfl] at this
    simp only [List.map_cons, List.map_nil] at this
    rw [this]; rfl
  have hgu : ∀ W : World, (eqGuard .neq 98 (.tmp 13) (.tmp 18) (sealV (crcSum (l.take n))) (.agg #[.int .u8 x0, .int .u8 x1, .int .u8 x2, .int .u8 x3])).run Tryd.prog W = .ok () W := fun W => run_guard_agg W 98 _ _ _ _ (by kernel_rfl)
  have HCut : Kd.C (Kd.int .u8) w (some a) n (l.take n) := by
    have h_ := Kd.C_take hC (m := n) (by omega)
    rwa [List.length_take, Nat.min_eq_left (by omega)] at h_
  have HG1 := GT.below hG (below_drew1 (Below.refl _ w))
  have HC1 : Kd.C (Kd.int .u8) w.drew (some a) n (l.take n) := Kd.C_below HCut (below_drew1 (Below.refl _ w))
  have HG := Aside0.mk hG
  have HG1 := Aside0.mk HG1
  have HC1 := Aside0.mk HC1
  have hnc : n ≤ c := by omega
  have hn63 : n ≤ 9223372036854775807 := by omega
  have HC := Aside0.mk HCut
  have HS := Aside0.mk hS
  clear hG hC HCut hS hi0 hsz0 hb hx0 hx1 hx2 hx3
  have hc4 : (n : Int) + 4 ≤ c := by omega
  have hl5 : (n : Int) ≤ 9223372036854775803 := by omega
  have hc0 : (0 : Int) ≤ n := by omega
  have htl : (l.take n).length = n := by rw [List.length_take]; omega
  rw [hn]
  clear hn hcap hlen
  go_enter Tryd.func38, Tryd.ntmps38
  go_wp2
  refine start_ (n := 10) (S := fun w' => w'.cell? (a.add n) = some (.int .u8 x0) ∧ w'.cell? ⟨(a.add n).block, (a.add n).off + 1, none⟩ = some (.int .u8 x1) ∧ w'.cell? ⟨(a.add n).block, (a.add n).off + 2, none⟩ = some (.int .u8 x2) ∧ w'.cell? ⟨(a.add n).block, (a.add n).off + 3, none⟩ = some (.int .u8 x3)) (ds := []) #[F_,F_,F_,F_,F_,F_,F_,F_,F_,F_] (by kernel_rfl) rfl rfl ⟨((HS.out _ (below_drew1 (Below.refl _ _))).1), ((HS.out _ (below_drew1 (Below.refl _ _))).2.1), ((HS.out _ (below_drew1 (Below.refl _ _))).2.2.1), ((HS.out _ (below_drew1 (Below.refl _ _))).2.2.2)⟩ (fun hHeld => ?_)
  refine pure_ (i := 0) (N := some 10) (v := ?_) (a' := ?_) #[T_,F_,F_,F_,F_,F_,F_,F_,F_,F_] rfl rfl (by kernel_rfl) (fun _ _ _ h => h) (Or.inl ⟨by rfl, ?_⟩) ?_ ?_
  rotate_left
  · intro w'
    go_simp
    with_reducible rfl
  rotate_left
  · simp only [Act.put, List.setIfInBounds_toArray, List.set_cons_zero, List.set_cons_succ, i64_w, i32_w]
    rfl
  refine pure_ (i := 1) (N := some 11) (v := ?_) (a' := ?_) #[T_,T_,F_,F_,F_,F_,F_,F_,F_,F_] rfl rfl (by kernel_rfl) (fun _ _ _ h => h) (Or.inl ⟨by rfl, ?_⟩) ?_ ?_
  rotate_left
  · intro w'
    go_simp
    with_reducible rfl
  rotate_left
  · simp only [Act.put, List.setIfInBounds_toArray, List.set_cons_zero, List.set_cons_succ, i64_w, i32_w]
    rfl
  refine pure_ (i := 2) (N := some 12) (v := ?_) (a' := ?_) #[T_,T_,T_,F_,F_,F_,F_,F_,F_,F_] rfl rfl (by kernel_rfl) (fun _ _ _ h => h) (Or.inl ⟨by rfl, ?_⟩) ?_ ?_
  rotate_left
  · intro w'
    go_simp
    with_reducible rfl
  rotate_left
  · simp only [Act.put, List.setIfInBounds_toArray, List.set_cons_zero, List.set_cons_succ, i64_w, i32_w]
    rfl
  refine pure_ (i := 4) (N := some 14) (v := ?_) (a' := ?_) #[T_,T_,T_,F_,T_,F_,F_,F_,F_,F_] rfl rfl (by kernel_rfl) (fun _ _ _ h => h) (Or.inl ⟨by rfl, ?_⟩) ?_ ?_
  rotate_left
  · intro w'
    go_simp
    with_reducible rfl
  rotate_left
  · simp only [Act.put, List.setIfInBounds_toArray, List.set_cons_zero, List.set_cons_succ, i64_w, i32_w]
    rfl
  refine pure_ (i := 5) (N := some 15) (v := ?_) (a' := ?_) #[T_,T_,T_,F_,T_,T_,F_,F_,F_,F_] rfl rfl (by kernel_rfl) (fun _ _ _ h => h) (Or.inl ⟨by rfl, ?_⟩) ?_ ?_
  rotate_left
  · intro w'
    go_simp
    with_reducible rfl
  rotate_left
  · simp only [Act.put, List.setIfInBounds_toArray, List.set_cons_zero, List.set_cons_succ, i64_w, i32_w]
    rfl
  refine pure_ (i := 6) (N := some 16) (v := ?_) (a' := ?_) #[T_,T_,T_,F_,T_,T_,T_,F_,F_,F_] rfl rfl (by kernel_rfl) (fun _ _ _ h => h) (Or.inl ⟨by rfl, ?_⟩) ?_ ?_
  rotate_left
  · intro w'
    go_simp
    with_reducible rfl
  rotate_left
  · simp only [Act.put, List.setIfInBounds_toArray, List.set_cons_zero, List.set_cons_succ, i64_w, i32_w]
    rfl
  refine pure_ (i := 7) (N := some 17) (v := ?_) (a' := ?_) #[T_,T_,T_,F_,T_,T_,T_,T_,F_,F_] rfl rfl (by kernel_rfl) (fun _ _ _ h => h) (Or.inl ⟨by rfl, ?_⟩) ?_ ?_
  rotate_left
  · intro w'
    go_simp
    with_reducible rfl
  rotate_left
  · simp only [Act.put, List.setIfInBounds_toArray, List.set_cons_zero, List.set_cons_succ, i64_w, i32_w]
    rfl
  refine take_ (i := 8) (N := some 18) (v := ?_) (a' := ?_) #[T_,T_,T_,F_,T_,T_,T_,T_,T_,F_] rfl rfl (by kernel_rfl) (fun _ _ _ h => h) (Or.inl ⟨by rfl, ?_⟩) hHeld ?_ ?_
  rotate_left
  · rintro w' ⟨s0, s1, s2, s3⟩
    go_simp
    with_reducible rfl
  rotate_left
  · simp only [Act.put, List.setIfInBounds_toArray, List.set_cons_zero, List.set_cons_succ, i64_w, i32_w]
    rfl
  refine one_ (i := 3) (N := some 13) #[T_,T_,T_,T_,T_,T_,T_,T_,T_,F_] rfl rfl (by kernel_rfl) (by decide) (fun K hK => ?_)
  refine goes_ Tryd.func59 (by kernel_rfl) rfl #[.slice (some a) n c] (by rfl) rfl rfl (by simp only [List.map_toArray, List.map_cons, List.map_nil]; rfl) ?_
  with_reducible refine (crc_seal.at_ (some a) c n (l.take n) _ htl HG1.out HC1.out hnc hn63).mono ?_
  rintro e w3 ⟨rfl, hb3⟩
  refine ⟨_, rfl, ?_⟩
  refine hK.out _ _ ⟨((HS.out _ (below_step (below_drew1 (Below.refl _ w)) hb3)).1), ((HS.out _ (below_step (below_drew1 (Below.refl _ w)) hb3)).2.1), ((HS.out _ (below_step (below_drew1 (Below.refl _ w)) hb3)).2.2.1), ((HS.out _ (below_step (below_drew1 (Below.refl _ w)) hb3)).2.2.2)⟩ (fun hHeld => ?_)
  clear hK K
  refine norm_ (a' := ?_) ?_ ?_
  rotate_left
  · show Act.put _ (some 13) _ = _
    simp only [Act.put, List.setIfInBounds_toArray, List.set_cons_zero, List.set_cons_succ, i64_w, i32_w]
    rfl
  refine pure_ (i := 9) (N := some 19) (v := ?_) (a' := ?_) #[T_,T_,T_,T_,T_,T_,T_,T_,T_,T_] rfl rfl (by kernel_rfl) (fun _ _ _ h => h) (Or.inl ⟨by rfl, ?_⟩) ?_ ?_
  rotate_left
  · intro w'
    go_simp
    with_reducible rfl
  rotate_left
  · simp only [Act.put, List.setIfInBounds_toArray, List.set_cons_zero, List.set_cons_succ, i64_w, i32_w]
    rfl
  refine done_ (by kernel_rfl) ?_
  go_wp2
  go_ret2
  exact ⟨rfl, below_step (below_drew1 (Below.refl _ w)) hb3⟩
set_option maxHeartbeats 1000000 in
theorem crc_Open.good (a : Addr) (c : Nat) (l : List Int) (n : Nat) (w : World) (hG : GT w) (hC : Kd.C (Kd.int .u8) w (some a) l.length l) (hcap : l.length ≤ c) (hlen : l.length ≤ 140737488355328) (hn : l.length = n + 4) (x0 x1 x2 x3 : Int)
    (hx0 : rd l ((n + 0 : Nat) : Int) = x0) (hx1 : rd l ((n + 1 : Nat) : Int) = x1) (hx2 : rd l ((n + 2 : Nat) : Int) = x2) (hx3 : rd l ((n + 3 : Nat) : Int) = x3) (hb : decide (sealL (crcSum (l.take n)) = [x0, x1, x2, x3]) = true) :
    Calls Tryd.prog 38 #[.slice (some a) l.length c] w fun e w' => ∃ v, e = .returned (.tuple #[v, .int .i64 0]) ∧ Kd.R (Kd.int .u8) 5 w' w.heap.size (fun _ => True) v (l.take n) ∧ Below w.heap.size w w' := by
  have hS : ∀ W : World, Below w.heap.size w W → W.cell? (a.add n) = some (.int .u8 x0) ∧ W.cell? ⟨(a.add n).block, (a.add n).off + 1, none⟩ = some (.int .u8 x1) ∧
      W.cell? ⟨(a.add n).block, (a.add n).off + 2, none⟩ = some (.int .u8 x2) ∧ W.cell? ⟨(a.add n).block, (a.add n).off + 3, none⟩ = some (.int .u8 x3) := by
    intro W hb
    have t := fun i hi => tail_cell (Kd.C_below hC hb) n hn i hi
    subst hx0 hx1 hx2 hx3
    exact ⟨(by have := t 0 (by omega); rwa [Addr.add_zero'] at this), t 1 (by omega), t 2 (by omega), t 3 (by omega)⟩
  obtain ⟨i0, hi0, _, hsz0, _⟩ := info_parts info5_
  have hs1 := cut_to (P := Tryd.prog) 41 5 .i64 Tryd.underlying41 hi0 (some a) (n + 4) c (n : Int) (by omega) (by omega) (by omega)
  have hs2 := cut_from (P := Tryd.prog) 41 5 .i64 Tryd.underlying41 hi0 1 hsz0 (some a) (n + 4) c (n : Int) (by omega) (by omega)
  rw [Int.toNat_natCast] at hs1 hs2
  rw [if_neg (by omega), show n + 4 - n = 4 by omega, Nat.mul_one] at hs2
  have hs3 := fun W : World => run_arrayAt (P := Tryd.prog) W 98 5 4 (some (a.add n)) 4 (c - n) Tryd.underlying98 (Nat.le_refl _)
  have hbin : ∀ W : World, (binOp .neq 98 (sealV (crcSum (l.take n))) (.agg #[.int .u8 x0, .int .u8 x1, .int .u8 x2, .int .u8 x3])).run Tryd.prog W = .ok (.bool false) W := by
    intro W
    have := run_equalIn_ints (P := Tryd.prog) W 9998 98 5 .u8 4 (sealL (crcSum (l.take n))) [x0, x1, x2, x3] Tryd.underlying98 Tryd.underlying5 (by kernel_rfl) rfl rfl
    rw [hb, ← sealV_eq] at this
    unfold sealV at this ⊢
    rw [run_neq_struct]
    rw [show (9998 + 2 : Nat) = 10000 from rfl] at this
    simp only [List.map_cons, List.map_nil] at this
    rw [this]; rfl
  have hgu : ∀ W : World, (eqGuard .neq 98 (.tmp 13) (.tmp 18) (sealV (crcSum (l.take n))) (.agg #[.int .u8 x0, .int .u8 x1, .int .u8 x2, .int .u8 x3])).run Tryd.prog W = .ok () W := fun W => run_guard_agg W 98 _ _ _ _ (by kernel_rfl)
  have HCut : Kd.C (Kd.int .u8) w (some a) n (l.take n) := by
    have h_ := Kd.C_take hC (m := n) (by omega)
    rwa [List.length_take, Nat.min_eq_left (by omega)] at h_
  have HG1 := GT.below hG (below_drew1 (Below.refl _ w))
  have HC1 : Kd.C (Kd.int .u8) w.drew (some a) n (l.take n) := Kd.C_below HCut (below_drew1 (Below.refl _ w))
  have HG := Aside0.mk hG
  have HG1 := Aside0.mk HG1
  have HC1 := Aside0.mk HC1
  have hnc : n ≤ c := by omega
  have hn63 : n ≤ 9223372036854775807 := by omega
  have HC := Aside0.mk HCut
  have HS := Aside0.mk hS
  clear hG hC HCut hS hi0 hsz0 hb hx0 hx1 hx2 hx3
  have hc4 : (n : Int) + 4 ≤ c := by omega
  have hl5 : (n : Int) ≤ 9223372036854775803 := by omega
  have hc0 : (0 : Int) ≤ n := by omega
  have hn47 : n < 140737488355328 := by omega
  have htl : (l.take n).length = n := by rw [List.length_take]; omega
  rw [hn]
  clear hn hcap hlen
  go_enter Tryd.func38, Tryd.ntmps38
  go_wp2
  refine start_ (n := 10) (S := fun w' => w'.cell? (a.add n) = some (.int .u8 x0) ∧ w'.cell? ⟨(a.add n).block, (a.add n).off + 1, none⟩ = some (.int .u8 x1) ∧ w'.cell? ⟨(a.add n).block, (a.add n).off + 2, none⟩ = some (.int .u8 x2) ∧ w'.cell? ⟨(a.add n).block, (a.add n).off + 3, none⟩ = some (.int .u8 x3)) (ds := []) #[F_,F_,F_,F_,F_,F_,F_,F_,F_,F_] (by kernel_rfl) rfl rfl ⟨((HS.out _ (below_drew1 (Below.refl _ _))).1), ((HS.out _ (below_drew1 (Below.refl _ _))).2.1), ((HS.out _ (below_drew1 (Below.refl _ _))).2.2.1), ((HS.out _ (below_drew1 (Below.refl _ _))).2.2.2)⟩ (fun hHeld => ?_)
  refine pure_ (i := 0) (N := some 10) (v := ?_) (a' := ?_) #[T_,F_,F_,F_,F_,F_,F_,F_,F_,F_] rfl rfl (by kernel_rfl) (fun _ _ _ h => h) (Or.inl ⟨by rfl, ?_⟩) ?_ ?_
  rotate_left
  · intro w'
    go_simp
    with_reducible rfl
  rotate_left
  · simp only [Act.put, List.setIfInBounds_toArray, List.set_cons_zero, List.set_cons_succ, i64_w, i32_w]
    rfl
  refine pure_ (i := 1) (N := some 11) (v := ?_) (a' := ?_) #[T_,T_,F_,F_,F_,F_,F_,F_,F_,F_] rfl rfl (by kernel_rfl) (fun _ _ _ h => h) (Or.inl ⟨by rfl, ?_⟩) ?_ ?_
  rotate_left
  · intro w'
    go_simp
    with_reducible rfl
  rotate_left
  · simp only [Act.put, List.setIfInBounds_toArray, List.set_cons_zero, List.set_cons_succ, i64_w, i32_w]
    rfl
  refine pure_ (i := 2) (N := some 12) (v := ?_) (a' := ?_) #[T_,T_,T_,F_,F_,F_,F_,F_,F_,F_] rfl rfl (by kernel_rfl) (fun _ _ _ h => h) (Or.inl ⟨by rfl, ?_⟩) ?_ ?_
  rotate_left
  · intro w'
    go_simp
    with_reducible rfl
  rotate_left
  · simp only [Act.put, List.setIfInBounds_toArray, List.set_cons_zero, List.set_cons_succ, i64_w, i32_w]
    rfl
  refine pure_ (i := 4) (N := some 14) (v := ?_) (a' := ?_) #[T_,T_,T_,F_,T_,F_,F_,F_,F_,F_] rfl rfl (by kernel_rfl) (fun _ _ _ h => h) (Or.inl ⟨by rfl, ?_⟩) ?_ ?_
  rotate_left
  · intro w'
    go_simp
    with_reducible rfl
  rotate_left
  · simp only [Act.put, List.setIfInBounds_toArray, List.set_cons_zero, List.set_cons_succ, i64_w, i32_w]
    rfl
  refine pure_ (i := 5) (N := some 15) (v := ?_) (a' := ?_) #[T_,T_,T_,F_,T_,T_,F_,F_,F_,F_] rfl rfl (by kernel_rfl) (fun _ _ _ h => h) (Or.inl ⟨by rfl, ?_⟩) ?_ ?_
  rotate_left
  · intro w'
    go_simp
    with_reducible rfl
  rotate_left
  · simp only [Act.put, List.setIfInBounds_toArray, List.set_cons_zero, List.set_cons_succ, i64_w, i32_w]
    rfl
  refine pure_ (i := 6) (N := some 16) (v := ?_) (a' := ?_) #[T_,T_,T_,F_,T_,T_,T_,F_,F_,F_] rfl rfl (by kernel_rfl) (fun _ _ _ h => h) (Or.inl ⟨by rfl, ?_⟩) ?_ ?_
  rotate_left
  · intro w'
    go_simp
    with_reducible rfl
  rotate_left
  · simp only [Act.put, List.setIfInBounds_toArray, List.set_cons_zero, List.set_cons_succ, i64_w, i32_w]
    rfl
  refine pure_ (i := 7) (N := some 17) (v := ?_) (a' := ?_) #[T_,T_,T_,F_,T_,T_,T_,T_,F_,F_] rfl rfl (by kernel_rfl) (fun _ _ _ h => h) (Or.inl ⟨by rfl, ?_⟩) ?_ ?_
  rotate_left
  · intro w'
    go_simp
    with_reducible rfl
  rotate_left
  · simp only [Act.put, List.setIfInBounds_toArray, List.set_cons_zero, List.set_cons_succ, i64_w, i32_w]
    rfl
  refine take_ (i := 8) (N := some 18) (v := ?_) (a' := ?_) #[T_,T_,T_,F_,T_,T_,T_,T_,T_,F_] rfl rfl (by kernel_rfl) (fun _ _ _ h => h) (Or.inl ⟨by rfl, ?_⟩) hHeld ?_ ?_
  rotate_left
  · rintro w' ⟨s0, s1, s2, s3⟩
    go_simp
    with_reducible rfl
  rotate_left
  · simp only [Act.put, List.setIfInBounds_toArray, List.set_cons_zero, List.set_cons_succ, i64_w, i32_w]
    rfl
  refine one_ (i := 3) (N := some 13) #[T_,T_,T_,T_,T_,T_,T_,T_,T_,F_] rfl rfl (by kernel_rfl) (by decide) (fun K hK => ?_)
  refine goes_ Tryd.func59 (by kernel_rfl) rfl #[.slice (some a) n c] (by rfl) rfl rfl (by simp only [List.map_toArray, List.map_cons, List.map_nil]; rfl) ?_
  with_reducible refine (crc_seal.at_ (some a) c n (l.take n) _ htl HG1.out HC1.out hnc hn63).mono ?_
  rintro e w3 ⟨rfl, hb3⟩
  refine ⟨_, rfl, ?_⟩
  refine hK.out _ _ ⟨((HS.out _ (below_step (below_drew1 (Below.refl _ w)) hb3)).1), ((HS.out _ (below_step (below_drew1 (Below.refl _ w)) hb3)).2.1), ((HS.out _ (below_step (below_drew1 (Below.refl _ w)) hb3)).2.2.1), ((HS.out _ (below_step (below_drew1 (Below.refl _ w)) hb3)).2.2.2)⟩ (fun hHeld => ?_)
  clear hK K
  refine norm_ (a' := ?_) ?_ ?_
  rotate_left
  · show Act.put _ (some 13) _ = _
    simp only [Act.put, List.setIfInBounds_toArray, List.set_cons_zero, List.set_cons_succ, i64_w, i32_w]
    rfl
  refine pure_ (i := 9) (N := some 19) (v := ?_) (a' := ?_) #[T_,T_,T_,T_,T_,T_,T_,T_,T_,T_] rfl rfl (by kernel_rfl) (fun _ _ _ h => h) (Or.inl ⟨by rfl, ?_⟩) ?_ ?_
  rotate_left
  · intro w'
    go_simp
    with_reducible rfl
  rotate_left
  · simp only [Act.put, List.setIfInBounds_toArray, List.set_cons_zero, List.set_cons_succ, i64_w, i32_w]
    rfl
  refine done_ (by kernel_rfl) ?_
  have HB3 := Aside0.mk (below_step (below_drew1 (Below.refl _ w)) hb3)
  clear hb3 hHeld
  go_wp2_with ((with_reducible refine gate_builtin (b := .append) (xs := #[.const (.slice none 0 0), .tmp 22]) rfl ?_); (try (refine gate_guard (by rfl) ?_; dsimp only)); at_builtin; refine Kd.R_append_rows (Kd.int .u8) (w0 := w) w.heap.size rfl (.const (.slice none 0 0)) (.tmp 22) 41 5 (.int .u8 0) 1 rfl Tryd.underlying41 info5_ rfl (by decide) (by omega) (.slice none 0 0) ([] : List Int) (l.take n) _ _ _ (fun _ => True) (fun _ => False) rfl rfl ?aO ?aR (fun _ _ h => h) (fun _ h => h.elim) ?aF ?aB ?aS ?aL ?_; (case aR => exact Kd.C_below HC.out HB3.out); (case aB => exact HB3.out); (case aF => exact (fun _ _ => trivial)); (case aO => exact Kd.R_nil _ _ _ _ _); (case aS => exact (below_size HB3.out)); (case aL => simp; omega); intro v2 w4 ho hb hg hat; have HO4 := Aside0.mk ho; have HB4 := Aside0.mk hb; clear ho hb hg hat)
  go_ret2
  exact ⟨_, rfl, HO4.out, HB4.out⟩

theorem crc_Open.small (A : Option Addr) (c : Nat) (l : List Int) (w : World) (hlen : l.length < 4) :
    Calls Tryd.prog 38 #[.slice A l.length c] w fun e w' => e = .returned (.tuple #[.slice none 0 0, .int .i64 4]) ∧ w' = w := by
  have h0 : (l.length : Int) - 4 < 0 := by omega
  have h1 : -4 ≤ (l.length : Int) - 4 := by omega
  go_enter Tryd.func38, Tryd.ntmps38
  go_wp2
  go_ret2
  exact ⟨rfl, rfl⟩
def crc_Open.f (l0 : List Int) : Option (List Int × Int) :=
  if l0.length < 4 then some ([], 4) else if l0.length ≤ 140737488355328 then
    (if l0.drop (l0.length - 4) = sealL (crcSum (l0.take (l0.length - 4))) then some (l0.take (l0.length - 4), 0) else some ([], 6)) else none
theorem four_tail (l : List Int) (n : Nat) (hn : l.length = n + 4) : l.drop n = [rd l ((n + 0 : Nat) : Int), rd l ((n + 1 : Nat) : Int), rd l ((n + 2 : Nat) : Int), rd l ((n + 3 : Nat) : Int)] := by
  apply List.ext_getElem
  · simp; omega
  · intro i h1 h2
    have hi : i < 4 := by simpa using h2
    have e : ∀ j : Nat, j < l.length → rd l (j : Int) = l.getD j 0 := fun j hj => by simp [rd]
    rw [e _ (by omega), e _ (by omega), e _ (by omega), e _ (by omega)]
    have : i = 0 ∨ i = 1 ∨ i = 2 ∨ i = 3 := by omega
    rcases this with rfl | rfl | rfl | rfl <;> (simp [List.getD_eq_getElem?_getD]; rw [List.getElem?_eq_getElem (by omega)]; rfl)
end Go.Proofs.YtniboafnkiijcaaDoor.P
