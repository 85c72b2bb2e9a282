-- Written by a program of the session (wip/tool/mk.py) out of the translation; Lean checks it.
import Derived.Test.YtplpckppejnicaaDoorPx0
namespace Go.Proofs.YtplpckppejnicaaDoor.P
open Go.RowKit Go.Proofs.YtplpckppejnicaaDoorW.PrintWords Go.Proofs.YtplpckppejnicaaDoorW.PrintLast Go.Proofs.YtplpckppejnicaaDoorW.PrintMore
attribute [local go_sem] max2_int min2_int max_two min_two max_three min_three max_four min_four   -- for this text's walks alone
set_option linter.unusedVariables false
set_option linter.unusedSimpArgs false

/-! ### crc_Of: function 11, a contract of my own -/
def crc_Of.f (l0 : List (List Int)) : Option Int := some (Go.bits .xor .u32 4294967295 (l0.foldl crcFold 4294967295))
theorem crc_Of.parts {w : World} {A : Option Addr} {ls : List (List Int)} (h : Kd.C (Kd.slice 5 (Kd.int .u8)) w A ls.length ls) : ∃ ps : List (Option Addr × Nat × List Int), ps.map (fun p => p.2.2) = ls ∧ Parts w A ps := by
  have key : ∀ i : Fin ls.length, ∃ p : Option Addr × Nat × List Int, p.2.2 = ls[i] ∧ (∃ a, A = some a ∧ w.cell? (a.add i) = some (.slice p.1 p.2.2.length p.2.1)) ∧ Kd.C (Kd.int .u8) w p.1 p.2.2.length p.2.2 ∧ p.2.2.length ≤ p.2.1 ∧ p.2.2.length ≤ 9223372036854775807 := by
    intro i
    obtain ⟨ad, A1, c1, e, hx, hl, hc⟩ := at_L1 h (i.val : Int) (by omega) (by omega)
    have hrd : rd_L1 ls (i.val : Int) = ls[i] := by simp [rd_L1]
    rw [hrd] at hx hl hc
    exact ⟨(A1, c1, ls[i]), rfl, ⟨ad, e, by simpa using hx⟩, hc, hl, (Kd.reads_of_C (d := (0 : Int)) hc).2.1⟩
  refine ⟨List.ofFn fun i => (key i).choose, ?_, ?_⟩
  · apply List.ext_getElem (by simp)
    intro i h1 h2
    simp only [List.getElem_map, List.getElem_ofFn]
    exact (key ⟨i, h2⟩).choose_spec.1
  · intro i hi
    have h2 : i < ls.length := by simpa using hi
    have := (key ⟨i, h2⟩).choose_spec.2
    simp only [List.getElem_ofFn]
    exact this
theorem crc_Of.calls (A0 : Option Addr) (c0 : Nat) (l0 : List (List Int)) (r : Int) (w : World) (hG : GT w) (hr0 : Kd.C (Kd.slice 5 (Kd.int .u8)) w A0 l0.length l0) (hc0 : l0.length ≤ c0) (h : crc_Of.f l0 = some r) :
    Calls Tryd.prog 11 #[.slice A0 l0.length c0] w fun e w' => e = .returned (.int .u32 r) ∧ Drawn0 w w' := by
  obtain ⟨ps, hps, hP⟩ := crc_Of.parts hr0
  have hl : l0.length = ps.length := by rw [← hps]; simp
  obtain rfl := Option.some.inj h
  have e1 : l0.foldl crcFold 4294967295 = crcOfPs 4294967295 ps := by rw [← hps, List.foldl_map]; rfl
  rw [hl, e1]
  refine (crc_Of.walked A0 c0 ps w hG hP ?_).mono ?_
  · rw [← hl]; exact hr0.2.1
  · rintro e w' ⟨rfl, rfl⟩
    exact ⟨rfl, Drawn0.refl _⟩


/-! ### remoralaw02_awake: function 10, a contract of my own -/
def remoralaw02_awake.f : Option Bool := some true
theorem remoralaw02_awake.e1 : crcSum [49, 50, 51, 52, 53, 54, 55, 56, 57] = 3421780262 := by kernel_rfl
theorem remoralaw02_awake.e2 : crcSum [97] = 3904355907 := by kernel_rfl
set_option maxHeartbeats 1000000 in
theorem remoralaw02_awake.calls (r : Bool) (w : World) (hG : GT w) (h : remoralaw02_awake.f = some r) :
    Calls Tryd.prog 10 #[] w fun e w' => e = .returned (.bool r) ∧ Below w.heap.size w w' := by
  obtain rfl : true = r := Option.some.inj h
  have kc := fun (w : World) (C : Array Value) (n c : Nat) => Lib.run_convert_bytes_const (P := Tryd.prog) w 24 5 C n c Tryd.underlying24 Tryd.underlying5
  have HG := Aside0.mk hG
  clear hG
  go_enter Tryd.func10, Tryd.ntmps10
  go_wp2_with fail
  refine (crc_Of.one _ _ _ _ [49, 50, 51, 52, 53, 54, 55, 56, 57] _ ((HG.out.alloc _).alloc _) (by simp) (Kd.C_alloc (Kd.C_const w 5 [49, 50, 51, 52, 53, 54, 55, 56, 57] (9, 10) (by decide)) _) (Nat.le_refl _) (by decide)).mono ?_
  rw [remoralaw02_awake.e1]
  rintro e w2 ⟨rfl, hw⟩
  have b1 : Aside0 (Below w.heap.size w w2) := ⟨by rw [hw]; exact below_alloc (below_alloc (Below.refl _ w) _) _⟩
  clear hw
  go_wp2_with fail
  refine (crc_Of.one _ _ _ _ [97] _ ?hG ?hc (Kd.C_alloc (Kd.C_const w2 5 [97] (1, 2) (by decide)) _) (Nat.le_refl _) (by decide)).mono ?_
  case hG => exact ((HG.out.below b1.out).alloc _).alloc _
  case hc => simp
  rw [remoralaw02_awake.e2]
  rintro e w4 ⟨rfl, hw⟩
  have b2 : Aside0 (Below w.heap.size w w4) := ⟨by rw [hw]; exact below_alloc (below_alloc b1.out _) _⟩
  clear hw
  go_wp2_with fail
  refine (crc_Of.nil _ (HG.out.below b2.out)).mono ?_
  rintro e w3 ⟨rfl, rfl⟩
  go_wp2
  go_ret
  exact ⟨rfl, b2.out⟩


end Go.Proofs.YtplpckppejnicaaDoor.P
