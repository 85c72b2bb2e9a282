-- Written by a program of the session (wip/tool/mk.py) out of the translation; Lean checks it.
import Derived.Test.YtmllikjhflnngaaDoorPx0
namespace Go.Proofs.YtmllikjhflnngaaDoor.P
open Go.RowKit Go.Proofs.YtmllikjhflnngaaDoorW.PrintWords Go.Proofs.YtmllikjhflnngaaDoorW.PrintLast Go.Proofs.YtmllikjhflnngaaDoorW.PrintMore
attribute [local go_sem] max2_int min2_int max_two min_two max_three min_three max_four min_four   -- for this text's walks alone
set_option linter.unusedVariables false
set_option linter.unusedSimpArgs false

/-! ### crc_Of: function 44, a contract of my own -/
def crc_Of.f (l0 : List (List Int)) : Option Int := some (Go.bits .xor .u32 4294967295 (l0.foldl crcFold 4294967295))
theorem crc_Of.parts {w : World} {A : Option Addr} {ls : List (List Int)} (h : Kd.C (Kd.slice 5 (Kd.int .u8)) w A ls.length ls) : ∃ ps : List (Option Addr × Nat × List Int), ps.map (fun p => p.2.2) = ls ∧ Parts w A ps := by
  have key : ∀ i : Fin ls.length, ∃ p : Option Addr × Nat × List Int, p.2.2 = ls[i] ∧ (∃ a, A = some a ∧ w.cell? (a.add i) = some (.slice p.1 p.2.2.length p.2.1)) ∧ Kd.C (Kd.int .u8) w p.1 p.2.2.length p.2.2 ∧ p.2.2.length ≤ p.2.1 ∧ p.2.2.length ≤ 9223372036854775807 := by
    intro i
    obtain ⟨ad, A1, c1, e, hx, hl, hc⟩ := at_L1 h (i.val : Int) (by omega) (by omega)
    have hrd : rd_L1 ls (i.val : Int) = ls[i] := by simp [rd_L1]
    rw [hrd] at hx hl hc
    exact ⟨(A1, c1, ls[i]), rfl, ⟨ad, e, by simpa using hx⟩, hc, hl, (Kd.reads_of_C (d := (0 : Int)) hc).2.1⟩
  refine ⟨List.ofFn fun i => (key i).choose, ?_, ?_⟩
  · apply List.ext_getElem (by simp)
    intro i h1 h2
    simp only [List.getElem_map, List.getElem_ofFn]
    exact (key ⟨i, h2⟩).choose_spec.1
  · intro i hi
    have h2 : i < ls.length := by simpa using hi
    have := (key ⟨i, h2⟩).choose_spec.2
    simp only [List.getElem_ofFn]
    exact this
theorem crc_Of.calls (A0 : Option Addr) (c0 : Nat) (l0 : List (List Int)) (r : Int) (w : World) (hG : GT w) (hr0 : Kd.C (Kd.slice 5 (Kd.int .u8)) w A0 l0.length l0) (hc0 : l0.length ≤ c0) (h : crc_Of.f l0 = some r) :
    Calls Tryd.prog 44 #[.slice A0 l0.length c0] w fun e w' => e = .returned (.int .u32 r) ∧ Drawn0 w w' := by
  obtain ⟨ps, hps, hP⟩ := crc_Of.parts hr0
  have hl : l0.length = ps.length := by rw [← hps]; simp
  obtain rfl := Option.some.inj h
  have e1 : l0.foldl crcFold 4294967295 = crcOfPs 4294967295 ps := by rw [← hps, List.foldl_map]; rfl
  rw [hl, e1]
  refine (crc_Of.walked A0 c0 ps w hG hP ?_).mono ?_
  · rw [← hl]; exact hr0.2.1
  · rintro e w' ⟨rfl, rfl⟩
    exact ⟨rfl, Drawn0.refl _⟩


-- NOT PRINTED: function 38 (crc_seal)

/-! ### crc_Seal: function 30, a contract of my own -/
def crc_Seal.f (l0 : List Int) : Option (List Int) := if l0.length + 4 ≤ 140737488355328 then some (l0 ++ sealL (crcSum l0)) else none
theorem crc_Seal.calls (A0 : Option Addr) (c0 : Nat) (l0 : List Int) (r : List Int) (w : World) (hG : GT w) (hr0 : Kd.C (Kd.int .u8) w A0 l0.length l0) (hc0 : l0.length ≤ c0) (h : crc_Seal.f l0 = some r) :
    Calls Tryd.prog 30 #[.slice A0 l0.length c0] w fun e w' => ∃ v0_ : Value, e = .returned (v0_) ∧ Kd.R (Kd.int .u8) 5 w' w.heap.size (fun _ => True) v0_ r ∧ Below w.heap.size w w' := by
  unfold crc_Seal.f at h
  by_cases hl : l0.length + 4 ≤ 140737488355328
  · rw [if_pos hl] at h
    obtain rfl := Option.some.inj h
    exact crc_Seal.walked A0 c0 l0 w hG hr0 hc0 hl
  · rw [if_neg hl] at h; cases h


end Go.Proofs.YtmllikjhflnngaaDoor.P
