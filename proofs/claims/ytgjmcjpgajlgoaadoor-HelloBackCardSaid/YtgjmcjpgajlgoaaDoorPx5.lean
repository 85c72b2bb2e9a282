-- Written by a program of the session (wip/tool/mk.py) out of the translation; Lean checks it.
import Derived.Test.YtgjmcjpgajlgoaaDoorPx0
import Derived.Test.YtgjmcjpgajlgoaaDoorPx2
import Derived.Test.YtgjmcjpgajlgoaaDoorPx3
import Derived.Test.YtgjmcjpgajlgoaaDoorPx4
namespace Go.Proofs.YtgjmcjpgajlgoaaDoor.P
open Go.RowKit Go.Proofs.YtgjmcjpgajlgoaaDoorW.PrintWords Go.Proofs.YtgjmcjpgajlgoaaDoorW.PrintLast Go.Proofs.YtgjmcjpgajlgoaaDoorW.PrintMore
attribute [local go_sem] max2_int min2_int max_two min_two max_three min_three max_four min_four   -- for this text's walks alone
set_option linter.unusedVariables false
set_option linter.unusedSimpArgs false

/-! ### hello_Read: function 7, a contract of my own -/
set_option maxHeartbeats 2000000 in
theorem read_bad (A0 : Option Addr) (c0 : Nat) (l O : List Int) (e : Int) (w : World) (hG : GT w) (hC : Kd.C (Kd.int .u8) w A0 l.length l) (hc0 : l.length ≤ c0) (ho : crc_Open.f l = some (O, e)) (he : (e != 0) = true) :
    Calls Tryd.prog 7 #[.slice A0 l.length c0] w fun r w' => r = .returned (.tuple #[.agg off0, .int .i64 e]) ∧ Below w.heap.size w w' := by
  have HB0 := Aside0.mk (below_alloc (Below.refl _ w) (.cells off0 23))
  have u0 := fr_new w (.cells off0 23)
  have sz0 := fr_size w (.cells off0 23)
  have HG := Aside0.mk (hG.alloc (.cells off0 23))
  have HC := Aside0.mk (Kd.C_alloc hC (.cells off0 23))
  have HO := Aside0.mk ho
  clear hG hC ho
  go_enter Tryd.func7, Tryd.ntmps7
  go_wp2_with fail
  refine (crc_Open.calls A0 c0 l O e _ HG.out HC.out hc0 HO.out).mono ?_
  rintro r w1 ⟨v, rfl, hR, hb⟩
  obtain ⟨A1, c1, rfl, hc1, hC1⟩ := R_sl hR
  have u1 := (hb.block w.heap.size (by omega)).trans u0
  have hz := hb.size
  have f0 := fun j => blk_frozen u1 j
  have HB1 := Aside0.mk (below_step HB0.out hb)
  have U1 := Aside0.mk u1
  have c0_ : ∀ j, j < 5 → w1.cell? ⟨w.heap.size, j, none⟩ = some (.int .i64 0) := fun j hj => by
    rw [cell_of_row _ _ _ _ 23 (0, 0) u1]
    match j, hj with
    | 0, _ => rfl
    | 1, _ => rfl
    | 2, _ => rfl
    | 3, _ => rfl
    | 4, _ => rfl
  have d0 := c0_ 0 (by omega)
  have d1 := c0_ 1 (by omega)
  have d2 := c0_ 2 (by omega)
  have d3 := c0_ 3 (by omega)
  have d4 := c0_ 4 (by omega)
  have f0' := f0 0
  have f1' := f0 1
  have f2' := f0 2
  have f3' := f0 3
  have f4' := f0 4
  clear hb u1 u0 sz0 hR hC1 hz f0 c0_
  go_wp2
  refine bodyPost_ret (results_ct rfl _ _ w.heap.size 23 off0 (0, 0) _ rfl (blk_put (blk_put (blk_put (blk_put (blk_put U1.out 0 (.int .i64 0) rfl) 1 (.int .i64 0) rfl) 2 (.int .i64 0) rfl) 3 (.int .i64 0) rfl) 4 (.int .i64 0) rfl) Tryd.underlying23 rfl (by kernel_rfl)) rfl ?_
  exact ⟨rfl, below_set (below_set (below_set (below_set (below_set HB1.out (Nat.le_refl _)) (Nat.le_refl _)) (Nat.le_refl _)) (Nat.le_refl _)) (Nat.le_refl _)⟩
set_option maxHeartbeats 2000000 in
theorem read_empty (A0 : Option Addr) (c0 : Nat) (l O : List Int) (w : World) (hG : GT w) (hC : Kd.C (Kd.int .u8) w A0 l.length l) (hc0 : l.length ≤ c0) (ho : crc_Open.f l = some (O, 0)) (hO : O.length = 0) :
    Calls Tryd.prog 7 #[.slice A0 l.length c0] w fun r w' => r = .returned (.tuple #[.agg off0, .int .i64 5]) ∧ Below w.heap.size w w' := by
  have HB0 := Aside0.mk (below_alloc (Below.refl _ w) (.cells off0 23))
  have u0 := fr_new w (.cells off0 23)
  have sz0 := fr_size w (.cells off0 23)
  have HG := Aside0.mk (hG.alloc (.cells off0 23))
  have HC := Aside0.mk (Kd.C_alloc hC (.cells off0 23))
  have HO := Aside0.mk ho
  clear hG hC ho
  go_enter Tryd.func7, Tryd.ntmps7
  go_wp2_with fail
  refine (crc_Open.calls A0 c0 l O 0 _ HG.out HC.out hc0 HO.out).mono ?_
  rintro r w1 ⟨v, rfl, hR, hb⟩
  obtain ⟨A1, c1, rfl, hc1, hC1⟩ := R_sl hR
  have u1 := (hb.block w.heap.size (by omega)).trans u0
  have hz := hb.size
  have f0 := fun j => blk_frozen u1 j
  have HB1 := Aside0.mk (below_step HB0.out hb)
  have U1 := Aside0.mk u1
  have c0_ : ∀ j, j < 5 → w1.cell? ⟨w.heap.size, j, none⟩ = some (.int .i64 0) := fun j hj => by
    rw [cell_of_row _ _ _ _ 23 (0, 0) u1]
    match j, hj with
    | 0, _ => rfl
    | 1, _ => rfl
    | 2, _ => rfl
    | 3, _ => rfl
    | 4, _ => rfl
  have d0 := c0_ 0 (by omega)
  have d1 := c0_ 1 (by omega)
  have d2 := c0_ 2 (by omega)
  have d3 := c0_ 3 (by omega)
  have d4 := c0_ 4 (by omega)
  have f0' := f0 0
  have f1' := f0 1
  have f2' := f0 2
  have f3' := f0 3
  have f4' := f0 4
  have o1 : ((O.length : Int) == 0) = true := by rw [hO]; rfl
  have o2 : (O.length == 0) = true := by rw [hO]; rfl
  clear hO
  clear hb u1 u0 sz0 hR hC1 hz f0 c0_
  go_wp2
  refine bodyPost_ret (results_ct rfl _ _ w.heap.size 23 off0 (0, 0) _ rfl (blk_put (blk_put (blk_put (blk_put (blk_put U1.out 0 (.int .i64 0) rfl) 1 (.int .i64 0) rfl) 2 (.int .i64 0) rfl) 3 (.int .i64 0) rfl) 4 (.int .i64 0) rfl) Tryd.underlying23 rfl (by kernel_rfl)) rfl ?_
  exact ⟨rfl, below_set (below_set (below_set (below_set (below_set HB1.out (Nat.le_refl _)) (Nat.le_refl _)) (Nat.le_refl _)) (Nat.le_refl _)) (Nat.le_refl _)⟩

set_option maxHeartbeats 2000000 in
theorem read_letter (A0 : Option Addr) (c0 : Nat) (l O : List Int) (w : World) (hG : GT w) (hC : Kd.C (Kd.int .u8) w A0 l.length l) (hc0 : l.length ≤ c0) (ho : crc_Open.f l = some (O, 0)) (hO : 0 < O.length) (hL : (rd O 0 == 82) = false) :
    Calls Tryd.prog 7 #[.slice A0 l.length c0] w fun r w' => r = .returned (.tuple #[.agg off0, .int .i64 5]) ∧ Below w.heap.size w w' := by
  have HB0 := Aside0.mk (below_alloc (Below.refl _ w) (.cells off0 23))
  have u0 := fr_new w (.cells off0 23)
  have sz0 := fr_size w (.cells off0 23)
  have HG := Aside0.mk (hG.alloc (.cells off0 23))
  have HC := Aside0.mk (Kd.C_alloc hC (.cells off0 23))
  have HO := Aside0.mk ho
  clear hG hC ho
  go_enter Tryd.func7, Tryd.ntmps7
  go_wp2_with fail
  refine (crc_Open.calls A0 c0 l O 0 _ HG.out HC.out hc0 HO.out).mono ?_
  rintro r w1 ⟨v, rfl, hR, hb⟩
  obtain ⟨A1, c1, rfl, hc1, hC1⟩ := R_sl hR
  have u1 := (hb.block w.heap.size (by omega)).trans u0
  have hz := hb.size
  have f0 := fun j => blk_frozen u1 j
  have HB1 := Aside0.mk (below_step HB0.out hb)
  have U1 := Aside0.mk u1
  have c0_ : ∀ j, j < 5 → w1.cell? ⟨w.heap.size, j, none⟩ = some (.int .i64 0) := fun j hj => by
    rw [cell_of_row _ _ _ _ 23 (0, 0) u1]
    match j, hj with
    | 0, _ => rfl
    | 1, _ => rfl
    | 2, _ => rfl
    | 3, _ => rfl
    | 4, _ => rfl
  have d0 := c0_ 0 (by omega)
  have d1 := c0_ 1 (by omega)
  have d2 := c0_ 2 (by omega)
  have d3 := c0_ 3 (by omega)
  have d4 := c0_ 4 (by omega)
  have f0' := f0 0
  have f1' := f0 1
  have f2' := f0 2
  have f3' := f0 3
  have f4' := f0 4
  have o1 : ((O.length : Int) == 0) = false := by simp; intro h; rw [h] at hO; simp at hO
  have o2 : (O.length == 0) = false := by simp; intro h; rw [h] at hO; simp at hO
  have o3 : (rd O 0 != 82) = true := by simpa using hL
  have o4 : (0 < O.length) = True := eq_true hO
  obtain ⟨ad, rfl, hx⟩ := off_read hC1 hO
  generalize rd O 0 = x at hx hL o3
  clear hb u1 u0 sz0 hR hC1 hz f0 c0_
  go_wp2
  refine bodyPost_ret (results_ct rfl _ _ w.heap.size 23 off0 (0, 0) _ rfl (blk_put (blk_put (blk_put (blk_put (blk_put U1.out 0 (.int .i64 0) rfl) 1 (.int .i64 0) rfl) 2 (.int .i64 0) rfl) 3 (.int .i64 0) rfl) 4 (.int .i64 0) rfl) Tryd.underlying23 rfl (by kernel_rfl)) rfl ?_
  exact ⟨rfl, below_set (below_set (below_set (below_set (below_set HB1.out (Nat.le_refl _)) (Nat.le_refl _)) (Nat.le_refl _)) (Nat.le_refl _)) (Nat.le_refl _)⟩

set_option maxHeartbeats 2000000 in
theorem read_main (A0 : Option Addr) (c0 : Nat) (l O : List Int) (w : World) (hG : GT w) (hC : Kd.C (Kd.int .u8) w A0 l.length l) (hc0 : l.length ≤ c0) (ho : crc_Open.f l = some (O, 0)) (hO : 0 < O.length) (hL : rd O 0 = 82) (k : Nat) (vs : List Int) (af ef : Int) (hN : readN (num_Get.f k) O 5 1 = some (vs, af, ef)) (res : Array Value) (er : Int)
    (hres : (ef ≠ 0 ∧ res = off0 ∧ er = ef) ∨ (ef = 0 ∧ af < (O.length : Int) ∧ res = off0 ∧ er = 5) ∨ (ef = 0 ∧ ¬ af < (O.length : Int) ∧ ∃ c, hello_Check.f (five vs 0) (five vs 1) (five vs 2) (five vs 3) (five vs 4) = some c ∧ ((c ≠ 0 ∧ res = off0 ∧ er = c) ∨ (c = 0 ∧ res = fiveC vs ∧ er = 0)))) :
    Calls Tryd.prog 7 #[.slice A0 l.length c0] w fun r w' => r = .returned (.tuple #[.agg res, .int .i64 er]) ∧ Below w.heap.size w w' := by
  have HB0 := Aside0.mk (below_alloc (Below.refl _ w) (.cells off0 23))
  have u0 := fr_new w (.cells off0 23)
  have sz0 := fr_size w (.cells off0 23)
  have HG := Aside0.mk (hG.alloc (.cells off0 23))
  have HC := Aside0.mk (Kd.C_alloc hC (.cells off0 23))
  have HO := Aside0.mk ho
  clear hG hC ho
  go_enter Tryd.func7, Tryd.ntmps7
  go_wp2_with fail
  refine (crc_Open.calls A0 c0 l O 0 _ HG.out HC.out hc0 HO.out).mono ?_
  rintro r w1 ⟨v, rfl, hR, hb⟩
  obtain ⟨A1, c1, rfl, hc1, hC1⟩ := R_sl hR
  have u1 := (hb.block w.heap.size (by omega)).trans u0
  have hz := hb.size
  have HB1 := Aside0.mk (below_step HB0.out hb)
  have U1 := Aside0.mk u1
  have o1 : ((O.length : Int) == 0) = false := by simp; intro h; rw [h] at hO; simp at hO
  have o2 : (O.length == 0) = false := by simp; intro h; rw [h] at hO; simp at hO
  have o4 : (0 < O.length) = True := eq_true hO
  obtain ⟨ad, rfl, hx⟩ := off_read hC1 hO
  rw [hL] at hx
  have HN := Aside0.mk hN
  have HRES := Aside0.mk hres
  have HC1 := Aside0.mk hC1
  have HOL := Aside0.mk (show O.length ≤ 9223372036854775807 from by have := hC1.2.1; omega)
  have Hz1 := Aside0.mk (show w.heap.size < w1.heap.size by omega)
  have St0 := Aside0.mk (RdSt.start w1)
  clear hb u1 u0 sz0 hR hC1 hz hL hN hres hO
  go_wp2_with fail
  generalize (w1.alloc (.cells off0 23)).alloc (.cells (ptrs w1.heap.size) 43) = w2 at St0 ⊢
  go_loopg [6, 39] 5 (fun g v6 v39 w' => ∃ (i : Nat) (pre rest : List Int) (a : Int), i ≤ 5 ∧ g = 5 - i ∧ v6 = .int .i64 a ∧ v39 = .int .i64 i ∧ Aside0 (pre.length = i) ∧ Aside0 (RdSt w1 pre w') ∧ Aside0 (readN (num_Get.f k) O (5 - i) a = some (rest, af, ef)) ∧ Aside0 (vs = pre ++ rest))
  case atStart => exact ⟨0, [], vs, 1, by omega, rfl, rfl, rfl, ⟨rfl⟩, St0, HN, ⟨rfl⟩⟩
  case round =>
    obtain ⟨i, pre, rest, a, hi, rfl, rfl, rfl, HL, HS, HR, HV⟩ := hrel
    have p1 := (HS.out.ptr (HS.out.hR))
    by_cases hlt : i < 5
    · have e1 : decide ((i : Int) < 5) = true := decide_eq_true (by omega)
      have e2 : decide (i < 5) = true := decide_eq_true hlt
      have hq0 : (0 ≤ (i : Int)) = True := eq_true (by omega)
      have hq1 : ((i : Int) < 5) = True := eq_true (by omega)
      have hq2 : (i < 5) = True := eq_true hlt
      have pc := p1 i hlt
      have HLT := Aside0.mk hlt
      have HC2 := Aside0.mk (Kd.C_below HC1.out HS.out.hB)
      obtain ⟨m, hm⟩ : ∃ m, 5 - i = m + 1 := ⟨4 - i, by omega⟩
      have hr := HR.out
      rw [hm] at hr
      unfold readN at hr
      obtain ⟨⟨x, nx, ew⟩, hg, hr⟩ := Option.bind_eq_some_iff.1 hr
      dsimp only at hr
      have HGE := Aside0.mk hg
      have HM := Aside0.mk hm
      have sz := HS.out.size
      clear hg hm p1 hlt HR
      by_cases hw : ew = 0
      · rw [if_pos hw] at hr
        subst hw
        obtain ⟨⟨r1, r2, r3⟩, hr', he⟩ := Option.bind_eq_some_iff.1 hr
        simp only [Option.some.injEq, Prod.mk.injEq] at he
        obtain ⟨rfl, rfl, rfl⟩ := he
        have HR' := Aside0.mk hr'
        clear hr hr'
        go_wp2_with fail
        refine (num_Get.calls k (some ad) c1 O a x nx 0 _ HC2.out hc1 HGE.out).mono ?_
        rintro r w3 ⟨rfl, hd⟩
        have HS3 := Aside0.mk (HS.out.step hd.below)
        have f3 := blk_frozen HS3.out.hQ i
        have cc3 := HS3.out.cell i HLT.out
        clear hd HC2
        go_wp2
        have HS4 := Aside0.mk (HS3.out.put x (by rw [HL.out]; exact HLT.out))
        rw [HL.out] at HS4
        go_roundg (5 - (i + 1))
        case measure => have := HLT.out; omega
        case rel => exact ⟨i + 1, pre ++ [x], r1, nx, by have := HLT.out; omega, rfl, rfl, by simp, ⟨by rw [List.length_append, HL.out]; rfl⟩, HS4, ⟨by have := HM.out; rw [show 5 - (i + 1) = m by omega]; exact HR'.out⟩, ⟨by rw [HV.out]; simp⟩⟩
      · rw [if_neg hw] at hr
        simp only [Option.some.injEq, Prod.mk.injEq] at hr
        obtain ⟨rfl, rfl, rfl⟩ := hr
        have hw1 : (ew != 0) = true := by simpa using hw
        have hw2 : (ew == 0) = false := by simpa using hw
        obtain ⟨rfl, rfl⟩ : res = off0 ∧ er = ew := by
          rcases HRES.out with ⟨_, h1, h2⟩ | ⟨h, _⟩ | ⟨h, _⟩
          · exact ⟨h1, h2⟩
          · exact absurd h hw
          · exact absurd h hw
        clear hw
        go_wp2_with fail
        refine (num_Get.calls k (some ad) c1 O a x nx er _ HC2.out hc1 HGE.out).mono ?_
        rintro r w3 ⟨rfl, hd⟩
        have HS3 := Aside0.mk (HS.out.step hd.below)
        have U3 := Aside0.mk ((HS3.out.hB.block w.heap.size Hz1.out).trans U1.out)
        have HB3 := Aside0.mk (HB1.out.trans (HS3.out.hB.mono (Nat.le_of_lt Hz1.out)))
        have d0 := (off_cells U3.out).1
        have d1 := (off_cells U3.out).2.1
        have d2 := (off_cells U3.out).2.2.1
        have d3 := (off_cells U3.out).2.2.2.1
        have d4 := (off_cells U3.out).2.2.2.2
        have f0' := blk_frozen U3.out 0
        have f1' := blk_frozen U3.out 1
        have f2' := blk_frozen U3.out 2
        have f3' := blk_frozen U3.out 3
        have f4' := blk_frozen U3.out 4
        clear hd HC2
        go_wp2
        refine bodyPost_ret (results_ct rfl _ _ w.heap.size 23 off0 (0, 0) _ rfl (blk_put (blk_put (blk_put (blk_put (blk_put U3.out 0 (.int .i64 0) rfl) 1 (.int .i64 0) rfl) 2 (.int .i64 0) rfl) 3 (.int .i64 0) rfl) 4 (.int .i64 0) rfl) Tryd.underlying23 rfl (by kernel_rfl)) rfl ?_
        exact ⟨rfl, below_set (below_set (below_set (below_set (below_set HB3.out (Nat.le_refl _)) (Nat.le_refl _)) (Nat.le_refl _)) (Nat.le_refl _)) (Nat.le_refl _)⟩
    · obtain rfl : i = 5 := by omega
      have e1 : decide (((5 : Nat) : Int) < 5) = false := rfl
      have hr := HR.out
      rw [show 5 - 5 = 0 from rfl] at hr
      unfold readN at hr
      simp only [Option.some.injEq, Prod.mk.injEq] at hr
      obtain ⟨rfl, rfl, rfl⟩ := hr
      have hv := HV.out
      rw [List.append_nil] at hv
      subst hv
      have HB3 := Aside0.mk (HB1.out.trans (HS.out.hB.mono (Nat.le_of_lt Hz1.out)))
      have U3 := Aside0.mk ((HS.out.hB.block w.heap.size Hz1.out).trans U1.out)
      have x0 := HS.out.cell 0 (by omega)
      have x1 := HS.out.cell 1 (by omega)
      have x2 := HS.out.cell 2 (by omega)
      have x3 := HS.out.cell 3 (by omega)
      have x4 := HS.out.cell 4 (by omega)
      have sz := HS.out.size
      clear hlt HR HV p1 hi HL
      rcases HRES.out with ⟨h, _⟩ | ⟨_, ha, rfl, rfl⟩ | ⟨_, ha, c, hc, hres⟩
      · exact absurd rfl h
      · have a1 : decide (a < (O.length : Int)) = true := decide_eq_true ha
        have d0 := (off_cells U3.out).1
        have d1 := (off_cells U3.out).2.1
        have d2 := (off_cells U3.out).2.2.1
        have d3 := (off_cells U3.out).2.2.2.1
        have d4 := (off_cells U3.out).2.2.2.2
        have f0' := blk_frozen U3.out 0
        have f1' := blk_frozen U3.out 1
        have f2' := blk_frozen U3.out 2
        have f3' := blk_frozen U3.out 3
        have f4' := blk_frozen U3.out 4
        clear ha
        go_wp2
        refine bodyPost_ret (results_ct rfl _ _ w.heap.size 23 off0 (0, 0) _ rfl (blk_put (blk_put (blk_put (blk_put (blk_put U3.out 0 (.int .i64 0) rfl) 1 (.int .i64 0) rfl) 2 (.int .i64 0) rfl) 3 (.int .i64 0) rfl) 4 (.int .i64 0) rfl) Tryd.underlying23 rfl (by kernel_rfl)) rfl ?_
        exact ⟨rfl, below_set (below_set (below_set (below_set (below_set HB3.out (Nat.le_refl _)) (Nat.le_refl _)) (Nat.le_refl _)) (Nat.le_refl _)) (Nat.le_refl _)⟩
      · have a1 : decide (a < (O.length : Int)) = false := decide_eq_false (by omega)
        have HCK := Aside0.mk hc
        clear ha hc
        go_wp2_with fail
        refine (hello_Check.calls _ _ _ _ _ c _ HCK.out).mono ?_
        rintro r w4 ⟨rfl, hb4⟩
        have HS4 := Aside0.mk (HS.out.step hb4)
        have HB4 := Aside0.mk (below_step HB3.out hb4)
        have U4 := Aside0.mk ((hb4.block w.heap.size (blk_lt U3.out)).trans U3.out)
        have y0 := HS4.out.cell 0 (by omega)
        have y1 := HS4.out.cell 1 (by omega)
        have y2 := HS4.out.cell 2 (by omega)
        have y3 := HS4.out.cell 3 (by omega)
        have y4 := HS4.out.cell 4 (by omega)
        have d0 := (off_cells U4.out).1
        have d1 := (off_cells U4.out).2.1
        have d2 := (off_cells U4.out).2.2.1
        have d3 := (off_cells U4.out).2.2.2.1
        have d4 := (off_cells U4.out).2.2.2.2
        have f0' := blk_frozen U4.out 0
        have f1' := blk_frozen U4.out 1
        have f2' := blk_frozen U4.out 2
        have f3' := blk_frozen U4.out 3
        have f4' := blk_frozen U4.out 4
        clear x0 x1 x2 x3 x4 hb4
        rcases hres with ⟨hc0, rfl, rfl⟩ | ⟨rfl, rfl, rfl⟩
        · have c1_ : (er != 0) = true := by simpa using hc0
          have c2_ : (er == 0) = false := by simpa using hc0
          clear hc0
          go_wp2
          refine bodyPost_ret (results_ct rfl _ _ w.heap.size 23 off0 (0, 0) _ rfl (blk_put (blk_put (blk_put (blk_put (blk_put U4.out 0 (.int .i64 0) rfl) 1 (.int .i64 0) rfl) 2 (.int .i64 0) rfl) 3 (.int .i64 0) rfl) 4 (.int .i64 0) rfl) Tryd.underlying23 rfl (by kernel_rfl)) rfl ?_
          exact ⟨rfl, below_set (below_set (below_set (below_set (below_set HB4.out (Nat.le_refl _)) (Nat.le_refl _)) (Nat.le_refl _)) (Nat.le_refl _)) (Nat.le_refl _)⟩
        · go_wp2
          refine bodyPost_ret (results_ct rfl _ _ w.heap.size 23 (fiveC vs) (0, 0) _ rfl (blk_put (blk_put (blk_put (blk_put (blk_put U4.out 0 (.int .i64 (five vs 0)) rfl) 1 (.int .i64 (five vs 1)) rfl) 2 (.int .i64 (five vs 2)) rfl) 3 (.int .i64 (five vs 3)) rfl) 4 (.int .i64 (five vs 4)) rfl) Tryd.underlying23 rfl (by kernel_rfl)) rfl ?_
          exact ⟨rfl, below_set (below_set (below_set (below_set (below_set HB4.out (Nat.le_refl _)) (Nat.le_refl _)) (Nat.le_refl _)) (Nat.le_refl _)) (Nat.le_refl _)⟩

def hello_Read.f (k : Nat) (l0 : List Int) : Option (Int × Int × Int × Int × Int × Int) :=
  (crc_Open.f l0).bind fun o => if o.2 = 0 then (if o.1.length = 0 then some (0, 0, 0, 0, 0, 5) else if rd o.1 0 = 82 then ((readN (num_Get.f k) o.1 5 1).bind fun r => if r.2.2 = 0 then (if r.2.1 < (o.1.length : Int) then some (0, 0, 0, 0, 0, 5) else
    ((hello_Check.f (five r.1 0) (five r.1 1) (five r.1 2) (five r.1 3) (five r.1 4)).bind fun c => if c = 0 then some (five r.1 0, five r.1 1, five r.1 2, five r.1 3, five r.1 4, 0) else some (0, 0, 0, 0, 0, c))) else some (0, 0, 0, 0, 0, r.2.2)) else some (0, 0, 0, 0, 0, 5)) else some (0, 0, 0, 0, 0, o.2)
theorem hello_Read.monoN (k : Nat) (l : List Int) : ∀ (m : Nat) (a : Int), LeO (readN (num_Get.f k) l m a) (readN (num_Get.f (k + 1)) l m a)
  | 0, a => LeO.refl _
  | m + 1, a => by
    unfold readN
    refine LeO.bind (num_Get.mono _ _ _) (fun g => ?_)
    refine LeO.ite ?_ (LeO.refl _)
    exact LeO.bind (hello_Read.monoN k l m _) (fun _ => LeO.refl _)
theorem hello_Read.mono : ∀ a0 k, LeO (hello_Read.f k a0) (hello_Read.f (k + 1) a0) := by
  intro a0 k
  unfold hello_Read.f
  refine LeO.bind (LeO.refl _) (fun o => ?_)
  refine LeO.ite (LeO.ite (LeO.refl _) (LeO.ite ?_ (LeO.refl _))) (LeO.refl _)
  refine LeO.bind (hello_Read.monoN k _ _ _) (fun r => LeO.refl _)
theorem hello_Read.calls (k : Nat) (A0 : Option Addr) (c0 : Nat) (l0 : List Int) (r1 r2 r3 r4 r5 r6 : Int) (w : World) (hG : GT w) (hr0 : Kd.C (Kd.int .u8) w A0 l0.length l0) (hc0 : l0.length ≤ c0) (h : hello_Read.f k l0 = some (r1, r2, r3, r4, r5, r6)) :
    Calls Tryd.prog 7 #[.slice A0 l0.length c0] w fun e w' => e = .returned (.tuple #[.agg #[.int .i64 r1, .int .i64 r2, .int .i64 r3, .int .i64 r4, .int .i64 r5], .int .i64 r6]) ∧ Below w.heap.size w w' := by
  unfold hello_Read.f at h
  obtain ⟨⟨O, e⟩, ho, h⟩ := Option.bind_eq_some_iff.mp h
  dsimp only at h
  by_cases he : e = 0
  rotate_left
  · rw [if_neg he] at h
    simp only [Option.some.injEq, Prod.mk.injEq] at h
    obtain ⟨rfl, rfl, rfl, rfl, rfl, rfl⟩ := h
    exact read_bad A0 c0 l0 O e w hG hr0 hc0 ho (by simpa using he)
  subst he
  rw [if_pos rfl] at h
  by_cases h0 : O.length = 0
  · rw [if_pos h0] at h
    simp only [Option.some.injEq, Prod.mk.injEq] at h
    obtain ⟨rfl, rfl, rfl, rfl, rfl, rfl⟩ := h
    exact read_empty A0 c0 l0 O w hG hr0 hc0 ho h0
  rw [if_neg h0] at h
  by_cases hL : rd O 0 = 82
  rotate_left
  · rw [if_neg hL] at h
    simp only [Option.some.injEq, Prod.mk.injEq] at h
    obtain ⟨rfl, rfl, rfl, rfl, rfl, rfl⟩ := h
    exact read_letter A0 c0 l0 O w hG hr0 hc0 ho (by omega) (by simpa using hL)
  rw [if_pos hL] at h
  obtain ⟨⟨vs, af, ef⟩, hN, h⟩ := Option.bind_eq_some_iff.mp h
  dsimp only at h
  by_cases hf : ef = 0
  rotate_left
  · rw [if_neg hf] at h
    simp only [Option.some.injEq, Prod.mk.injEq] at h
    obtain ⟨rfl, rfl, rfl, rfl, rfl, rfl⟩ := h
    exact read_main A0 c0 l0 O w hG hr0 hc0 ho (by omega) hL k vs af ef hN off0 ef (.inl ⟨hf, rfl, rfl⟩)
  rw [if_pos hf] at h
  by_cases ha : af < (O.length : Int)
  · rw [if_pos ha] at h
    simp only [Option.some.injEq, Prod.mk.injEq] at h
    obtain ⟨rfl, rfl, rfl, rfl, rfl, rfl⟩ := h
    exact read_main A0 c0 l0 O w hG hr0 hc0 ho (by omega) hL k vs af ef hN off0 5 (.inr (.inl ⟨hf, ha, rfl, rfl⟩))
  rw [if_neg ha] at h
  obtain ⟨c, hc, h⟩ := Option.bind_eq_some_iff.mp h
  by_cases h1 : c = 0
  · rw [if_pos h1] at h
    simp only [Option.some.injEq, Prod.mk.injEq] at h
    obtain ⟨rfl, rfl, rfl, rfl, rfl, rfl⟩ := h
    exact read_main A0 c0 l0 O w hG hr0 hc0 ho (by omega) hL k vs af ef hN (fiveC vs) 0 (.inr (.inr ⟨hf, ha, c, hc, .inr ⟨h1, rfl, rfl⟩⟩))
  · rw [if_neg h1] at h
    simp only [Option.some.injEq, Prod.mk.injEq] at h
    obtain ⟨rfl, rfl, rfl, rfl, rfl, rfl⟩ := h
    exact read_main A0 c0 l0 O w hG hr0 hc0 ho (by omega) hL k vs af ef hN off0 (c) (.inr (.inr ⟨hf, ha, c, hc, .inl ⟨h1, rfl, rfl⟩⟩))


/-! ### remoraref02_Open: function 18 -/
def remoraref02_Open.f (k : Nat) (l0 : List Int) : Option (List Int × Int) := if (l0.length : Int) < 4 then (some (([] : List Int), 4)) else ((some (([] : List Int) : List Int)).bind fun y203 => (if 0 ≤ (wrap64 ((l0.length : Int) - 4)) then (if (wrap64 ((l0.length : Int) - 4)) ≤ (l0.length : Int) then (if y203.length + (l0.take ((wrap64 ((l0.length : Int) - 4)) : Int).toNat).length < 140737488355328 then ((some (y203 ++ (l0.take ((wrap64 ((l0.length : Int) - 4)) : Int).toNat) : List Int)).bind fun y207 => ((remoraref02_Seal.f k y207).bind fun t210 => (if (strOfNums t210).toList = (strOfNums l0).toList then (some (y207, 0)) else (some (([] : List Int), 6))))) else (none)) else (none)) else (none)))
theorem remoraref02_Open.mono : ∀ a0 k, LeO (remoraref02_Open.f k a0) (remoraref02_Open.f (k + 1) a0) := by
  intro a0 k
  unfold remoraref02_Open.f
  repeat' first
      | (with_reducible exact remoraref02_Seal.mono _ _)
      | (with_reducible exact LeO.refl _)
      | (with_reducible exact LeO.none _)
      | (with_reducible refine LeO.ite ?_ ?_)
      | (with_reducible refine LeO.bind ?_ (fun _ => ?_))
      | exact remoraref02_Seal.mono _ _
      | exact LeO.none _
      | refine LeO.ite ?_ ?_
      | refine LeO.bind ?_ (fun _ => ?_)
set_option maxHeartbeats 8000000 in
set_option maxRecDepth 100000 in
theorem remoraref02_Open.calls (k : Nat) (A0 : Option Addr) (c0 : Nat) (l0 : List Int) (r1 : List Int) (r2 : Int) (w : World) (hr0 : Kd.C (Kd.int .u8) w A0 l0.length l0) (hc0 : l0.length ≤ c0) (h : remoraref02_Open.f k l0 = some (r1, r2)) :
    Calls Tryd.prog 18 #[.slice A0 l0.length c0] w fun e w' => ∃ v0_ : Value, e = .returned (.tuple #[v0_, .int .i64 r2]) ∧ Kd.R (Kd.int .u8) 5 w' w.heap.size (fun _ => True) v0_ r1 ∧ Below w.heap.size w w' := by
  have HR0 := Aside0.mk hr0
  have HC0 := Aside0.mk hc0
  clear hr0 hc0
  have HB := Aside0.mk (Below.refl w.heap.size w)
  have H : (if (l0.length : Int) < 4 then (some (([] : List Int), 4)) else ((some (([] : List Int) : List Int)).bind fun y203 => (if 0 ≤ (wrap64 ((l0.length : Int) - 4)) then (if (wrap64 ((l0.length : Int) - 4)) ≤ (l0.length : Int) then (if y203.length + (l0.take ((wrap64 ((l0.length : Int) - 4)) : Int).toNat).length < 140737488355328 then ((some (y203 ++ (l0.take ((wrap64 ((l0.length : Int) - 4)) : Int).toNat) : List Int)).bind fun y207 => ((remoraref02_Seal.f k y207).bind fun t210 => (if (strOfNums t210).toList = (strOfNums l0).toList then (some (y207, 0)) else (some (([] : List Int), 6))))) else (none)) else (none)) else (none)))) = some (r1, r2) := h
  clear h
  by_cases c2 : (l0.length : Int) < 4
  · rw [if_pos c2] at H
    have c2b0 : decide ((l0.length : Int) < 4) = true := decide_eq_true c2
    have c2b1 : decide (l0.length < 4) = true := decide_eq_true (by omega)
    clear c2
    simp only [Option.some.injEq, Prod.mk.injEq] at H
    obtain ⟨rfl, rfl⟩ := H
    go_enter Tryd.func18, Tryd.ntmps18
    go_wp2
    go_ret2
    exact ⟨_, by first | rfl | (simp [errW_none, errW_some] <;> rfl) | (simp [*, errW_none, errW_some] <;> rfl), by first | exact Kd.R_nil _ _ _ _ _ | exact Kd.N_nil _ _ _ _ _ | exact Kd.V_nil _ _ _ _ _ | exact Kd.Q_nil _ _ _ _ _ | exact Kd.S_nil _ _ _ _ _, by repeat (first | (with_reducible first | exact HB.out | apply below_alloc | apply pw_below_drewN | apply below_drew1) | exact HB.out)⟩
  · rw [if_neg c2] at H
    have c2b0 : decide ((l0.length : Int) < 4) = false := decide_eq_false c2
    have c2b1 : decide (l0.length < 4) = false := decide_eq_false (by omega)
    clear c2
    obtain ⟨y203, hy203⟩ : ∃ y_ : List Int, y_ = (([] : List Int)) := ⟨_, rfl⟩
    replace H : (if 0 ≤ (wrap64 ((l0.length : Int) - 4)) then (if (wrap64 ((l0.length : Int) - 4)) ≤ (l0.length : Int) then (if y203.length + (l0.take ((wrap64 ((l0.length : Int) - 4)) : Int).toNat).length < 140737488355328 then ((some (y203 ++ (l0.take ((wrap64 ((l0.length : Int) - 4)) : Int).toNat) : List Int)).bind fun y207 => ((remoraref02_Seal.f k y207).bind fun t210 => (if (strOfNums t210).toList = (strOfNums l0).toList then (some (y207, 0)) else (some (([] : List Int), 6))))) else (none)) else (none)) else (none)) = some (r1, r2) := by first | (rw [hy203]; with_reducible exact H) | (have H2_ := (Option.bind_some _ _).symm.trans H; rw [hy203]; with_reducible exact H2_) | (have H2_ := (Option.bind_some _ _).symm.trans H; with_reducible exact H2_) | with_reducible exact H | (rw [hy203]; exact H) | exact H
    have Ny203 := Aside0.mk hy203
    clear hy203
    obtain ⟨ji3, hji3⟩ : ∃ j_ : Int, (wrap64 ((l0.length : Int) - 4)) = j_ := ⟨_, rfl⟩
    replace H : (if 0 ≤ (ji3) then (if (ji3) ≤ (l0.length : Int) then (if y203.length + (l0.take ((ji3) : Int).toNat).length < 140737488355328 then ((some (y203 ++ (l0.take ((ji3) : Int).toNat) : List Int)).bind fun y207 => ((remoraref02_Seal.f k y207).bind fun t210 => (if (strOfNums t210).toList = (strOfNums l0).toList then (some (y207, 0)) else (some (([] : List Int), 6))))) else (none)) else (none)) else (none)) = some (r1, r2) := by first | (rw [hji3] at H; exact H) | (simp only [hji3] at H ⊢; exact H)
    have hji3w : (IntKind.i64.wrap ((l0.length : Int) - 4)) = ji3 := (i64_w _).trans hji3
    by_cases c4 : 0 ≤ (ji3)
    · rw [if_pos c4] at H
      have c4b0 := eq_true c4
      have c4b1 : decide (0 ≤ (ji3)) = true := decide_eq_true c4
      clear c4
      by_cases c5 : (ji3) ≤ (l0.length : Int)
      · rw [if_pos c5] at H
        have c5b0 := eq_true c5
        have c5b1 : decide ((ji3) ≤ (l0.length : Int)) = true := decide_eq_true c5
        clear c5
        by_cases c6 : y203.length + (l0.take ((ji3) : Int).toNat).length < 140737488355328
        · rw [if_pos c6] at H
          have LMc6 := Aside0.mk c6
          clear c6
          obtain ⟨y207, hy207⟩ : ∃ y_ : List Int, y_ = (y203 ++ (l0.take ((ji3) : Int).toNat)) := ⟨_, rfl⟩
          replace H : ((remoraref02_Seal.f k y207).bind fun t210 => (if (strOfNums t210).toList = (strOfNums l0).toList then (some (y207, 0)) else (some (([] : List Int), 6)))) = some (r1, r2) := by first | (rw [hy207]; with_reducible exact H) | (have H2_ := (Option.bind_some _ _).symm.trans H; rw [hy207]; with_reducible exact H2_) | (have H2_ := (Option.bind_some _ _).symm.trans H; with_reducible exact H2_) | with_reducible exact H | (rw [hy207]; exact H) | exact H
          have Ny207 := Aside0.mk hy207
          clear hy207
          replace H := Option.bind_eq_some_iff.mp H
          obtain ⟨t210, A70, H⟩ := H
          replace H : (if (strOfNums t210).toList = (strOfNums l0).toList then (some (y207, 0)) else (some (([] : List Int), 6))) = some (r1, r2) := H
          have A7 := Aside0.mk A70
          clear A70
          by_cases c8 : (strOfNums t210).toList = (strOfNums l0).toList
          · rw [if_pos c8] at H
            have c8b0 : ((strOfNums t210).toList == (strOfNums l0).toList) = true := beq_iff_eq.mpr c8
            have c8b1 : ((strOfNums t210).toList != (strOfNums l0).toList) = false := bne_eq_false_iff_eq.mpr c8
            clear c8
            simp only [Option.some.injEq, Prod.mk.injEq] at H
            obtain ⟨rfl, rfl⟩ := H
            go_enter Tryd.func18, Tryd.ntmps18
            try go_wp2_with (first | ((with_reducible refine gate_dst (N := 8) rfl ?_); refine Kd.R_lit (Kd.int .u8) _ 5 ?hg (N := 8) ?hd (xs := ([] : List Int)) (inner := []) (ok := fun _ => True) (okp := fun _ => True) ?hr ?hp (fun _ hk => hk) trivial (Below.refl _ _) (Nat.le_refl _) (by simp) ?_; (case hd => rfl); (case hg => rfl); (case hr => first | (go_simp; done) | (go_simp; rfl)); (case hp => exact (Reps.none _ _)); intro v204 w9 ho10 hb hg_ hnew_; clear hg_ hnew_; (first | rw [← Ny203.out] at ho10 | (simp only [Int.reduceToNat] at ho10; rw [← Ny203.out] at ho10)); have n0_ := Aside0.mk (Kd.R_lower ho10 (below_size (by repeat (first | (with_reducible first | exact HB.out | apply below_alloc | apply pw_below_drewN | apply below_drew1) | exact HB.out)))); have n1_ := Aside0.mk (below_step (by repeat (first | (with_reducible first | exact HB.out | apply below_alloc | apply pw_below_drewN | apply below_drew1) | exact HB.out)) hb); clear HB; have HO205 := n0_; have HB := n1_; clear n0_ n1_; clear hb ho10; obtain ⟨i011, hi011, _, hsz11, _⟩ := info_parts info5; obtain ⟨hcut11, hA11, hC11⟩ := print_take_of (P := Tryd.prog) (Value.int .u8) 0 24 5 .i64 Tryd.underlying24 hi011 hsz11 A0 c0 l0 (ji3) (of_decide_eq_true (by first | (with_reducible assumption) | assumption)) (of_decide_eq_true (by first | (with_reducible assumption) | assumption)) HC0.out; have HR206 := Aside0.mk (Kd.C_of_reads (h1 := fun _ => rfl) (hA11 _ (Kd.reads_of_C HR0.out))); have HC206 := Aside0.mk hC11; clear hA11 hC11 hi011 hsz11) | ((with_reducible refine gate_builtin (b := .append) (xs := #[.tmp 8, .tmp 13]) rfl ?_); at_builtin; refine Kd.R_append_rows (Kd.int .u8) (w0 := w) w.heap.size rfl (.tmp 8) (.tmp 13) 24 5 (.int .u8 0) 1 rfl Tryd.underlying24 info5 rfl (by decide) (by omega) v204 y203 (l0.take ((ji3) : Int).toNat) _ _ _ (fun _ => True) (fun _ => False) rfl rfl ?aO ?aR (fun _ _ h => h) (fun _ h => h.elim) ?aF ?aB ?aS ?aL ?_; (case aR => have q_ : (l0.take ((ji3) : Int).toNat).length = (ji3).toNat := (by rw [List.length_take]; have h_ : ((ji3) : Int) ≤ (l0.length : Int) := of_decide_eq_true (by first | (with_reducible assumption) | assumption); omega); first | (refine Kd.C_len2 q_ ?_; repeat (first | exact (Kd.C_below HR206.out HB.out) | (with_reducible refine Kd.C_alloc ?_ _) | (with_reducible refine Kd.C_drewN ?_ _) | (with_reducible refine Kd.C_drew ?_)); done) | (rw [← q_]; repeat (first | exact (Kd.C_below HR206.out HB.out) | (with_reducible refine Kd.C_alloc ?_ _) | (with_reducible refine Kd.C_drewN ?_ _) | (with_reducible refine Kd.C_drew ?_)); done) | (repeat (first | exact (Kd.C_below HR206.out HB.out) | (with_reducible refine Kd.C_alloc ?_ _) | (with_reducible refine Kd.C_drewN ?_ _) | (with_reducible refine Kd.C_drew ?_)))); (case aB => exact (by repeat (first | (with_reducible first | exact HB.out | apply below_alloc | apply pw_below_drewN | apply below_drew1) | exact HB.out))); (case aF => exact (fun _ _ => trivial)); (case aO => exact (by (with_reducible repeat (first | apply Kd.R_alloc | apply Kd.R_drewN | apply Kd.R_drew)); exact HO205.out)); (case aS => exact (below_size (by repeat (first | (with_reducible first | exact HB.out | apply below_alloc | apply pw_below_drewN | apply below_drew1) | exact HB.out)))); (case aL => have := LMc6.out; have hlx_ := (show (l0.take ((ji3) : Int).toNat).length = (ji3).toNat from (by rw [List.length_take]; have h_ : ((ji3) : Int) ≤ (l0.length : Int) := of_decide_eq_true (by first | (with_reducible assumption) | assumption); omega)); omega); intro v208 w12 ho hb hg hat; rw [← Ny207.out] at ho; have n0_ := Aside0.mk (hb); have n1_ := Aside0.mk (ho); clear HB; clear HO205; have HB := n0_; have HO209 := n1_; clear n0_ n1_; clear ho hb hg hat; obtain ⟨Ao13, co13, eo13⟩ := Kd.R_slice HO209.out; subst eo13))
            have n0_ := Aside0.mk (Kd.R_drew HO209.out)
            have n1_ := Aside0.mk (below_drew1 HB.out)
            clear HO209
            clear HB
            have HO209 := n0_
            have HB := n1_
            clear n0_ n1_
            refine start_ (n := 6) (S := fun w' => (convert 24 9 (.slice A0 l0.length c0 : Value)).run Tryd.prog w' = .ok (.string (strOfNums l0)) w') (ds := []) #[false, false, false, false, false, false] (by kernel_rfl) rfl rfl ((Kd.C_string (P := Tryd.prog) (A := A0) (c := c0) Tryd.underlying24 Tryd.underlying5 Tryd.underlying9 (Kd.C_below HR0.out HB.out))) (fun hHeld => ?_)
            generalize w12.drew = w14 at HO209 HB hHeld ⊢
            refine pure_ (i := 0) (N := some 15) (v := ?_) (a' := ?_) #[true, false, false, false, false, false] rfl rfl (by kernel_rfl) (fun _ _ _ h => h) (Or.inl ⟨by rfl, ?_⟩) ?_ ?_
            rotate_left
            · intro w'
              go_simp
              with_reducible rfl
            rotate_left
            · simp only [Act.put, List.setIfInBounds_toArray, List.set_cons_zero, List.set_cons_succ, i64_w, i32_w]
              rfl
            refine pure_ (i := 3) (N := some 18) (v := ?_) (a' := ?_) #[true, false, false, true, false, false] rfl rfl (by kernel_rfl) (fun _ _ _ h => h) (Or.inl ⟨by rfl, ?_⟩) ?_ ?_
            rotate_left
            · intro w'
              go_simp
              with_reducible rfl
            rotate_left
            · simp only [Act.put, List.setIfInBounds_toArray, List.set_cons_zero, List.set_cons_succ, i64_w, i32_w]
              rfl
            refine take_ (i := 4) (N := some 19) (v := ?_) (a' := ?_) #[true, false, false, true, true, false] rfl rfl (by kernel_rfl) (fun _ _ _ h => h) (Or.inl ⟨by rfl, ?_⟩) hHeld ?_ ?_
            rotate_left
            · intro w' s0
              go_simp
              with_reducible rfl
            rotate_left
            · simp only [Act.put, List.setIfInBounds_toArray, List.set_cons_zero, List.set_cons_succ, i64_w, i32_w]
              rfl
            refine one_ (i := 1) (N := some 16) #[true, true, false, true, true, false] rfl rfl (by kernel_rfl) (by decide) (fun K hK => ?_)
            refine goes_ Tryd.func15 (by kernel_rfl) rfl #[.slice Ao13 y207.length co13] (by rfl) rfl rfl (by (try simp only [List.map_toArray, List.map_cons, List.map_nil]); first | done | rfl | (simp only [List.length_drop, List.length_take]; rfl) | (simp; done) | (simp; (repeat' apply And.intro) <;> rfl)) ?_
            with_reducible refine (remoraref02_Seal.calls k (fun k_ => some k_ = (.slice Ao13 y207.length co13 : Value).ownBlock) _ _ y207 t210 _ ?side1 A7.out).mono ?_
            (case side1 => exact Kd.R_V (Kd.R_tight rfl (HO209.out)))
            rintro e w15 ⟨v211, rfl, ho0, hb⟩
            refine ⟨_, rfl, ?_⟩
            have n0_ := Aside0.mk (Kd.R_elder' (by (with_reducible repeat (first | apply Kd.R_alloc | apply Kd.R_drewN | apply Kd.R_drew)); exact HO209.out) (Kd.R_base ho0) hb)
            have n1_ := Aside0.mk (Kd.R_lower (Kd.R_new' (Kd.R_mono (ok' := fun k_ => True) ho0 (fun _ hk_ => trivial)) (Kd.R_lt (by (with_reducible repeat (first | apply Kd.R_alloc | apply Kd.R_drewN | apply Kd.R_drew)); exact HO209.out))) (below_size (by repeat (first | (with_reducible first | exact HB.out | apply below_alloc | apply pw_below_drewN | apply below_drew1) | exact HB.out))))
            have n2_ := Aside0.mk (below_step (by repeat (first | (with_reducible first | exact HB.out | apply below_alloc | apply pw_below_drewN | apply below_drew1) | exact HB.out)) hb)
            clear HO209
            clear HB
            have HO209 := n0_
            have HO212 := n1_
            have HB := n2_
            clear n0_ n1_ n2_
            (try clear hb)
            (try clear hb2)
            (try clear hk)
            (try clear hi)
            (try clear ho0)
            refine hK.out _ _ ((Kd.C_string (P := Tryd.prog) (A := A0) (c := c0) Tryd.underlying24 Tryd.underlying5 Tryd.underlying9 (Kd.C_below HR0.out HB.out))) (fun hHeld => ?_)
            clear hK K
            refine norm_ (a' := ?_) ?_ ?_
            rotate_left
            · show Act.put _ (some 16) _ = _
              simp only [Act.put, List.setIfInBounds_toArray, List.set_cons_zero, List.set_cons_succ, i64_w, i32_w]
              rfl
            refine one_ (i := 2) (N := some 17) #[true, true, true, true, true, false] rfl rfl (by kernel_rfl) (by decide) (fun K hK => ?_)
            have hcv16 := own_string (P := Tryd.prog) Tryd.underlying24 Tryd.underlying5 Tryd.underlying9 (Kd.own_of_R HO212.out)
            refine value_ (w1 := ?_) (v := ?_) (by rfl) rfl ?_ ?_
            rotate_left 2
            · go_simp
              constructor
              · rfl
              · rfl
            clear hcv16
            refine hK.out _ _ ((Kd.C_string (P := Tryd.prog) (A := A0) (c := c0) Tryd.underlying24 Tryd.underlying5 Tryd.underlying9 (Kd.C_below HR0.out HB.out))) (fun hHeld => ?_)
            clear hK K
            refine norm_ (a' := ?_) ?_ ?_
            rotate_left
            · show Act.put _ (some 17) _ = _
              simp only [Act.put, List.setIfInBounds_toArray, List.set_cons_zero, List.set_cons_succ, i64_w, i32_w]
              rfl
            refine pure_ (i := 5) (N := some 20) (v := ?_) (a' := ?_) #[true, true, true, true, true, true] rfl rfl (by kernel_rfl) (fun _ _ _ h => h) (Or.inl ⟨by rfl, ?_⟩) ?_ ?_
            rotate_left
            · intro w'
              go_simp
              with_reducible rfl
            rotate_left
            · simp only [Act.put, List.setIfInBounds_toArray, List.set_cons_zero, List.set_cons_succ, i64_w, i32_w]
              rfl
            refine done_ (by kernel_rfl) ?_
            try go_wp2
            go_ret2
            exact ⟨_, by first | rfl | (simp [errW_none, errW_some] <;> rfl) | (simp only [← hji3]; first | rfl | (simp [errW_none, errW_some] <;> rfl)) | (simp [*, errW_none, errW_some] <;> rfl), by (with_reducible repeat (first | apply Kd.R_alloc | apply Kd.R_drewN | apply Kd.R_drew)); exact Kd.R_mono HO209.out (fun _ hk => trivial), by repeat (first | (with_reducible first | exact HB.out | apply below_alloc | apply pw_below_drewN | apply below_drew1) | exact HB.out)⟩
          · rw [if_neg c8] at H
            have c8b0 : ((strOfNums t210).toList == (strOfNums l0).toList) = false := beq_eq_false_iff_ne.mpr c8
            have c8b1 : ((strOfNums t210).toList != (strOfNums l0).toList) = true := bne_iff_ne.mpr c8
            simp only [Option.some.injEq, Prod.mk.injEq] at H
            obtain ⟨rfl, rfl⟩ := H
            go_enter Tryd.func18, Tryd.ntmps18
            try go_wp2_with (first | ((with_reducible refine gate_dst (N := 8) rfl ?_); refine Kd.R_lit (Kd.int .u8) _ 5 ?hg (N := 8) ?hd (xs := ([] : List Int)) (inner := []) (ok := fun _ => True) (okp := fun _ => True) ?hr ?hp (fun _ hk => hk) trivial (Below.refl _ _) (Nat.le_refl _) (by simp) ?_; (case hd => rfl); (case hg => rfl); (case hr => first | (go_simp; done) | (go_simp; rfl)); (case hp => exact (Reps.none _ _)); intro v204 w18 ho19 hb hg_ hnew_; clear hg_ hnew_; (first | rw [← Ny203.out] at ho19 | (simp only [Int.reduceToNat] at ho19; rw [← Ny203.out] at ho19)); have n0_ := Aside0.mk (Kd.R_lower ho19 (below_size (by repeat (first | (with_reducible first | exact HB.out | apply below_alloc | apply pw_below_drewN | apply below_drew1) | exact HB.out)))); have n1_ := Aside0.mk (below_step (by repeat (first | (with_reducible first | exact HB.out | apply below_alloc | apply pw_below_drewN | apply below_drew1) | exact HB.out)) hb); clear HB; have HO205 := n0_; have HB := n1_; clear n0_ n1_; clear hb ho19; obtain ⟨i020, hi020, _, hsz20, _⟩ := info_parts info5; obtain ⟨hcut20, hA20, hC20⟩ := print_take_of (P := Tryd.prog) (Value.int .u8) 0 24 5 .i64 Tryd.underlying24 hi020 hsz20 A0 c0 l0 (ji3) (of_decide_eq_true (by first | (with_reducible assumption) | assumption)) (of_decide_eq_true (by first | (with_reducible assumption) | assumption)) HC0.out; have HR206 := Aside0.mk (Kd.C_of_reads (h1 := fun _ => rfl) (hA20 _ (Kd.reads_of_C HR0.out))); have HC206 := Aside0.mk hC20; clear hA20 hC20 hi020 hsz20; (try (have e_ := (hcut20 w).symm.trans (hcut11 w); injection e_ with e1_ e2_; injection e1_ with e3_ e4_ e5_; subst e3_)); (try (have e_ := (hcut20 w).symm.trans (hcut11 w); injection e_ with e1_ e2_; injection e1_ with e3_ e4_ e5_; subst e3_)); (try (have e_ := (hcut20 w).symm.trans (hcut11 w); injection e_ with e1_ e2_; injection e1_ with e3_ e4_ e5_; subst e3_)); (try (have e_ := (hcut20 w).symm.trans (hcut11 w); injection e_ with e1_ e2_; injection e1_ with e3_ e4_ e5_; subst e3_))) | ((with_reducible refine gate_builtin (b := .append) (xs := #[.tmp 8, .tmp 13]) rfl ?_); at_builtin; refine Kd.R_append_rows (Kd.int .u8) (w0 := w) w.heap.size rfl (.tmp 8) (.tmp 13) 24 5 (.int .u8 0) 1 rfl Tryd.underlying24 info5 rfl (by decide) (by omega) v204 y203 (l0.take ((ji3) : Int).toNat) _ _ _ (fun _ => True) (fun _ => False) rfl rfl ?aO ?aR (fun _ _ h => h) (fun _ h => h.elim) ?aF ?aB ?aS ?aL ?_; (case aR => have q_ : (l0.take ((ji3) : Int).toNat).length = (ji3).toNat := (by rw [List.length_take]; have h_ : ((ji3) : Int) ≤ (l0.length : Int) := of_decide_eq_true (by first | (with_reducible assumption) | assumption); omega); first | (refine Kd.C_len2 q_ ?_; repeat (first | exact (Kd.C_below HR206.out HB.out) | (with_reducible refine Kd.C_alloc ?_ _) | (with_reducible refine Kd.C_drewN ?_ _) | (with_reducible refine Kd.C_drew ?_)); done) | (rw [← q_]; repeat (first | exact (Kd.C_below HR206.out HB.out) | (with_reducible refine Kd.C_alloc ?_ _) | (with_reducible refine Kd.C_drewN ?_ _) | (with_reducible refine Kd.C_drew ?_)); done) | (repeat (first | exact (Kd.C_below HR206.out HB.out) | (with_reducible refine Kd.C_alloc ?_ _) | (with_reducible refine Kd.C_drewN ?_ _) | (with_reducible refine Kd.C_drew ?_)))); (case aB => exact (by repeat (first | (with_reducible first | exact HB.out | apply below_alloc | apply pw_below_drewN | apply below_drew1) | exact HB.out))); (case aF => exact (fun _ _ => trivial)); (case aO => exact (by (with_reducible repeat (first | apply Kd.R_alloc | apply Kd.R_drewN | apply Kd.R_drew)); exact HO205.out)); (case aS => exact (below_size (by repeat (first | (with_reducible first | exact HB.out | apply below_alloc | apply pw_below_drewN | apply below_drew1) | exact HB.out)))); (case aL => have := LMc6.out; have hlx_ := (show (l0.take ((ji3) : Int).toNat).length = (ji3).toNat from (by rw [List.length_take]; have h_ : ((ji3) : Int) ≤ (l0.length : Int) := of_decide_eq_true (by first | (with_reducible assumption) | assumption); omega)); omega); intro v208 w21 ho hb hg hat; rw [← Ny207.out] at ho; have n0_ := Aside0.mk (hb); have n1_ := Aside0.mk (ho); clear HB; clear HO205; have HB := n0_; have HO209 := n1_; clear n0_ n1_; clear ho hb hg hat; obtain ⟨Ao22, co22, eo22⟩ := Kd.R_slice HO209.out; subst eo22))
            have n0_ := Aside0.mk (Kd.R_drew HO209.out)
            have n1_ := Aside0.mk (below_drew1 HB.out)
            clear HO209
            clear HB
            have HO209 := n0_
            have HB := n1_
            clear n0_ n1_
            refine start_ (n := 6) (S := fun w' => (convert 24 9 (.slice A0 l0.length c0 : Value)).run Tryd.prog w' = .ok (.string (strOfNums l0)) w') (ds := []) #[false, false, false, false, false, false] (by kernel_rfl) rfl rfl ((Kd.C_string (P := Tryd.prog) (A := A0) (c := c0) Tryd.underlying24 Tryd.underlying5 Tryd.underlying9 (Kd.C_below HR0.out HB.out))) (fun hHeld => ?_)
            generalize w21.drew = w23 at HO209 HB hHeld ⊢
            refine pure_ (i := 0) (N := some 15) (v := ?_) (a' := ?_) #[true, false, false, false, false, false] rfl rfl (by kernel_rfl) (fun _ _ _ h => h) (Or.inl ⟨by rfl, ?_⟩) ?_ ?_
            rotate_left
            · intro w'
              go_simp
              with_reducible rfl
            rotate_left
            · simp only [Act.put, List.setIfInBounds_toArray, List.set_cons_zero, List.set_cons_succ, i64_w, i32_w]
              rfl
            refine pure_ (i := 3) (N := some 18) (v := ?_) (a' := ?_) #[true, false, false, true, false, false] rfl rfl (by kernel_rfl) (fun _ _ _ h => h) (Or.inl ⟨by rfl, ?_⟩) ?_ ?_
            rotate_left
            · intro w'
              go_simp
              with_reducible rfl
            rotate_left
            · simp only [Act.put, List.setIfInBounds_toArray, List.set_cons_zero, List.set_cons_succ, i64_w, i32_w]
              rfl
            refine take_ (i := 4) (N := some 19) (v := ?_) (a' := ?_) #[true, false, false, true, true, false] rfl rfl (by kernel_rfl) (fun _ _ _ h => h) (Or.inl ⟨by rfl, ?_⟩) hHeld ?_ ?_
            rotate_left
            · intro w' s0
              go_simp
              with_reducible rfl
            rotate_left
            · simp only [Act.put, List.setIfInBounds_toArray, List.set_cons_zero, List.set_cons_succ, i64_w, i32_w]
              rfl
            refine one_ (i := 1) (N := some 16) #[true, true, false, true, true, false] rfl rfl (by kernel_rfl) (by decide) (fun K hK => ?_)
            refine goes_ Tryd.func15 (by kernel_rfl) rfl #[.slice Ao22 y207.length co22] (by rfl) rfl rfl (by (try simp only [List.map_toArray, List.map_cons, List.map_nil]); first | done | rfl | (simp only [List.length_drop, List.length_take]; rfl) | (simp; done) | (simp; (repeat' apply And.intro) <;> rfl)) ?_
            with_reducible refine (remoraref02_Seal.calls k (fun k_ => some k_ = (.slice Ao22 y207.length co22 : Value).ownBlock) _ _ y207 t210 _ ?side1 A7.out).mono ?_
            (case side1 => exact Kd.R_V (Kd.R_tight rfl (HO209.out)))
            rintro e w24 ⟨v211, rfl, ho0, hb⟩
            refine ⟨_, rfl, ?_⟩
            have n0_ := Aside0.mk (Kd.R_elder' (by (with_reducible repeat (first | apply Kd.R_alloc | apply Kd.R_drewN | apply Kd.R_drew)); exact HO209.out) (Kd.R_base ho0) hb)
            have n1_ := Aside0.mk (Kd.R_lower (Kd.R_new' (Kd.R_mono (ok' := fun k_ => True) ho0 (fun _ hk_ => trivial)) (Kd.R_lt (by (with_reducible repeat (first | apply Kd.R_alloc | apply Kd.R_drewN | apply Kd.R_drew)); exact HO209.out))) (below_size (by repeat (first | (with_reducible first | exact HB.out | apply below_alloc | apply pw_below_drewN | apply below_drew1) | exact HB.out))))
            have n2_ := Aside0.mk (below_step (by repeat (first | (with_reducible first | exact HB.out | apply below_alloc | apply pw_below_drewN | apply below_drew1) | exact HB.out)) hb)
            clear HO209
            clear HB
            have HO209 := n0_
            have HO212 := n1_
            have HB := n2_
            clear n0_ n1_ n2_
            (try clear hb)
            (try clear hb2)
            (try clear hk)
            (try clear hi)
            (try clear ho0)
            refine hK.out _ _ ((Kd.C_string (P := Tryd.prog) (A := A0) (c := c0) Tryd.underlying24 Tryd.underlying5 Tryd.underlying9 (Kd.C_below HR0.out HB.out))) (fun hHeld => ?_)
            clear hK K
            refine norm_ (a' := ?_) ?_ ?_
            rotate_left
            · show Act.put _ (some 16) _ = _
              simp only [Act.put, List.setIfInBounds_toArray, List.set_cons_zero, List.set_cons_succ, i64_w, i32_w]
              rfl
            refine one_ (i := 2) (N := some 17) #[true, true, true, true, true, false] rfl rfl (by kernel_rfl) (by decide) (fun K hK => ?_)
            have hcv25 := own_string (P := Tryd.prog) Tryd.underlying24 Tryd.underlying5 Tryd.underlying9 (Kd.own_of_R HO212.out)
            refine value_ (w1 := ?_) (v := ?_) (by rfl) rfl ?_ ?_
            rotate_left 2
            · go_simp
              constructor
              · rfl
              · rfl
            clear hcv25
            refine hK.out _ _ ((Kd.C_string (P := Tryd.prog) (A := A0) (c := c0) Tryd.underlying24 Tryd.underlying5 Tryd.underlying9 (Kd.C_below HR0.out HB.out))) (fun hHeld => ?_)
            clear hK K
            refine norm_ (a' := ?_) ?_ ?_
            rotate_left
            · show Act.put _ (some 17) _ = _
              simp only [Act.put, List.setIfInBounds_toArray, List.set_cons_zero, List.set_cons_succ, i64_w, i32_w]
              rfl
            refine pure_ (i := 5) (N := some 20) (v := ?_) (a' := ?_) #[true, true, true, true, true, true] rfl rfl (by kernel_rfl) (fun _ _ _ h => h) (Or.inl ⟨by rfl, ?_⟩) ?_ ?_
            rotate_left
            · intro w'
              go_simp
              with_reducible rfl
            rotate_left
            · simp only [Act.put, List.setIfInBounds_toArray, List.set_cons_zero, List.set_cons_succ, i64_w, i32_w]
              rfl
            refine done_ (by kernel_rfl) ?_
            try go_wp2
            go_ret2
            exact ⟨_, by first | rfl | (simp [errW_none, errW_some] <;> rfl) | (simp only [← hji3]; first | rfl | (simp [errW_none, errW_some] <;> rfl)) | (simp [*, errW_none, errW_some] <;> rfl), by first | exact Kd.R_nil _ _ _ _ _ | exact Kd.N_nil _ _ _ _ _ | exact Kd.V_nil _ _ _ _ _ | exact Kd.Q_nil _ _ _ _ _ | exact Kd.S_nil _ _ _ _ _, by repeat (first | (with_reducible first | exact HB.out | apply below_alloc | apply pw_below_drewN | apply below_drew1) | exact HB.out)⟩
        · rw [if_neg c6] at H
          exact absurd H (by simp)
      · rw [if_neg c5] at H
        exact absurd H (by simp)
    · rw [if_neg c4] at H
      exact absurd H (by simp)

end Go.Proofs.YtgjmcjpgajlgoaaDoor.P
