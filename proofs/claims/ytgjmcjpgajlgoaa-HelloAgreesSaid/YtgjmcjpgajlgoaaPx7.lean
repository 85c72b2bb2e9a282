-- Written by a program of the session (wip/tool/mk.py) out of the translation; Lean checks it.
import Derived.Test.YtgjmcjpgajlgoaaPx0
import Derived.Test.YtgjmcjpgajlgoaaPx3
namespace Go.Proofs.Ytgjmcjpgajlgoaa.P
open Go.RowKit Go.Proofs.YtgjmcjpgajlgoaaW.PrintWords Go.Proofs.YtgjmcjpgajlgoaaW.PrintLast Go.Proofs.YtgjmcjpgajlgoaaW.PrintMore
attribute [local go_sem] max2_int min2_int max_two min_two max_three min_three max_four min_four   -- for this text's walks alone
set_option linter.unusedVariables false
set_option linter.unusedSimpArgs false

/-! ### hello_Meets: function 13, a contract of my own -/
theorem hello_Meets.eqD (d : Nat) (w : World) (x0 y0 : Int) (x1 y1 : Int) (x2 y2 : Int) (x3 y3 : Int) :
    (Op.equalIn (d + 2) 25 (.agg #[.int .i64 x0, .int .i64 x1, .int .i64 x2, .int .i64 x3]) (.agg #[.int .i64 y0, .int .i64 y1, .int .i64 y2, .int .i64 y3])).run Try.prog w = .ok (x0 == y0 && (x1 == y1 && (x2 == y2 && (x3 == y3)))) w := by
  refine eqA_of Try.underlying25 (by kernel_rfl) ?_
  refine eqf_cons (by rfl) (by go_simp; rfl) (by go_simp; rfl) (by go_simp) ?_
  refine eqf_cons (by rfl) (by go_simp; rfl) (by go_simp; rfl) (by go_simp) ?_
  refine eqf_cons (by rfl) (by go_simp; rfl) (by go_simp; rfl) (by go_simp) ?_
  exact eqf_last (by rfl) (by go_simp; rfl) (by go_simp; rfl) (by go_simp)
theorem hello_Meets.two (w : World) (A B : Obj) : ((w.alloc A).alloc B).heap[w.heap.size]? = some A ∧ ((w.alloc A).alloc B).heap[w.heap.size + 1]? = some B := by
  have e1 : (w.alloc A).heap.size = w.heap.size + 1 := by simp
  refine ⟨?_, ?_⟩
  · exact blk_below (blk_new w A) (below_alloc (Below.refl _ _) B)
  · have := blk_new (w.alloc A) B
    rwa [e1] at this
/-- Does a deal keep to an offer? -/
def hello_Meets.f (d0 d1 d2 d3 a0 a1 a2 a3 a4 : Int) : Option Bool :=
  (hello_Check.f a0 a1 a2 a3 a4).bind fun s =>
    if s = 0 then some (d0 == mn (mx d0 a0) a1 && (d1 == Go.bits .and .i64 d1 a2 && (d2 == (if a3 = 0 then if d2 = 0 then 0 else mn (mx d2 16) 4096 else mn (mx d2 16) a3) && d3 == mn (mx d3 a4) 32)))
    else some false
attribute [local go_sem high] hello_Meets.eqD in
set_option maxHeartbeats 2000000 in
theorem hello_Meets.c1 (d0 d1 d2 d3 a0 a1 a2 a3 a4 s : Int) (w : World) (hs : hello_Check.f a0 a1 a2 a3 a4 = some s) (h0 : (s == 0) = false) (h0' : (s != 0) = true) :
    Calls Try.prog 13 #[.agg #[.int .i64 d0, .int .i64 d1, .int .i64 d2, .int .i64 d3], .agg #[.int .i64 a0, .int .i64 a1, .int .i64 a2, .int .i64 a3, .int .i64 a4]] w fun e w' => e = .returned (.bool false) ∧ Below w.heap.size w w' := by
  have H := Lib.hid hs
  clear hs
  go_enter Try.func13, Try.ntmps13
  go_wp2_with fail
  refine (hello_Check.calls a0 a1 a2 a3 a4 s _ H.out).mono ?_
  rintro e w1 ⟨rfl, hb⟩
  obtain ⟨T0, T1⟩ := hello_Meets.two w (.cells #[.int .i64 d0, .int .i64 d1, .int .i64 d2, .int .i64 d3] 25) (.cells #[.int .i64 a0, .int .i64 a1, .int .i64 a2, .int .i64 a3, .int .i64 a4] 23)
  have A0 := blk_below T0 hb
  have A1 := blk_below T1 hb
  have cd0 : w1.cell? ⟨w.heap.size, 0, none⟩ = some (.int .i64 d0) := (blk_cell A0 0).trans rfl
  have cd1 : w1.cell? ⟨w.heap.size, 1, none⟩ = some (.int .i64 d1) := (blk_cell A0 1).trans rfl
  have cd2 : w1.cell? ⟨w.heap.size, 2, none⟩ = some (.int .i64 d2) := (blk_cell A0 2).trans rfl
  have cd3 : w1.cell? ⟨w.heap.size, 3, none⟩ = some (.int .i64 d3) := (blk_cell A0 3).trans rfl
  have ca0 : w1.cell? ⟨w.heap.size + 1, 0, none⟩ = some (.int .i64 a0) := (blk_cell A1 0).trans rfl
  have ca1 : w1.cell? ⟨w.heap.size + 1, 1, none⟩ = some (.int .i64 a1) := (blk_cell A1 1).trans rfl
  have ca2 : w1.cell? ⟨w.heap.size + 1, 2, none⟩ = some (.int .i64 a2) := (blk_cell A1 2).trans rfl
  have ca3 : w1.cell? ⟨w.heap.size + 1, 3, none⟩ = some (.int .i64 a3) := (blk_cell A1 3).trans rfl
  have ca4 : w1.cell? ⟨w.heap.size + 1, 4, none⟩ = some (.int .i64 a4) := (blk_cell A1 4).trans rfl
  have HB := Aside0.mk (below_step (below_alloc (below_alloc (Below.refl _ w) _) _) hb)
  have hz1 : w.heap.size + 1 < w1.heap.size := (Array.getElem?_eq_some_iff.1 A1).1
  have hz0 : w.heap.size < w1.heap.size := by omega
  have hz0n : w.heap.size ≠ w1.heap.size := by omega
  have hz1n : w.heap.size + 1 ≠ w1.heap.size := by omega
  clear A0 A1 T0 T1 hb
  go_wp2
  go_ret
  exact ⟨by first | rfl | (simp; done) | (simp [*]; done), by repeat (first | exact HB.out | apply below_alloc | refine below_set ?_ (by omega))⟩
attribute [local go_sem high] hello_Meets.eqD in
set_option maxHeartbeats 2000000 in
theorem hello_Meets.c2 (d0 d1 d2 d3 a0 a1 a2 a3 a4 s : Int) (w : World) (hs : hello_Check.f a0 a1 a2 a3 a4 = some s) (h0 : (s == 0) = true) (h0' : (s != 0) = false) (h1 : (a3 == 0) = false) (h1' : (a3 != 0) = true) (m1 v m2 b m3 t : Int) (hm1 : (if d0 < a0 then a0 else d0) = m1) (hv : (if a1 < m1 then a1 else m1) = v) (hm2 : (if d2 < 16 then 16 else d2) = m2) (hb_ : (if a3 < m2 then a3 else m2) = b) (hm3 : (if d3 < a4 then a4 else d3) = m3) (ht : (if 32 < m3 then 32 else m3) = t) :
    Calls Try.prog 13 #[.agg #[.int .i64 d0, .int .i64 d1, .int .i64 d2, .int .i64 d3], .agg #[.int .i64 a0, .int .i64 a1, .int .i64 a2, .int .i64 a3, .int .i64 a4]] w fun e w' => e = .returned (.bool (d0 == v && (d1 == Go.bits .and .i64 d1 a2 && (d2 == b && d3 == t)))) ∧ Below w.heap.size w w' := by
  have H := Lib.hid hs
  clear hs
  go_enter Try.func13, Try.ntmps13
  go_wp2_with fail
  refine (hello_Check.calls a0 a1 a2 a3 a4 s _ H.out).mono ?_
  rintro e w1 ⟨rfl, hb⟩
  obtain ⟨T0, T1⟩ := hello_Meets.two w (.cells #[.int .i64 d0, .int .i64 d1, .int .i64 d2, .int .i64 d3] 25) (.cells #[.int .i64 a0, .int .i64 a1, .int .i64 a2, .int .i64 a3, .int .i64 a4] 23)
  have A0 := blk_below T0 hb
  have A1 := blk_below T1 hb
  have cd0 : w1.cell? ⟨w.heap.size, 0, none⟩ = some (.int .i64 d0) := (blk_cell A0 0).trans rfl
  have cd1 : w1.cell? ⟨w.heap.size, 1, none⟩ = some (.int .i64 d1) := (blk_cell A0 1).trans rfl
  have cd2 : w1.cell? ⟨w.heap.size, 2, none⟩ = some (.int .i64 d2) := (blk_cell A0 2).trans rfl
  have cd3 : w1.cell? ⟨w.heap.size, 3, none⟩ = some (.int .i64 d3) := (blk_cell A0 3).trans rfl
  have ca0 : w1.cell? ⟨w.heap.size + 1, 0, none⟩ = some (.int .i64 a0) := (blk_cell A1 0).trans rfl
  have ca1 : w1.cell? ⟨w.heap.size + 1, 1, none⟩ = some (.int .i64 a1) := (blk_cell A1 1).trans rfl
  have ca2 : w1.cell? ⟨w.heap.size + 1, 2, none⟩ = some (.int .i64 a2) := (blk_cell A1 2).trans rfl
  have ca3 : w1.cell? ⟨w.heap.size + 1, 3, none⟩ = some (.int .i64 a3) := (blk_cell A1 3).trans rfl
  have ca4 : w1.cell? ⟨w.heap.size + 1, 4, none⟩ = some (.int .i64 a4) := (blk_cell A1 4).trans rfl
  have HB := Aside0.mk (below_step (below_alloc (below_alloc (Below.refl _ w) _) _) hb)
  have hz1 : w.heap.size + 1 < w1.heap.size := (Array.getElem?_eq_some_iff.1 A1).1
  have hz0 : w.heap.size < w1.heap.size := by omega
  have hz0n : w.heap.size ≠ w1.heap.size := by omega
  have hz1n : w.heap.size + 1 ≠ w1.heap.size := by omega
  clear A0 A1 T0 T1 hb
  go_wp2
  go_ret
  exact ⟨by first | rfl | (simp; done) | (simp [*]; done), by repeat (first | exact HB.out | apply below_alloc | refine below_set ?_ (by omega))⟩
attribute [local go_sem high] hello_Meets.eqD in
set_option maxHeartbeats 2000000 in
theorem hello_Meets.c3 (d0 d1 d2 d3 a0 a1 a2 a3 a4 s : Int) (w : World) (hs : hello_Check.f a0 a1 a2 a3 a4 = some s) (h0 : (s == 0) = true) (h0' : (s != 0) = false) (h1 : (a3 == 0) = true) (h1' : (a3 != 0) = false) (h2 : (d2 == 0) = false) (h2' : (d2 != 0) = true) (m1 v m2 b m3 t : Int) (hm1 : (if d0 < a0 then a0 else d0) = m1) (hv : (if a1 < m1 then a1 else m1) = v) (hm2 : (if d2 < 16 then 16 else d2) = m2) (hb_ : (if 4096 < m2 then 4096 else m2) = b) (hm3 : (if d3 < a4 then a4 else d3) = m3) (ht : (if 32 < m3 then 32 else m3) = t) :
    Calls Try.prog 13 #[.agg #[.int .i64 d0, .int .i64 d1, .int .i64 d2, .int .i64 d3], .agg #[.int .i64 a0, .int .i64 a1, .int .i64 a2, .int .i64 a3, .int .i64 a4]] w fun e w' => e = .returned (.bool (d0 == v && (d1 == Go.bits .and .i64 d1 a2 && (d2 == b && d3 == t)))) ∧ Below w.heap.size w w' := by
  have H := Lib.hid hs
  clear hs
  go_enter Try.func13, Try.ntmps13
  go_wp2_with fail
  refine (hello_Check.calls a0 a1 a2 a3 a4 s _ H.out).mono ?_
  rintro e w1 ⟨rfl, hb⟩
  obtain ⟨T0, T1⟩ := hello_Meets.two w (.cells #[.int .i64 d0, .int .i64 d1, .int .i64 d2, .int .i64 d3] 25) (.cells #[.int .i64 a0, .int .i64 a1, .int .i64 a2, .int .i64 a3, .int .i64 a4] 23)
  have A0 := blk_below T0 hb
  have A1 := blk_below T1 hb
  have cd0 : w1.cell? ⟨w.heap.size, 0, none⟩ = some (.int .i64 d0) := (blk_cell A0 0).trans rfl
  have cd1 : w1.cell? ⟨w.heap.size, 1, none⟩ = some (.int .i64 d1) := (blk_cell A0 1).trans rfl
  have cd2 : w1.cell? ⟨w.heap.size, 2, none⟩ = some (.int .i64 d2) := (blk_cell A0 2).trans rfl
  have cd3 : w1.cell? ⟨w.heap.size, 3, none⟩ = some (.int .i64 d3) := (blk_cell A0 3).trans rfl
  have ca0 : w1.cell? ⟨w.heap.size + 1, 0, none⟩ = some (.int .i64 a0) := (blk_cell A1 0).trans rfl
  have ca1 : w1.cell? ⟨w.heap.size + 1, 1, none⟩ = some (.int .i64 a1) := (blk_cell A1 1).trans rfl
  have ca2 : w1.cell? ⟨w.heap.size + 1, 2, none⟩ = some (.int .i64 a2) := (blk_cell A1 2).trans rfl
  have ca3 : w1.cell? ⟨w.heap.size + 1, 3, none⟩ = some (.int .i64 a3) := (blk_cell A1 3).trans rfl
  have ca4 : w1.cell? ⟨w.heap.size + 1, 4, none⟩ = some (.int .i64 a4) := (blk_cell A1 4).trans rfl
  have HB := Aside0.mk (below_step (below_alloc (below_alloc (Below.refl _ w) _) _) hb)
  have hz1 : w.heap.size + 1 < w1.heap.size := (Array.getElem?_eq_some_iff.1 A1).1
  have hz0 : w.heap.size < w1.heap.size := by omega
  have hz0n : w.heap.size ≠ w1.heap.size := by omega
  have hz1n : w.heap.size + 1 ≠ w1.heap.size := by omega
  clear A0 A1 T0 T1 hb
  go_wp2
  go_ret
  exact ⟨by first | rfl | (simp; done) | (simp [*]; done), by repeat (first | exact HB.out | apply below_alloc | refine below_set ?_ (by omega))⟩
attribute [local go_sem high] hello_Meets.eqD in
set_option maxHeartbeats 2000000 in
theorem hello_Meets.c4 (d0 d1 d2 d3 a0 a1 a2 a3 a4 s : Int) (w : World) (hs : hello_Check.f a0 a1 a2 a3 a4 = some s) (h0 : (s == 0) = true) (h0' : (s != 0) = false) (h1 : (a3 == 0) = true) (h1' : (a3 != 0) = false) (h2 : (d2 == 0) = true) (h2' : (d2 != 0) = false) (m1 v m2 b m3 t : Int) (hm1 : (if d0 < a0 then a0 else d0) = m1) (hv : (if a1 < m1 then a1 else m1) = v) (hm2 : (if d2 < 16 then 16 else d2) = m2) (hb_ : (if 4096 < m2 then 4096 else m2) = b) (hm3 : (if d3 < a4 then a4 else d3) = m3) (ht : (if 32 < m3 then 32 else m3) = t) :
    Calls Try.prog 13 #[.agg #[.int .i64 d0, .int .i64 d1, .int .i64 d2, .int .i64 d3], .agg #[.int .i64 a0, .int .i64 a1, .int .i64 a2, .int .i64 a3, .int .i64 a4]] w fun e w' => e = .returned (.bool (d0 == v && (d1 == Go.bits .and .i64 d1 a2 && (d2 == 0 && d3 == t)))) ∧ Below w.heap.size w w' := by
  have H := Lib.hid hs
  clear hs
  go_enter Try.func13, Try.ntmps13
  go_wp2_with fail
  refine (hello_Check.calls a0 a1 a2 a3 a4 s _ H.out).mono ?_
  rintro e w1 ⟨rfl, hb⟩
  obtain ⟨T0, T1⟩ := hello_Meets.two w (.cells #[.int .i64 d0, .int .i64 d1, .int .i64 d2, .int .i64 d3] 25) (.cells #[.int .i64 a0, .int .i64 a1, .int .i64 a2, .int .i64 a3, .int .i64 a4] 23)
  have A0 := blk_below T0 hb
  have A1 := blk_below T1 hb
  have cd0 : w1.cell? ⟨w.heap.size, 0, none⟩ = some (.int .i64 d0) := (blk_cell A0 0).trans rfl
  have cd1 : w1.cell? ⟨w.heap.size, 1, none⟩ = some (.int .i64 d1) := (blk_cell A0 1).trans rfl
  have cd2 : w1.cell? ⟨w.heap.size, 2, none⟩ = some (.int .i64 d2) := (blk_cell A0 2).trans rfl
  have cd3 : w1.cell? ⟨w.heap.size, 3, none⟩ = some (.int .i64 d3) := (blk_cell A0 3).trans rfl
  have ca0 : w1.cell? ⟨w.heap.size + 1, 0, none⟩ = some (.int .i64 a0) := (blk_cell A1 0).trans rfl
  have ca1 : w1.cell? ⟨w.heap.size + 1, 1, none⟩ = some (.int .i64 a1) := (blk_cell A1 1).trans rfl
  have ca2 : w1.cell? ⟨w.heap.size + 1, 2, none⟩ = some (.int .i64 a2) := (blk_cell A1 2).trans rfl
  have ca3 : w1.cell? ⟨w.heap.size + 1, 3, none⟩ = some (.int .i64 a3) := (blk_cell A1 3).trans rfl
  have ca4 : w1.cell? ⟨w.heap.size + 1, 4, none⟩ = some (.int .i64 a4) := (blk_cell A1 4).trans rfl
  have HB := Aside0.mk (below_step (below_alloc (below_alloc (Below.refl _ w) _) _) hb)
  have hz1 : w.heap.size + 1 < w1.heap.size := (Array.getElem?_eq_some_iff.1 A1).1
  have hz0 : w.heap.size < w1.heap.size := by omega
  have hz0n : w.heap.size ≠ w1.heap.size := by omega
  have hz1n : w.heap.size + 1 ≠ w1.heap.size := by omega
  clear A0 A1 T0 T1 hb
  go_wp2
  go_ret
  exact ⟨by first | rfl | (simp; done) | (simp [*]; done), by repeat (first | exact HB.out | apply below_alloc | refine below_set ?_ (by omega))⟩
theorem hello_Meets.calls (d0 d1 d2 d3 a0 a1 a2 a3 a4 : Int) (r : Bool) (w : World) (h : hello_Meets.f d0 d1 d2 d3 a0 a1 a2 a3 a4 = some r) :
    Calls Try.prog 13 #[.agg #[.int .i64 d0, .int .i64 d1, .int .i64 d2, .int .i64 d3], .agg #[.int .i64 a0, .int .i64 a1, .int .i64 a2, .int .i64 a3, .int .i64 a4]] w fun e w' => e = .returned (.bool r) ∧ Below w.heap.size w w' := by
  unfold hello_Meets.f at h
  obtain ⟨s, hs, h⟩ := Option.bind_eq_some_iff.mp h
  by_cases c1 : s = 0
  · rw [if_pos c1] at h
    by_cases c2 : a3 = 0
    · by_cases c3 : d2 = 0
      · rw [if_pos c2, if_pos c3] at h
        obtain rfl := Option.some.inj h
        exact hello_Meets.c4 d0 d1 d2 d3 a0 a1 a2 a3 a4 s w hs (beq_iff_eq.mpr c1) (bne_eq_false_iff_eq.mpr c1) (beq_iff_eq.mpr c2) (bne_eq_false_iff_eq.mpr c2) (beq_iff_eq.mpr c3) (bne_eq_false_iff_eq.mpr c3) _ _ _ _ _ _ rfl rfl rfl rfl rfl rfl
      · rw [if_pos c2, if_neg c3] at h
        obtain rfl := Option.some.inj h
        exact hello_Meets.c3 d0 d1 d2 d3 a0 a1 a2 a3 a4 s w hs (beq_iff_eq.mpr c1) (bne_eq_false_iff_eq.mpr c1) (beq_iff_eq.mpr c2) (bne_eq_false_iff_eq.mpr c2) (beq_eq_false_iff_ne.mpr c3) (bne_iff_ne.mpr c3) _ _ _ _ _ _ rfl rfl rfl rfl rfl rfl
    · rw [if_neg c2] at h
      obtain rfl := Option.some.inj h
      exact hello_Meets.c2 d0 d1 d2 d3 a0 a1 a2 a3 a4 s w hs (beq_iff_eq.mpr c1) (bne_eq_false_iff_eq.mpr c1) (beq_eq_false_iff_ne.mpr c2) (bne_iff_ne.mpr c2) _ _ _ _ _ _ rfl rfl rfl rfl rfl rfl
  · rw [if_neg c1] at h
    obtain rfl := Option.some.inj h
    exact hello_Meets.c1 d0 d1 d2 d3 a0 a1 a2 a3 a4 s w hs (beq_eq_false_iff_ne.mpr c1) (bne_iff_ne.mpr c1)


end Go.Proofs.Ytgjmcjpgajlgoaa.P
