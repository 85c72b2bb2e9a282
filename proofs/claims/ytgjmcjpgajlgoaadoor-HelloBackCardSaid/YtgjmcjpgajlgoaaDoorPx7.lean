-- Written by a program of the session (wip/tool/mk.py) out of the translation; Lean checks it.
import Derived.Test.YtgjmcjpgajlgoaaDoorPx0
import Derived.Test.YtgjmcjpgajlgoaaDoorPx1
import Derived.Test.YtgjmcjpgajlgoaaDoorPx2
import Derived.Test.YtgjmcjpgajlgoaaDoorPx3
import Derived.Test.YtgjmcjpgajlgoaaDoorPx4
import Derived.Test.YtgjmcjpgajlgoaaDoorPx5
import Derived.Test.YtgjmcjpgajlgoaaDoorPx6
namespace Go.Proofs.YtgjmcjpgajlgoaaDoor.P
open Go.RowKit Go.Proofs.YtgjmcjpgajlgoaaDoorW.PrintWords Go.Proofs.YtgjmcjpgajlgoaaDoorW.PrintLast Go.Proofs.YtgjmcjpgajlgoaaDoorW.PrintMore
attribute [local go_sem] max2_int min2_int max_two min_two max_three min_three max_four min_four   -- for this text's walks alone
set_option linter.unusedVariables false
set_option linter.unusedSimpArgs false

attribute [local go_sem high] eqA49
/-! ### hello_Agree: function 20, a contract of my own -/
theorem hello_Agree.three (w : World) (A B C : Obj) : (((w.alloc A).alloc B).alloc C).heap[w.heap.size]? = some A ∧ (((w.alloc A).alloc B).alloc C).heap[w.heap.size + 1]? = some B ∧ (((w.alloc A).alloc B).alloc C).heap[w.heap.size + 1 + 1]? = some C := by
  have e1 : (w.alloc A).heap.size = w.heap.size + 1 := by simp
  have e2 : ((w.alloc A).alloc B).heap.size = w.heap.size + 1 + 1 := by simp
  refine ⟨?_, ?_, ?_⟩
  · exact blk_below (blk_below (blk_new w A) (below_alloc (Below.refl _ _) B)) (below_alloc (Below.refl _ _) C)
  · have := blk_below (blk_new (w.alloc A) B) (below_alloc (Below.refl _ _) C)
    rwa [e1] at this
  · have := blk_new ((w.alloc A).alloc B) C
    rwa [e2] at this
theorem hello_Agree.cells {w : World} {g : Nat} {t : TypeId} (x0 x1 x2 x3 y0 y1 y2 y3 : Value) (h : w.heap[g]? = some (.cells #[y0, y1, y2, y3] t (0, 0))) :
    ((((w.setCell ⟨g, 0, none⟩ x0).setCell ⟨g, 1, none⟩ x1).setCell ⟨g, 2, none⟩ x2).setCell ⟨g, 3, none⟩ x3).heap[g]? = some (.cells #[x0, x1, x2, x3] t (0, 0)) :=
  blk_put (blk_put (blk_put (blk_put h 0 x0 rfl) 1 x1 rfl) 2 x2 rfl) 3 x3 rfl
theorem hello_Agree.kept {w0 w : World} {g : Nat} (x0 x1 x2 x3 : Value) (h : Below w0.heap.size w0 w) (hg : w0.heap.size ≤ g) :
    Below w0.heap.size w0 ((((w.setCell ⟨g, 0, none⟩ x0).setCell ⟨g, 1, none⟩ x1).setCell ⟨g, 2, none⟩ x2).setCell ⟨g, 3, none⟩ x3) :=
  below_set (below_set (below_set (below_set h hg) hg) hg) hg
/-- What two offers agree on. -/
def hello_Agree.f (a0 a1 a2 a3 a4 b0 b1 b2 b3 b4 : Int) : Option (Int × Int × Int × Int × Int) :=
  (hello_Check.f a0 a1 a2 a3 a4).bind fun s => (hello_Check.f b0 b1 b2 b3 b4).bind fun t =>
    if s = 0 then if t = 0 then if mn a1 b1 < mx a0 b0 then some (0, 0, 0, 0, 18)
      else if mn a3 b3 = 0 then some (mn a1 b1, Go.bits .and .i64 a2 b2, mx a3 b3, mx a4 b4, 0) else some (mn a1 b1, Go.bits .and .i64 a2 b2, mn a3 b3, mx a4 b4, 0)
    else some (0, 0, 0, 0, 2) else some (0, 0, 0, 0, 2)
set_option maxHeartbeats 2000000 in
theorem hello_Agree.c1 (a0 a1 a2 a3 a4 b0 b1 b2 b3 b4 s : Int) (w : World) (hs : hello_Check.f a0 a1 a2 a3 a4 = some s) (h0 : (s == 0) = false) (h0' : (s != 0) = true) :
    Calls Tryd.prog 20 #[.agg #[.int .i64 a0, .int .i64 a1, .int .i64 a2, .int .i64 a3, .int .i64 a4], .agg #[.int .i64 b0, .int .i64 b1, .int .i64 b2, .int .i64 b3, .int .i64 b4]] w fun e w' => e = .returned (.tuple #[.agg #[.int .i64 0, .int .i64 0, .int .i64 0, .int .i64 0], .int .i64 2]) ∧ Below w.heap.size w w' := by
  have H := Lib.hid hs
  clear hs
  go_enter Tryd.func20, Tryd.ntmps20
  go_wp2_with fail
  refine (hello_Check.calls a0 a1 a2 a3 a4 s _ H.out).mono ?_
  rintro e w1 ⟨rfl, hb⟩
  obtain ⟨T0, T1, T2⟩ := hello_Agree.three w (.cells #[.int .i64 a0, .int .i64 a1, .int .i64 a2, .int .i64 a3, .int .i64 a4] 23) (.cells #[.int .i64 b0, .int .i64 b1, .int .i64 b2, .int .i64 b3, .int .i64 b4] 23) (.cells #[.int .i64 0, .int .i64 0, .int .i64 0, .int .i64 0] 49)
  have A0 := blk_below T0 hb
  have A1 := blk_below T1 hb
  have A2 := Aside0.mk (blk_below T2 hb)
  have ca0 : w1.cell? ⟨w.heap.size, 0, none⟩ = some (.int .i64 a0) := (blk_cell A0 0).trans rfl
  have cb0 : w1.cell? ⟨w.heap.size + 1, 0, none⟩ = some (.int .i64 b0) := (blk_cell A1 0).trans rfl
  have ca1 : w1.cell? ⟨w.heap.size, 1, none⟩ = some (.int .i64 a1) := (blk_cell A0 1).trans rfl
  have cb1 : w1.cell? ⟨w.heap.size + 1, 1, none⟩ = some (.int .i64 b1) := (blk_cell A1 1).trans rfl
  have ca2 : w1.cell? ⟨w.heap.size, 2, none⟩ = some (.int .i64 a2) := (blk_cell A0 2).trans rfl
  have cb2 : w1.cell? ⟨w.heap.size + 1, 2, none⟩ = some (.int .i64 b2) := (blk_cell A1 2).trans rfl
  have ca3 : w1.cell? ⟨w.heap.size, 3, none⟩ = some (.int .i64 a3) := (blk_cell A0 3).trans rfl
  have cb3 : w1.cell? ⟨w.heap.size + 1, 3, none⟩ = some (.int .i64 b3) := (blk_cell A1 3).trans rfl
  have ca4 : w1.cell? ⟨w.heap.size, 4, none⟩ = some (.int .i64 a4) := (blk_cell A0 4).trans rfl
  have cb4 : w1.cell? ⟨w.heap.size + 1, 4, none⟩ = some (.int .i64 b4) := (blk_cell A1 4).trans rfl
  have cr0 : w1.cell? ⟨w.heap.size + 1 + 1, 0, none⟩ = some (.int .i64 0) := (blk_cell A2.out 0).trans rfl
  have fr0 : w1.frozen? ⟨w.heap.size + 1 + 1, 0, none⟩ = false := blk_frozen A2.out 0
  have cr1 : w1.cell? ⟨w.heap.size + 1 + 1, 1, none⟩ = some (.int .i64 0) := (blk_cell A2.out 1).trans rfl
  have fr1 : w1.frozen? ⟨w.heap.size + 1 + 1, 1, none⟩ = false := blk_frozen A2.out 1
  have cr2 : w1.cell? ⟨w.heap.size + 1 + 1, 2, none⟩ = some (.int .i64 0) := (blk_cell A2.out 2).trans rfl
  have fr2 : w1.frozen? ⟨w.heap.size + 1 + 1, 2, none⟩ = false := blk_frozen A2.out 2
  have cr3 : w1.cell? ⟨w.heap.size + 1 + 1, 3, none⟩ = some (.int .i64 0) := (blk_cell A2.out 3).trans rfl
  have fr3 : w1.frozen? ⟨w.heap.size + 1 + 1, 3, none⟩ = false := blk_frozen A2.out 3
  have HB := Aside0.mk (below_step (below_alloc (below_alloc (below_alloc (Below.refl _ w) _) _) _) hb)
  have hz2 : w.heap.size + 1 + 1 < w1.heap.size := (Array.getElem?_eq_some_iff.1 A2.out).1
  have hz0 : w.heap.size < w1.heap.size := by omega
  have hz1 : w.heap.size + 1 < w1.heap.size := by omega
  have hz0n : w.heap.size ≠ w1.heap.size := by omega
  have hz1n : w.heap.size + 1 ≠ w1.heap.size := by omega
  have hz2n : w.heap.size + 1 + 1 ≠ w1.heap.size := by omega
  clear A0 A1 T0 T1 T2 hb
  go_wp2
  refine bodyPost_ret (results_ct rfl _ _ (w.heap.size + 1 + 1) 49 #[.int .i64 0, .int .i64 0, .int .i64 0, .int .i64 0] (0, 0) _ rfl (hello_Agree.cells (.int .i64 0) (.int .i64 0) (.int .i64 0) (.int .i64 0) _ _ _ _ A2.out) Tryd.underlying49 rfl (by kernel_rfl)) rfl ?_
  exact ⟨rfl, hello_Agree.kept (.int .i64 0) (.int .i64 0) (.int .i64 0) (.int .i64 0) HB.out (by omega)⟩
set_option maxHeartbeats 2000000 in
theorem hello_Agree.c2 (a0 a1 a2 a3 a4 b0 b1 b2 b3 b4 s t : Int) (w : World) (hs : hello_Check.f a0 a1 a2 a3 a4 = some s) (h0 : (s == 0) = true) (h0' : (s != 0) = false) (ht : hello_Check.f b0 b1 b2 b3 b4 = some t) (h1 : (t == 0) = false) (h1' : (t != 0) = true) :
    Calls Tryd.prog 20 #[.agg #[.int .i64 a0, .int .i64 a1, .int .i64 a2, .int .i64 a3, .int .i64 a4], .agg #[.int .i64 b0, .int .i64 b1, .int .i64 b2, .int .i64 b3, .int .i64 b4]] w fun e w' => e = .returned (.tuple #[.agg #[.int .i64 0, .int .i64 0, .int .i64 0, .int .i64 0], .int .i64 2]) ∧ Below w.heap.size w w' := by
  have H := Lib.hid hs
  clear hs
  have H2 := Lib.hid ht
  clear ht
  go_enter Tryd.func20, Tryd.ntmps20
  go_wp2_with fail
  refine (hello_Check.calls a0 a1 a2 a3 a4 s _ H.out).mono ?_
  rintro e w1 ⟨rfl, hb⟩
  obtain ⟨hc, hf⟩ : (∀ b o, b < (((w.alloc (.cells #[.int .i64 a0, .int .i64 a1, .int .i64 a2, .int .i64 a3, .int .i64 a4] 23)).alloc (.cells #[.int .i64 b0, .int .i64 b1, .int .i64 b2, .int .i64 b3, .int .i64 b4] 23)).alloc (.cells #[.int .i64 0, .int .i64 0, .int .i64 0, .int .i64 0] 49)).heap.size → w1.cell? ⟨b, o, none⟩ = _) ∧ True := ⟨fun b o h => hb.cell (p := ⟨b, o, none⟩) h, trivial⟩
  go_wp2_with fail
  refine (hello_Check.calls b0 b1 b2 b3 b4 t _ H2.out).mono ?_
  rintro e w2 ⟨rfl, hb2⟩
  obtain ⟨T0, T1, T2⟩ := hello_Agree.three w (.cells #[.int .i64 a0, .int .i64 a1, .int .i64 a2, .int .i64 a3, .int .i64 a4] 23) (.cells #[.int .i64 b0, .int .i64 b1, .int .i64 b2, .int .i64 b3, .int .i64 b4] 23) (.cells #[.int .i64 0, .int .i64 0, .int .i64 0, .int .i64 0] 49)
  have A0 := blk_below (blk_below T0 hb) hb2
  have A1 := blk_below (blk_below T1 hb) hb2
  have A2 := Aside0.mk (blk_below (blk_below T2 hb) hb2)
  have ca0 : w2.cell? ⟨w.heap.size, 0, none⟩ = some (.int .i64 a0) := (blk_cell A0 0).trans rfl
  have cb0 : w2.cell? ⟨w.heap.size + 1, 0, none⟩ = some (.int .i64 b0) := (blk_cell A1 0).trans rfl
  have ca1 : w2.cell? ⟨w.heap.size, 1, none⟩ = some (.int .i64 a1) := (blk_cell A0 1).trans rfl
  have cb1 : w2.cell? ⟨w.heap.size + 1, 1, none⟩ = some (.int .i64 b1) := (blk_cell A1 1).trans rfl
  have ca2 : w2.cell? ⟨w.heap.size, 2, none⟩ = some (.int .i64 a2) := (blk_cell A0 2).trans rfl
  have cb2 : w2.cell? ⟨w.heap.size + 1, 2, none⟩ = some (.int .i64 b2) := (blk_cell A1 2).trans rfl
  have ca3 : w2.cell? ⟨w.heap.size, 3, none⟩ = some (.int .i64 a3) := (blk_cell A0 3).trans rfl
  have cb3 : w2.cell? ⟨w.heap.size + 1, 3, none⟩ = some (.int .i64 b3) := (blk_cell A1 3).trans rfl
  have ca4 : w2.cell? ⟨w.heap.size, 4, none⟩ = some (.int .i64 a4) := (blk_cell A0 4).trans rfl
  have cb4 : w2.cell? ⟨w.heap.size + 1, 4, none⟩ = some (.int .i64 b4) := (blk_cell A1 4).trans rfl
  have cr0 : w2.cell? ⟨w.heap.size + 1 + 1, 0, none⟩ = some (.int .i64 0) := (blk_cell A2.out 0).trans rfl
  have fr0 : w2.frozen? ⟨w.heap.size + 1 + 1, 0, none⟩ = false := blk_frozen A2.out 0
  have cr1 : w2.cell? ⟨w.heap.size + 1 + 1, 1, none⟩ = some (.int .i64 0) := (blk_cell A2.out 1).trans rfl
  have fr1 : w2.frozen? ⟨w.heap.size + 1 + 1, 1, none⟩ = false := blk_frozen A2.out 1
  have cr2 : w2.cell? ⟨w.heap.size + 1 + 1, 2, none⟩ = some (.int .i64 0) := (blk_cell A2.out 2).trans rfl
  have fr2 : w2.frozen? ⟨w.heap.size + 1 + 1, 2, none⟩ = false := blk_frozen A2.out 2
  have cr3 : w2.cell? ⟨w.heap.size + 1 + 1, 3, none⟩ = some (.int .i64 0) := (blk_cell A2.out 3).trans rfl
  have fr3 : w2.frozen? ⟨w.heap.size + 1 + 1, 3, none⟩ = false := blk_frozen A2.out 3
  have HB := Aside0.mk (below_step (below_step (below_alloc (below_alloc (below_alloc (Below.refl _ w) _) _) _) hb) hb2)
  have hz2 : w.heap.size + 1 + 1 < w2.heap.size := (Array.getElem?_eq_some_iff.1 A2.out).1
  have hz0 : w.heap.size < w2.heap.size := by omega
  have hz1 : w.heap.size + 1 < w2.heap.size := by omega
  have hz0n : w.heap.size ≠ w2.heap.size := by omega
  have hz1n : w.heap.size + 1 ≠ w2.heap.size := by omega
  have hz2n : w.heap.size + 1 + 1 ≠ w2.heap.size := by omega
  clear hc hf A0 A1 T0 T1 T2 hb hb2
  go_wp2
  refine bodyPost_ret (results_ct rfl _ _ (w.heap.size + 1 + 1) 49 #[.int .i64 0, .int .i64 0, .int .i64 0, .int .i64 0] (0, 0) _ rfl (hello_Agree.cells (.int .i64 0) (.int .i64 0) (.int .i64 0) (.int .i64 0) _ _ _ _ A2.out) Tryd.underlying49 rfl (by kernel_rfl)) rfl ?_
  exact ⟨rfl, hello_Agree.kept (.int .i64 0) (.int .i64 0) (.int .i64 0) (.int .i64 0) HB.out (by omega)⟩
set_option maxHeartbeats 2000000 in
theorem hello_Agree.c3 (a0 a1 a2 a3 a4 b0 b1 b2 b3 b4 s t : Int) (w : World) (hs : hello_Check.f a0 a1 a2 a3 a4 = some s) (h0 : (s == 0) = true) (h0' : (s != 0) = false) (ht : hello_Check.f b0 b1 b2 b3 b4 = some t) (h1 : (t == 0) = true) (h1' : (t != 0) = false) (v m k st : Int) (hv : (if b1 < a1 then b1 else a1) = v) (hm : (if a0 < b0 then b0 else a0) = m) (hk : (if b3 < a3 then b3 else a3) = k) (hst : (if a4 < b4 then b4 else a4) = st) (h2 : decide (v < m) = true) :
    Calls Tryd.prog 20 #[.agg #[.int .i64 a0, .int .i64 a1, .int .i64 a2, .int .i64 a3, .int .i64 a4], .agg #[.int .i64 b0, .int .i64 b1, .int .i64 b2, .int .i64 b3, .int .i64 b4]] w fun e w' => e = .returned (.tuple #[.agg #[.int .i64 0, .int .i64 0, .int .i64 0, .int .i64 0], .int .i64 18]) ∧ Below w.heap.size w w' := by
  have H := Lib.hid hs
  clear hs
  have H2 := Lib.hid ht
  clear ht
  go_enter Tryd.func20, Tryd.ntmps20
  go_wp2_with fail
  refine (hello_Check.calls a0 a1 a2 a3 a4 s _ H.out).mono ?_
  rintro e w1 ⟨rfl, hb⟩
  obtain ⟨hc, hf⟩ : (∀ b o, b < (((w.alloc (.cells #[.int .i64 a0, .int .i64 a1, .int .i64 a2, .int .i64 a3, .int .i64 a4] 23)).alloc (.cells #[.int .i64 b0, .int .i64 b1, .int .i64 b2, .int .i64 b3, .int .i64 b4] 23)).alloc (.cells #[.int .i64 0, .int .i64 0, .int .i64 0, .int .i64 0] 49)).heap.size → w1.cell? ⟨b, o, none⟩ = _) ∧ True := ⟨fun b o h => hb.cell (p := ⟨b, o, none⟩) h, trivial⟩
  go_wp2_with fail
  refine (hello_Check.calls b0 b1 b2 b3 b4 t _ H2.out).mono ?_
  rintro e w2 ⟨rfl, hb2⟩
  obtain ⟨T0, T1, T2⟩ := hello_Agree.three w (.cells #[.int .i64 a0, .int .i64 a1, .int .i64 a2, .int .i64 a3, .int .i64 a4] 23) (.cells #[.int .i64 b0, .int .i64 b1, .int .i64 b2, .int .i64 b3, .int .i64 b4] 23) (.cells #[.int .i64 0, .int .i64 0, .int .i64 0, .int .i64 0] 49)
  have A0 := blk_below (blk_below T0 hb) hb2
  have A1 := blk_below (blk_below T1 hb) hb2
  have A2 := Aside0.mk (blk_below (blk_below T2 hb) hb2)
  have ca0 : w2.cell? ⟨w.heap.size, 0, none⟩ = some (.int .i64 a0) := (blk_cell A0 0).trans rfl
  have cb0 : w2.cell? ⟨w.heap.size + 1, 0, none⟩ = some (.int .i64 b0) := (blk_cell A1 0).trans rfl
  have ca1 : w2.cell? ⟨w.heap.size, 1, none⟩ = some (.int .i64 a1) := (blk_cell A0 1).trans rfl
  have cb1 : w2.cell? ⟨w.heap.size + 1, 1, none⟩ = some (.int .i64 b1) := (blk_cell A1 1).trans rfl
  have ca2 : w2.cell? ⟨w.heap.size, 2, none⟩ = some (.int .i64 a2) := (blk_cell A0 2).trans rfl
  have cb2 : w2.cell? ⟨w.heap.size + 1, 2, none⟩ = some (.int .i64 b2) := (blk_cell A1 2).trans rfl
  have ca3 : w2.cell? ⟨w.heap.size, 3, none⟩ = some (.int .i64 a3) := (blk_cell A0 3).trans rfl
  have cb3 : w2.cell? ⟨w.heap.size + 1, 3, none⟩ = some (.int .i64 b3) := (blk_cell A1 3).trans rfl
  have ca4 : w2.cell? ⟨w.heap.size, 4, none⟩ = some (.int .i64 a4) := (blk_cell A0 4).trans rfl
  have cb4 : w2.cell? ⟨w.heap.size + 1, 4, none⟩ = some (.int .i64 b4) := (blk_cell A1 4).trans rfl
  have cr0 : w2.cell? ⟨w.heap.size + 1 + 1, 0, none⟩ = some (.int .i64 0) := (blk_cell A2.out 0).trans rfl
  have fr0 : w2.frozen? ⟨w.heap.size + 1 + 1, 0, none⟩ = false := blk_frozen A2.out 0
  have cr1 : w2.cell? ⟨w.heap.size + 1 + 1, 1, none⟩ = some (.int .i64 0) := (blk_cell A2.out 1).trans rfl
  have fr1 : w2.frozen? ⟨w.heap.size + 1 + 1, 1, none⟩ = false := blk_frozen A2.out 1
  have cr2 : w2.cell? ⟨w.heap.size + 1 + 1, 2, none⟩ = some (.int .i64 0) := (blk_cell A2.out 2).trans rfl
  have fr2 : w2.frozen? ⟨w.heap.size + 1 + 1, 2, none⟩ = false := blk_frozen A2.out 2
  have cr3 : w2.cell? ⟨w.heap.size + 1 + 1, 3, none⟩ = some (.int .i64 0) := (blk_cell A2.out 3).trans rfl
  have fr3 : w2.frozen? ⟨w.heap.size + 1 + 1, 3, none⟩ = false := blk_frozen A2.out 3
  have HB := Aside0.mk (below_step (below_step (below_alloc (below_alloc (below_alloc (Below.refl _ w) _) _) _) hb) hb2)
  have hz2 : w.heap.size + 1 + 1 < w2.heap.size := (Array.getElem?_eq_some_iff.1 A2.out).1
  have hz0 : w.heap.size < w2.heap.size := by omega
  have hz1 : w.heap.size + 1 < w2.heap.size := by omega
  have hz0n : w.heap.size ≠ w2.heap.size := by omega
  have hz1n : w.heap.size + 1 ≠ w2.heap.size := by omega
  have hz2n : w.heap.size + 1 + 1 ≠ w2.heap.size := by omega
  clear hc hf A0 A1 T0 T1 T2 hb hb2
  go_wp2
  refine bodyPost_ret (results_ct rfl _ _ (w.heap.size + 1 + 1) 49 #[.int .i64 0, .int .i64 0, .int .i64 0, .int .i64 0] (0, 0) _ rfl (blk_alloc (hello_Agree.cells (.int .i64 0) (.int .i64 0) (.int .i64 0) (.int .i64 0) _ _ _ _ A2.out) _) Tryd.underlying49 rfl (by kernel_rfl)) rfl ?_
  exact ⟨rfl, below_alloc (hello_Agree.kept (.int .i64 0) (.int .i64 0) (.int .i64 0) (.int .i64 0) HB.out (by omega)) _⟩
set_option maxHeartbeats 2000000 in
theorem hello_Agree.c4 (a0 a1 a2 a3 a4 b0 b1 b2 b3 b4 s t : Int) (w : World) (hs : hello_Check.f a0 a1 a2 a3 a4 = some s) (h0 : (s == 0) = true) (h0' : (s != 0) = false) (ht : hello_Check.f b0 b1 b2 b3 b4 = some t) (h1 : (t == 0) = true) (h1' : (t != 0) = false) (v m k st : Int) (hv : (if b1 < a1 then b1 else a1) = v) (hm : (if a0 < b0 then b0 else a0) = m) (hk : (if b3 < a3 then b3 else a3) = k) (hst : (if a4 < b4 then b4 else a4) = st) (h2 : decide (v < m) = false) (h3 : (k == 0) = false) (h3' : (k != 0) = true) :
    Calls Tryd.prog 20 #[.agg #[.int .i64 a0, .int .i64 a1, .int .i64 a2, .int .i64 a3, .int .i64 a4], .agg #[.int .i64 b0, .int .i64 b1, .int .i64 b2, .int .i64 b3, .int .i64 b4]] w fun e w' => e = .returned (.tuple #[.agg #[.int .i64 v, .int .i64 (Go.bits .and .i64 a2 b2), .int .i64 k, .int .i64 st], .int .i64 0]) ∧ Below w.heap.size w w' := by
  have H := Lib.hid hs
  clear hs
  have H2 := Lib.hid ht
  clear ht
  go_enter Tryd.func20, Tryd.ntmps20
  go_wp2_with fail
  refine (hello_Check.calls a0 a1 a2 a3 a4 s _ H.out).mono ?_
  rintro e w1 ⟨rfl, hb⟩
  obtain ⟨hc, hf⟩ : (∀ b o, b < (((w.alloc (.cells #[.int .i64 a0, .int .i64 a1, .int .i64 a2, .int .i64 a3, .int .i64 a4] 23)).alloc (.cells #[.int .i64 b0, .int .i64 b1, .int .i64 b2, .int .i64 b3, .int .i64 b4] 23)).alloc (.cells #[.int .i64 0, .int .i64 0, .int .i64 0, .int .i64 0] 49)).heap.size → w1.cell? ⟨b, o, none⟩ = _) ∧ True := ⟨fun b o h => hb.cell (p := ⟨b, o, none⟩) h, trivial⟩
  go_wp2_with fail
  refine (hello_Check.calls b0 b1 b2 b3 b4 t _ H2.out).mono ?_
  rintro e w2 ⟨rfl, hb2⟩
  obtain ⟨T0, T1, T2⟩ := hello_Agree.three w (.cells #[.int .i64 a0, .int .i64 a1, .int .i64 a2, .int .i64 a3, .int .i64 a4] 23) (.cells #[.int .i64 b0, .int .i64 b1, .int .i64 b2, .int .i64 b3, .int .i64 b4] 23) (.cells #[.int .i64 0, .int .i64 0, .int .i64 0, .int .i64 0] 49)
  have A0 := blk_below (blk_below T0 hb) hb2
  have A1 := blk_below (blk_below T1 hb) hb2
  have A2 := Aside0.mk (blk_below (blk_below T2 hb) hb2)
  have ca0 : w2.cell? ⟨w.heap.size, 0, none⟩ = some (.int .i64 a0) := (blk_cell A0 0).trans rfl
  have cb0 : w2.cell? ⟨w.heap.size + 1, 0, none⟩ = some (.int .i64 b0) := (blk_cell A1 0).trans rfl
  have ca1 : w2.cell? ⟨w.heap.size, 1, none⟩ = some (.int .i64 a1) := (blk_cell A0 1).trans rfl
  have cb1 : w2.cell? ⟨w.heap.size + 1, 1, none⟩ = some (.int .i64 b1) := (blk_cell A1 1).trans rfl
  have ca2 : w2.cell? ⟨w.heap.size, 2, none⟩ = some (.int .i64 a2) := (blk_cell A0 2).trans rfl
  have cb2 : w2.cell? ⟨w.heap.size + 1, 2, none⟩ = some (.int .i64 b2) := (blk_cell A1 2).trans rfl
  have ca3 : w2.cell? ⟨w.heap.size, 3, none⟩ = some (.int .i64 a3) := (blk_cell A0 3).trans rfl
  have cb3 : w2.cell? ⟨w.heap.size + 1, 3, none⟩ = some (.int .i64 b3) := (blk_cell A1 3).trans rfl
  have ca4 : w2.cell? ⟨w.heap.size, 4, none⟩ = some (.int .i64 a4) := (blk_cell A0 4).trans rfl
  have cb4 : w2.cell? ⟨w.heap.size + 1, 4, none⟩ = some (.int .i64 b4) := (blk_cell A1 4).trans rfl
  have cr0 : w2.cell? ⟨w.heap.size + 1 + 1, 0, none⟩ = some (.int .i64 0) := (blk_cell A2.out 0).trans rfl
  have fr0 : w2.frozen? ⟨w.heap.size + 1 + 1, 0, none⟩ = false := blk_frozen A2.out 0
  have cr1 : w2.cell? ⟨w.heap.size + 1 + 1, 1, none⟩ = some (.int .i64 0) := (blk_cell A2.out 1).trans rfl
  have fr1 : w2.frozen? ⟨w.heap.size + 1 + 1, 1, none⟩ = false := blk_frozen A2.out 1
  have cr2 : w2.cell? ⟨w.heap.size + 1 + 1, 2, none⟩ = some (.int .i64 0) := (blk_cell A2.out 2).trans rfl
  have fr2 : w2.frozen? ⟨w.heap.size + 1 + 1, 2, none⟩ = false := blk_frozen A2.out 2
  have cr3 : w2.cell? ⟨w.heap.size + 1 + 1, 3, none⟩ = some (.int .i64 0) := (blk_cell A2.out 3).trans rfl
  have fr3 : w2.frozen? ⟨w.heap.size + 1 + 1, 3, none⟩ = false := blk_frozen A2.out 3
  have HB := Aside0.mk (below_step (below_step (below_alloc (below_alloc (below_alloc (Below.refl _ w) _) _) _) hb) hb2)
  have hz2 : w.heap.size + 1 + 1 < w2.heap.size := (Array.getElem?_eq_some_iff.1 A2.out).1
  have hz0 : w.heap.size < w2.heap.size := by omega
  have hz1 : w.heap.size + 1 < w2.heap.size := by omega
  have hz0n : w.heap.size ≠ w2.heap.size := by omega
  have hz1n : w.heap.size + 1 ≠ w2.heap.size := by omega
  have hz2n : w.heap.size + 1 + 1 ≠ w2.heap.size := by omega
  clear hc hf A0 A1 T0 T1 T2 hb hb2
  go_wp2
  refine bodyPost_ret (results_ct rfl _ _ (w.heap.size + 1 + 1) 49 #[.int .i64 v, .int .i64 (Go.bits .and .i64 a2 b2), .int .i64 k, .int .i64 st] (0, 0) _ rfl (blk_alloc (hello_Agree.cells (.int .i64 v) (.int .i64 (Go.bits .and .i64 a2 b2)) (.int .i64 k) (.int .i64 st) _ _ _ _ A2.out) _) Tryd.underlying49 rfl (by kernel_rfl)) rfl ?_
  exact ⟨rfl, below_alloc (hello_Agree.kept (.int .i64 v) (.int .i64 (Go.bits .and .i64 a2 b2)) (.int .i64 k) (.int .i64 st) HB.out (by omega)) _⟩
set_option maxHeartbeats 2000000 in
theorem hello_Agree.c5 (a0 a1 a2 a3 a4 b0 b1 b2 b3 b4 s t : Int) (w : World) (hs : hello_Check.f a0 a1 a2 a3 a4 = some s) (h0 : (s == 0) = true) (h0' : (s != 0) = false) (ht : hello_Check.f b0 b1 b2 b3 b4 = some t) (h1 : (t == 0) = true) (h1' : (t != 0) = false) (v m k k2 st : Int) (hv : (if b1 < a1 then b1 else a1) = v) (hm : (if a0 < b0 then b0 else a0) = m) (hk : (if b3 < a3 then b3 else a3) = k) (hk2 : (if a3 < b3 then b3 else a3) = k2) (hst : (if a4 < b4 then b4 else a4) = st) (h2 : decide (v < m) = false) (h3 : (k == 0) = true) (h3' : (k != 0) = false) :
    Calls Tryd.prog 20 #[.agg #[.int .i64 a0, .int .i64 a1, .int .i64 a2, .int .i64 a3, .int .i64 a4], .agg #[.int .i64 b0, .int .i64 b1, .int .i64 b2, .int .i64 b3, .int .i64 b4]] w fun e w' => e = .returned (.tuple #[.agg #[.int .i64 v, .int .i64 (Go.bits .and .i64 a2 b2), .int .i64 k2, .int .i64 st], .int .i64 0]) ∧ Below w.heap.size w w' := by
  have H := Lib.hid hs
  clear hs
  have H2 := Lib.hid ht
  clear ht
  go_enter Tryd.func20, Tryd.ntmps20
  go_wp2_with fail
  refine (hello_Check.calls a0 a1 a2 a3 a4 s _ H.out).mono ?_
  rintro e w1 ⟨rfl, hb⟩
  obtain ⟨hc, hf⟩ : (∀ b o, b < (((w.alloc (.cells #[.int .i64 a0, .int .i64 a1, .int .i64 a2, .int .i64 a3, .int .i64 a4] 23)).alloc (.cells #[.int .i64 b0, .int .i64 b1, .int .i64 b2, .int .i64 b3, .int .i64 b4] 23)).alloc (.cells #[.int .i64 0, .int .i64 0, .int .i64 0, .int .i64 0] 49)).heap.size → w1.cell? ⟨b, o, none⟩ = _) ∧ True := ⟨fun b o h => hb.cell (p := ⟨b, o, none⟩) h, trivial⟩
  go_wp2_with fail
  refine (hello_Check.calls b0 b1 b2 b3 b4 t _ H2.out).mono ?_
  rintro e w2 ⟨rfl, hb2⟩
  obtain ⟨T0, T1, T2⟩ := hello_Agree.three w (.cells #[.int .i64 a0, .int .i64 a1, .int .i64 a2, .int .i64 a3, .int .i64 a4] 23) (.cells #[.int .i64 b0, .int .i64 b1, .int .i64 b2, .int .i64 b3, .int .i64 b4] 23) (.cells #[.int .i64 0, .int .i64 0, .int .i64 0, .int .i64 0] 49)
  have A0 := blk_below (blk_below T0 hb) hb2
  have A1 := blk_below (blk_below T1 hb) hb2
  have A2 := Aside0.mk (blk_below (blk_below T2 hb) hb2)
  have ca0 : w2.cell? ⟨w.heap.size, 0, none⟩ = some (.int .i64 a0) := (blk_cell A0 0).trans rfl
  have cb0 : w2.cell? ⟨w.heap.size + 1, 0, none⟩ = some (.int .i64 b0) := (blk_cell A1 0).trans rfl
  have ca1 : w2.cell? ⟨w.heap.size, 1, none⟩ = some (.int .i64 a1) := (blk_cell A0 1).trans rfl
  have cb1 : w2.cell? ⟨w.heap.size + 1, 1, none⟩ = some (.int .i64 b1) := (blk_cell A1 1).trans rfl
  have ca2 : w2.cell? ⟨w.heap.size, 2, none⟩ = some (.int .i64 a2) := (blk_cell A0 2).trans rfl
  have cb2 : w2.cell? ⟨w.heap.size + 1, 2, none⟩ = some (.int .i64 b2) := (blk_cell A1 2).trans rfl
  have ca3 : w2.cell? ⟨w.heap.size, 3, none⟩ = some (.int .i64 a3) := (blk_cell A0 3).trans rfl
  have cb3 : w2.cell? ⟨w.heap.size + 1, 3, none⟩ = some (.int .i64 b3) := (blk_cell A1 3).trans rfl
  have ca4 : w2.cell? ⟨w.heap.size, 4, none⟩ = some (.int .i64 a4) := (blk_cell A0 4).trans rfl
  have cb4 : w2.cell? ⟨w.heap.size + 1, 4, none⟩ = some (.int .i64 b4) := (blk_cell A1 4).trans rfl
  have cr0 : w2.cell? ⟨w.heap.size + 1 + 1, 0, none⟩ = some (.int .i64 0) := (blk_cell A2.out 0).trans rfl
  have fr0 : w2.frozen? ⟨w.heap.size + 1 + 1, 0, none⟩ = false := blk_frozen A2.out 0
  have cr1 : w2.cell? ⟨w.heap.size + 1 + 1, 1, none⟩ = some (.int .i64 0) := (blk_cell A2.out 1).trans rfl
  have fr1 : w2.frozen? ⟨w.heap.size + 1 + 1, 1, none⟩ = false := blk_frozen A2.out 1
  have cr2 : w2.cell? ⟨w.heap.size + 1 + 1, 2, none⟩ = some (.int .i64 0) := (blk_cell A2.out 2).trans rfl
  have fr2 : w2.frozen? ⟨w.heap.size + 1 + 1, 2, none⟩ = false := blk_frozen A2.out 2
  have cr3 : w2.cell? ⟨w.heap.size + 1 + 1, 3, none⟩ = some (.int .i64 0) := (blk_cell A2.out 3).trans rfl
  have fr3 : w2.frozen? ⟨w.heap.size + 1 + 1, 3, none⟩ = false := blk_frozen A2.out 3
  have HB := Aside0.mk (below_step (below_step (below_alloc (below_alloc (below_alloc (Below.refl _ w) _) _) _) hb) hb2)
  have hz2 : w.heap.size + 1 + 1 < w2.heap.size := (Array.getElem?_eq_some_iff.1 A2.out).1
  have hz0 : w.heap.size < w2.heap.size := by omega
  have hz1 : w.heap.size + 1 < w2.heap.size := by omega
  have hz0n : w.heap.size ≠ w2.heap.size := by omega
  have hz1n : w.heap.size + 1 ≠ w2.heap.size := by omega
  have hz2n : w.heap.size + 1 + 1 ≠ w2.heap.size := by omega
  clear hc hf A0 A1 T0 T1 T2 hb hb2
  go_wp2
  refine bodyPost_ret (results_ct rfl _ _ (w.heap.size + 1 + 1) 49 #[.int .i64 v, .int .i64 (Go.bits .and .i64 a2 b2), .int .i64 k2, .int .i64 st] (0, 0) _ rfl (blk_alloc (hello_Agree.cells (.int .i64 v) (.int .i64 (Go.bits .and .i64 a2 b2)) (.int .i64 k2) (.int .i64 st) _ _ _ _ A2.out) _) Tryd.underlying49 rfl (by kernel_rfl)) rfl ?_
  exact ⟨rfl, below_alloc (hello_Agree.kept (.int .i64 v) (.int .i64 (Go.bits .and .i64 a2 b2)) (.int .i64 k2) (.int .i64 st) HB.out (by omega)) _⟩
theorem hello_Agree.calls (a0 a1 a2 a3 a4 b0 b1 b2 b3 b4 r1 r2 r3 r4 r5 : Int) (w : World) (h : hello_Agree.f a0 a1 a2 a3 a4 b0 b1 b2 b3 b4 = some (r1, r2, r3, r4, r5)) :
    Calls Tryd.prog 20 #[.agg #[.int .i64 a0, .int .i64 a1, .int .i64 a2, .int .i64 a3, .int .i64 a4], .agg #[.int .i64 b0, .int .i64 b1, .int .i64 b2, .int .i64 b3, .int .i64 b4]] w fun e w' => e = .returned (.tuple #[.agg #[.int .i64 r1, .int .i64 r2, .int .i64 r3, .int .i64 r4], .int .i64 r5]) ∧ Below w.heap.size w w' := by
  unfold hello_Agree.f at h
  obtain ⟨s, hs, h⟩ := Option.bind_eq_some_iff.mp h
  obtain ⟨t, ht, h⟩ := Option.bind_eq_some_iff.mp h
  by_cases c1 : s = 0
  · rw [if_pos c1] at h
    by_cases c2 : t = 0
    · rw [if_pos c2] at h
      by_cases c3 : mn a1 b1 < mx a0 b0
      · rw [if_pos c3] at h
        simp only [Option.some.injEq, Prod.mk.injEq] at h
        obtain ⟨rfl, rfl, rfl, rfl, rfl⟩ := h
        exact hello_Agree.c3 a0 a1 a2 a3 a4 b0 b1 b2 b3 b4 s t w hs (beq_iff_eq.mpr c1) (bne_eq_false_iff_eq.mpr c1) ht (beq_iff_eq.mpr c2) (bne_eq_false_iff_eq.mpr c2) _ _ _ _ rfl rfl rfl rfl (decide_eq_true c3)
      · rw [if_neg c3] at h
        by_cases c4 : mn a3 b3 = 0
        · rw [if_pos c4] at h
          simp only [Option.some.injEq, Prod.mk.injEq] at h
          obtain ⟨rfl, rfl, rfl, rfl, rfl⟩ := h
          exact hello_Agree.c5 a0 a1 a2 a3 a4 b0 b1 b2 b3 b4 s t w hs (beq_iff_eq.mpr c1) (bne_eq_false_iff_eq.mpr c1) ht (beq_iff_eq.mpr c2) (bne_eq_false_iff_eq.mpr c2) _ _ _ _ _ rfl rfl rfl rfl rfl (decide_eq_false c3) (beq_iff_eq.mpr c4) (bne_eq_false_iff_eq.mpr c4)
        · rw [if_neg c4] at h
          simp only [Option.some.injEq, Prod.mk.injEq] at h
          obtain ⟨rfl, rfl, rfl, rfl, rfl⟩ := h
          exact hello_Agree.c4 a0 a1 a2 a3 a4 b0 b1 b2 b3 b4 s t w hs (beq_iff_eq.mpr c1) (bne_eq_false_iff_eq.mpr c1) ht (beq_iff_eq.mpr c2) (bne_eq_false_iff_eq.mpr c2) _ _ _ _ rfl rfl rfl rfl (decide_eq_false c3) (beq_eq_false_iff_ne.mpr c4) (bne_iff_ne.mpr c4)
    · rw [if_neg c2] at h
      simp only [Option.some.injEq, Prod.mk.injEq] at h
      obtain ⟨rfl, rfl, rfl, rfl, rfl⟩ := h
      exact hello_Agree.c2 a0 a1 a2 a3 a4 b0 b1 b2 b3 b4 s t w hs (beq_iff_eq.mpr c1) (bne_eq_false_iff_eq.mpr c1) ht (beq_eq_false_iff_ne.mpr c2) (bne_iff_ne.mpr c2)
  · rw [if_neg c1] at h
    simp only [Option.some.injEq, Prod.mk.injEq] at h
    obtain ⟨rfl, rfl, rfl, rfl, rfl⟩ := h
    exact hello_Agree.c1 a0 a1 a2 a3 a4 b0 b1 b2 b3 b4 s w hs (beq_eq_false_iff_ne.mpr c1) (bne_iff_ne.mpr c1)


/-! ### remoralaw32_awake: function 9 -/
def remoralaw32_awake.f  : Option (Bool) := (hello_Agree.f 1 3 6 0 4 2 5 3 512 8).bind fun bt216 => (if bt216.2.2.2.2 = 0 then (some (bt216.1 == 3 && (bt216.2.1 == 2 && (bt216.2.2.1 == 512 && (bt216.2.2.2.1 == 8))))) else (some false))
set_option maxHeartbeats 8000000 in
set_option maxRecDepth 100000 in
theorem remoralaw32_awake.calls  (r : Bool) (w : World) (h : remoralaw32_awake.f  = some r) :
    Calls Tryd.prog 9 #[] w fun e w' => e = .returned (.bool r) ∧ Below w.heap.size w w' := by
  have hu23 := Tryd.underlying23
  have hu49 := Tryd.underlying49
  have HB := Aside0.mk (Below.refl w.heap.size w)
  have H : ((hello_Agree.f 1 3 6 0 4 2 5 3 512 8).bind fun bt216 => (if bt216.2.2.2.2 = 0 then (some (bt216.1 == 3 && (bt216.2.1 == 2 && (bt216.2.2.1 == 512 && (bt216.2.2.2.1 == 8))))) else (some false))) = some r := h
  clear h
  replace H := Option.bind_eq_some_iff.mp H
  obtain ⟨⟨t216, t217, t218, t219, t220⟩, A10, H⟩ := H
  replace H : (if t220 = 0 then (some (t216 == 3 && (t217 == 2 && (t218 == 512 && (t219 == 8))))) else (some false)) = some r := H
  have A1 := Aside0.mk A10
  clear A10
  by_cases c2 : t220 = 0
  · rw [if_pos c2] at H
    have c2b0 : (t220 == 0) = true := beq_iff_eq.mpr c2
    have c2b1 : (t220 != 0) = false := bne_eq_false_iff_eq.mpr c2
    clear c2
    obtain rfl := Option.some.inj H
    go_enter Tryd.func9, Tryd.ntmps9
    go_wp2_with (first | ((with_reducible refine gate_callee (f := 20) rfl ?_); refine goesL_ (some 6) rfl rfl Tryd.func20 (by kernel_rfl) rfl #[.agg #[.int .i64 1, .int .i64 3, .int .i64 6, .int .i64 0, .int .i64 4], .agg #[.int .i64 2, .int .i64 5, .int .i64 3, .int .i64 512, .int .i64 8]] rfl (by (try simp only [List.map_toArray, List.map_cons, List.map_nil]); first | done | rfl | (simp only [List.length_drop, List.length_take]; rfl) | (simp; done) | (simp; (repeat' apply And.intro) <;> rfl)) ?_; (with_reducible refine (hello_Agree.calls 1 3 6 0 4 2 5 3 512 8 t216 t217 t218 t219 t220 _ A1.out).mono ?_); rintro e w3 ⟨rfl, hb⟩; refine ⟨_, rfl, ?_⟩; have n0_ := Aside0.mk (below_step (by repeat (first | (with_reducible first | exact HB.out | apply below_alloc | apply pw_below_drewN | apply below_drew1) | exact HB.out)) hb); clear HB; have HB := n0_; clear n0_; (try clear hb); (try clear hb2); (try clear hk); (try clear hi)) | ((with_reducible refine gate_dst (N := 1) rfl ?_); refine box_event ?hg (N := 1) ?hd (cs := #[.int .i64 0, .int .i64 0, .int .i64 0, .int .i64 0]) (t := 49) ?hr ?_; (case hd => rfl); (case hg => rfl); (case hr => first | (go_simp; done) | (go_simp; rfl)); intro gb221 hg w4 hbox hb; have n0_ := Aside0.mk (below_step (by repeat (first | (with_reducible first | exact HB.out | apply below_alloc | apply pw_below_drewN | apply below_drew1) | exact HB.out)) hb); have n1_ := Aside0.mk (hbox); have n2_ := Aside0.mk ((by rw [hg]; exact (below_size (by repeat (first | (with_reducible first | exact HB.out | apply below_alloc | apply pw_below_drewN | apply below_drew1) | exact HB.out))) : w.heap.size ≤ gb221)); have n3_ := Aside0.mk ((by rw [hg]; exact (below_size (by repeat (first | (with_reducible first | exact HB.out | apply below_alloc | apply pw_below_drewN | apply below_drew1) | exact HB.out))) : w.heap.size ≤ gb221)); clear HB; have HB := n0_; have BK221 := n1_; have GW221 := n2_; have GE221 := n3_; clear n0_ n1_ n2_ n3_; clear hb hbox hg; have hcz5_0 : w4.cell? ⟨gb221, 0, none⟩ = some (.int .i64 0) := (blk_cell BK221.out 0).trans rfl; have hcz5_1 : w4.cell? ⟨gb221, 1, none⟩ = some (.int .i64 0) := (blk_cell BK221.out 1).trans rfl; have hcz5_2 : w4.cell? ⟨gb221, 2, none⟩ = some (.int .i64 0) := (blk_cell BK221.out 2).trans rfl; have hcz5_3 : w4.cell? ⟨gb221, 3, none⟩ = some (.int .i64 0) := (blk_cell BK221.out 3).trans rfl; have hfz5_0 := blk_frozen BK221.out 0; have hfz5_1 := blk_frozen BK221.out 1; have hfz5_2 := blk_frozen BK221.out 2; have hfz5_3 := blk_frozen BK221.out 3))
    go_ret
    exact ⟨by first | rfl | (simp [errW_none, errW_some] <;> rfl) | (simp [*, errW_none, errW_some] <;> rfl), by repeat (first | (with_reducible first | exact HB.out | apply below_alloc | apply pw_below_drewN | apply below_drew1 | refine below_set ?_ GE221.out) | exact HB.out)⟩
  · rw [if_neg c2] at H
    have c2b0 : (t220 == 0) = false := beq_eq_false_iff_ne.mpr c2
    have c2b1 : (t220 != 0) = true := bne_iff_ne.mpr c2
    obtain rfl := Option.some.inj H
    go_enter Tryd.func9, Tryd.ntmps9
    go_wp2_with (first | ((with_reducible refine gate_callee (f := 20) rfl ?_); refine goesL_ (some 6) rfl rfl Tryd.func20 (by kernel_rfl) rfl #[.agg #[.int .i64 1, .int .i64 3, .int .i64 6, .int .i64 0, .int .i64 4], .agg #[.int .i64 2, .int .i64 5, .int .i64 3, .int .i64 512, .int .i64 8]] rfl (by (try simp only [List.map_toArray, List.map_cons, List.map_nil]); first | done | rfl | (simp only [List.length_drop, List.length_take]; rfl) | (simp; done) | (simp; (repeat' apply And.intro) <;> rfl)) ?_; (with_reducible refine (hello_Agree.calls 1 3 6 0 4 2 5 3 512 8 t216 t217 t218 t219 t220 _ A1.out).mono ?_); rintro e w6 ⟨rfl, hb⟩; refine ⟨_, rfl, ?_⟩; have n0_ := Aside0.mk (below_step (by repeat (first | (with_reducible first | exact HB.out | apply below_alloc | apply pw_below_drewN | apply below_drew1) | exact HB.out)) hb); clear HB; have HB := n0_; clear n0_; (try clear hb); (try clear hb2); (try clear hk); (try clear hi)) | ((with_reducible refine gate_dst (N := 1) rfl ?_); refine box_event ?hg (N := 1) ?hd (cs := #[.int .i64 0, .int .i64 0, .int .i64 0, .int .i64 0]) (t := 49) ?hr ?_; (case hd => rfl); (case hg => rfl); (case hr => first | (go_simp; done) | (go_simp; rfl)); intro gb221 hg w7 hbox hb; have n0_ := Aside0.mk (below_step (by repeat (first | (with_reducible first | exact HB.out | apply below_alloc | apply pw_below_drewN | apply below_drew1) | exact HB.out)) hb); have n1_ := Aside0.mk (hbox); have n2_ := Aside0.mk ((by rw [hg]; exact (below_size (by repeat (first | (with_reducible first | exact HB.out | apply below_alloc | apply pw_below_drewN | apply below_drew1) | exact HB.out))) : w.heap.size ≤ gb221)); have n3_ := Aside0.mk ((by rw [hg]; exact (below_size (by repeat (first | (with_reducible first | exact HB.out | apply below_alloc | apply pw_below_drewN | apply below_drew1) | exact HB.out))) : w.heap.size ≤ gb221)); clear HB; have HB := n0_; have BK221 := n1_; have GW221 := n2_; have GE221 := n3_; clear n0_ n1_ n2_ n3_; clear hb hbox hg; have hcz8_0 : w7.cell? ⟨gb221, 0, none⟩ = some (.int .i64 0) := (blk_cell BK221.out 0).trans rfl; have hcz8_1 : w7.cell? ⟨gb221, 1, none⟩ = some (.int .i64 0) := (blk_cell BK221.out 1).trans rfl; have hcz8_2 : w7.cell? ⟨gb221, 2, none⟩ = some (.int .i64 0) := (blk_cell BK221.out 2).trans rfl; have hcz8_3 : w7.cell? ⟨gb221, 3, none⟩ = some (.int .i64 0) := (blk_cell BK221.out 3).trans rfl; have hfz8_0 := blk_frozen BK221.out 0; have hfz8_1 := blk_frozen BK221.out 1; have hfz8_2 := blk_frozen BK221.out 2; have hfz8_3 := blk_frozen BK221.out 3))
    go_ret
    exact ⟨by first | rfl | (simp [errW_none, errW_some] <;> rfl) | (simp [*, errW_none, errW_some] <;> rfl), by repeat (first | (with_reducible first | exact HB.out | apply below_alloc | apply pw_below_drewN | apply below_drew1 | refine below_set ?_ GE221.out) | exact HB.out)⟩

/-! ### remoralaw32_HelloBytes: function 3, a contract of my own -/
theorem helloAwake : remoralaw32_awake.f = some true := by kernel_rfl
theorem off_five {w : World} {g t : Nat} {x0 x1 x2 x3 x4 : Int} (h : w.heap[g]? = some (.cells #[.int .i64 x0, .int .i64 x1, .int .i64 x2, .int .i64 x3, .int .i64 x4] t (0, 0))) :
    w.cell? ⟨g, 0, none⟩ = some (.int .i64 x0) ∧ w.cell? ⟨g, 1, none⟩ = some (.int .i64 x1) ∧ w.cell? ⟨g, 2, none⟩ = some (.int .i64 x2) ∧ w.cell? ⟨g, 3, none⟩ = some (.int .i64 x3) ∧ w.cell? ⟨g, 4, none⟩ = some (.int .i64 x4) := by
  refine ⟨?_, ?_, ?_, ?_, ?_⟩ <;> (rw [cell_of_row _ _ _ _ t (0, 0) h]; rfl)
theorem C_str {w : World} {A : Option Addr} {n c : Nat} {l : List Int} (hC : Kd.C (Kd.int .u8) w A n l) : (convert 24 9 (.slice A n c)).run Tryd.prog w = .ok (.string (strOfNums l)) w := by
  have e : l.length = n := hC.1
  subst e
  exact Kd.C_string (P := Tryd.prog) (A := A) (c := c) Tryd.underlying24 Tryd.underlying5 Tryd.underlying9 hC
theorem off_eq29 (d : Nat) (w : World) (x0 y0 : Int) (x1 y1 : Int) (x2 y2 : Int) (x3 y3 : Int) (x4 y4 : Int) :
    (Op.equalIn (d + 2) 29 (.agg #[.int .i64 x0, .int .i64 x1, .int .i64 x2, .int .i64 x3, .int .i64 x4]) (.agg #[.int .i64 y0, .int .i64 y1, .int .i64 y2, .int .i64 y3, .int .i64 y4])).run Tryd.prog w = .ok (x0 == y0 && (x1 == y1 && (x2 == y2 && (x3 == y3 && (x4 == y4))))) w := by
  refine eqA_of Tryd.underlying29 (by kernel_rfl) ?_
  refine eqf_cons (by rfl) (by go_simp; rfl) (by go_simp; rfl) (by go_simp) ?_
  refine eqf_cons (by rfl) (by go_simp; rfl) (by go_simp; rfl) (by go_simp) ?_
  refine eqf_cons (by rfl) (by go_simp; rfl) (by go_simp; rfl) (by go_simp) ?_
  refine eqf_cons (by rfl) (by go_simp; rfl) (by go_simp; rfl) (by go_simp) ?_
  exact eqf_last (by rfl) (by go_simp; rfl) (by go_simp; rfl) (by go_simp)
theorem off_eq23 (d : Nat) (w : World) (x0 y0 : Int) (x1 y1 : Int) (x2 y2 : Int) (x3 y3 : Int) (x4 y4 : Int) :
    (Op.equalIn (d + 2) 23 (.agg #[.int .i64 x0, .int .i64 x1, .int .i64 x2, .int .i64 x3, .int .i64 x4]) (.agg #[.int .i64 y0, .int .i64 y1, .int .i64 y2, .int .i64 y3, .int .i64 y4])).run Tryd.prog w = .ok (x0 == y0 && (x1 == y1 && (x2 == y2 && (x3 == y3 && (x4 == y4))))) w := by
  refine eqA_of Tryd.underlying23 (by kernel_rfl) ?_
  refine eqf_cons (by rfl) (by go_simp; rfl) (by go_simp; rfl) (by go_simp) ?_
  refine eqf_cons (by rfl) (by go_simp; rfl) (by go_simp; rfl) (by go_simp) ?_
  refine eqf_cons (by rfl) (by go_simp; rfl) (by go_simp; rfl) (by go_simp) ?_
  refine eqf_cons (by rfl) (by go_simp; rfl) (by go_simp; rfl) (by go_simp) ?_
  exact eqf_last (by rfl) (by go_simp; rfl) (by go_simp; rfl) (by go_simp)
def remoralaw32_HelloBytes.f (a0 a1 a2 a3 a4 : Int) (l1 : List Int) : Option Bool := some true
attribute [local go_sem high] off_eq29 in
set_option maxHeartbeats 4000000 in
theorem remoralaw32_HelloBytes.main (k : Nat) (a0 a1 a2 a3 a4 p0 p1 p2 p3 p4 e g : Int) (A : Option Addr) (c : Nat) (l X : List Int) (w : World) (hG : GT w) (hC : Kd.C (Kd.int .u8) w A l.length l) (hc : l.length ≤ c)
    (h1 : hello_Bytes.f k a0 a1 a2 a3 a4 = some (X, e)) (h2 : remoraref32_Bytes.f k a0 a1 a2 a3 a4 = some (X, e)) (h3 : hello_Read.f k l = some (p0, p1, p2, p3, p4, g)) (h4 : remoraref32_Read.f k l = some (p0, p1, p2, p3, p4, g)) :
    Calls Tryd.prog 3 #[.agg #[.int .i64 a0, .int .i64 a1, .int .i64 a2, .int .i64 a3, .int .i64 a4], .slice A l.length c] w fun r w' => r = .returned (.bool true) ∧ Below w.heap.size w w' := by
  have HB0 := Aside0.mk (below_alloc (Below.refl _ w) (.cells #[.int .i64 a0, .int .i64 a1, .int .i64 a2, .int .i64 a3, .int .i64 a4] 23))
  have U0 := Aside0.mk (fr_new w (.cells #[.int .i64 a0, .int .i64 a1, .int .i64 a2, .int .i64 a3, .int .i64 a4] 23))
  have HG := Aside0.mk (hG.alloc (.cells #[.int .i64 a0, .int .i64 a1, .int .i64 a2, .int .i64 a3, .int .i64 a4] 23))
  have HC := Aside0.mk (Kd.C_alloc hC (.cells #[.int .i64 a0, .int .i64 a1, .int .i64 a2, .int .i64 a3, .int .i64 a4] 23))
  have H1 := Aside0.mk h1
  have H2 := Aside0.mk h2
  have H3 := Aside0.mk h3
  have H4 := Aside0.mk h4
  have x0 := (off_five U0.out).1
  have x1 := (off_five U0.out).2.1
  have x2 := (off_five U0.out).2.2.1
  have x3 := (off_five U0.out).2.2.2.1
  have x4 := (off_five U0.out).2.2.2.2
  clear hG hC h1 h2 h3 h4
  go_enter Tryd.func3, Tryd.ntmps3
  go_wp2_with fail
  refine (hello_Bytes.calls k a0 a1 a2 a3 a4 X e _ HG.out H1.out).mono ?_
  rintro r w1 ⟨v, rfl, hR, hb⟩
  obtain ⟨B1, c1, rfl, hc1, hC1⟩ := R_sl hR
  have U1 := Aside0.mk ((hb.block w.heap.size (blk_lt U0.out)).trans U0.out)
  have HB1 := Aside0.mk (below_step HB0.out hb)
  have HC1 := Aside0.mk hC1
  have HG1 := Aside0.mk (HG.out.below hb)
  have HL1 := Aside0.mk (Kd.C_below HC.out hb)
  have y0 := (off_five U1.out).1
  have y1 := (off_five U1.out).2.1
  have y2 := (off_five U1.out).2.2.1
  have y3 := (off_five U1.out).2.2.2.1
  have y4 := (off_five U1.out).2.2.2.2
  clear x0 x1 x2 x3 x4 hb hR hC1 U0 HB0 HG HC
  go_wp2_with fail
  refine (remoraref32_Bytes.calls k a0 a1 a2 a3 a4 X e _ H2.out).mono ?_
  rintro r w2 ⟨v, rfl, hR, hb⟩
  obtain ⟨B2, c2, rfl, hc2, hC2⟩ := R_sl hR
  have HB2 := Aside0.mk (below_step HB1.out hb)
  have HC12 := Aside0.mk (Kd.C_below HC1.out hb)
  have HC2 := Aside0.mk hC2
  have HG2 := Aside0.mk (HG1.out.below hb)
  have HL2 := Aside0.mk (Kd.C_below HL1.out hb)
  clear y0 y1 y2 y3 y4 hb hR hC2 U1 HB1 HC1 HG1 HL1
  go_wp2_with fail
  refine (hello_Read.calls k A c l p0 p1 p2 p3 p4 g _ HG2.out HL2.out hc H3.out).mono ?_
  rintro r w3 ⟨rfl, hb⟩
  have hba := below_alloc hb (.cells #[.int .i64 p0, .int .i64 p1, .int .i64 p2, .int .i64 p3, .int .i64 p4] 23)
  have U3 := Aside0.mk (fr_new w3 (.cells #[.int .i64 p0, .int .i64 p1, .int .i64 p2, .int .i64 p3, .int .i64 p4] 23))
  have HB3 := Aside0.mk (below_step HB2.out hba)
  have HC13 := Aside0.mk (Kd.C_below HC12.out hba)
  have HC23 := Aside0.mk (Kd.C_below HC2.out hba)
  have HL3 := Aside0.mk (Kd.C_below HL2.out hba)
  clear hb hba HB2 HC12 HC2 HG2 HL2
  go_wp2_with fail
  refine (remoraref32_Read.calls k A c l p0 p1 p2 p3 p4 g _ HL3.out hc H4.out).mono ?_
  rintro r w4 ⟨rfl, hb⟩
  have hba := below_alloc hb (.cells #[.int .i64 p0, .int .i64 p1, .int .i64 p2, .int .i64 p3, .int .i64 p4] 29)
  have V3 := Aside0.mk ((hba.block w3.heap.size (blk_lt U3.out)).trans U3.out)
  have V4 := Aside0.mk (fr_new w4 (.cells #[.int .i64 p0, .int .i64 p1, .int .i64 p2, .int .i64 p3, .int .i64 p4] 29))
  have HB4 := Aside0.mk (below_step HB3.out hba)
  have cv1 := C_str (c := c1) (Kd.C_below HC13.out hba)
  have cv2 := C_str (c := c2) (Kd.C_below HC23.out hba)
  have x0 := (off_five V3.out).1
  have x1 := (off_five V3.out).2.1
  have x2 := (off_five V3.out).2.2.1
  have x3 := (off_five V3.out).2.2.2.1
  have x4 := (off_five V3.out).2.2.2.2
  have y0 := (off_five V4.out).1
  have y1 := (off_five V4.out).2.1
  have y2 := (off_five V4.out).2.2.1
  have y3 := (off_five V4.out).2.2.2.1
  have y4 := (off_five V4.out).2.2.2.2
  clear hb hba HB3 HC13 HC23 HL3 U3
  go_wp2_with fail
  refine (remoralaw32_awake.calls true _ helloAwake).mono ?_
  rintro r w5 ⟨rfl, hb⟩
  have HB5 := Aside0.mk (below_step HB4.out hb)
  clear hb
  go_wp2
  go_ret
  exact ⟨rfl, HB5.out⟩
def remoralaw32_HelloBytes.Pure : Prop := ∀ (a0 a1 a2 a3 a4 : Int) (l : List Int), l.length ≤ 140737488351232 → (∀ x ∈ l, (Lit.int .u8 x).wf = true) → ∃ (k : Nat) (X : List Int) (e p0 p1 p2 p3 p4 g : Int), hello_Bytes.f k a0 a1 a2 a3 a4 = some (X, e) ∧ remoraref32_Bytes.f k a0 a1 a2 a3 a4 = some (X, e) ∧ hello_Read.f k l = some (p0, p1, p2, p3, p4, g) ∧ remoraref32_Read.f k l = some (p0, p1, p2, p3, p4, g)
theorem remoralaw32_HelloBytes.walk (P : remoralaw32_HelloBytes.Pure) (a0_0 : Int) (a0_1 : Int) (a0_2 : Int) (a0_3 : Int) (a0_4 : Int) (a1 : Option Addr) (len1 cap1 : Nat) (z1 : List Int) (w : World) (hG : GT w) (w0_0 : (Lit.int .i64 a0_0).wf = true) (w0_1 : (Lit.int .i64 a0_1).wf = true) (w0_2 : (Lit.int .i64 a0_2).wf = true) (w0_3 : (Lit.int .i64 a0_3).wf = true) (w0_4 : (Lit.int .i64 a0_4).wf = true) (w1 : (a1 = none ∧ len1 = 0 ∧ cap1 = 0 ∧ z1 = []) ∨ ∃ x, a1 = some x ∧ len1 ≤ cap1 ∧ cap1 ≤ maxLen ∧ z1.length = cap1 ∧ (∀ i, i < z1.length → w.cell? (x.add i) = some (.int .u8 (z1.getD i 0))) ∧ ∀ n ∈ z1, (Lit.int .u8 n).wf = true) (y1 : len1 * 1 ≤ 140737488351232) :
    Calls Tryd.prog 3 #[.agg #[.int .i64 a0_0, .int .i64 a0_1, .int .i64 a0_2, .int .i64 a0_3, .int .i64 a0_4], .slice a1 len1 cap1] w fun e w' => e = .returned (.bool true) ∧ Below w.heap.size w w' := by
  obtain ⟨l1, rfl, hr1, hm1, hw1, hc1⟩ := ReadsInt.ofRowC w1
  obtain ⟨k, X, e, p0, p1, p2, p3, p4, g, h1, h2, h3, h4⟩ := P a0_0 a0_1 a0_2 a0_3 a0_4 l1 (by omega) hw1
  exact remoralaw32_HelloBytes.main k _ _ _ _ _ p0 p1 p2 p3 p4 e g a1 cap1 l1 X w hG (Kd.C_of_reads (d := (0 : Int)) (h1 := fun _ => rfl) hr1) hc1 h1 h2 h3 h4


/-! ### remoralaw32_HelloBack: function 4, a contract of my own -/
theorem readN_at (k : Nat) (A0 : Option Addr) (n c0 : Nat) (l0 : List Int) (r1 r2 r3 r4 r5 r6 : Int) (w : World) (hG : GT w) (hn : l0.length = n) (hr0 : Kd.C (Kd.int .u8) w A0 l0.length l0) (hc0 : n ≤ c0) (h : hello_Read.f k l0 = some (r1, r2, r3, r4, r5, r6)) :
    Calls Tryd.prog 7 #[.slice A0 n c0] w fun e w' => e = .returned (.tuple #[.agg #[.int .i64 r1, .int .i64 r2, .int .i64 r3, .int .i64 r4, .int .i64 r5], .int .i64 r6]) ∧ Below w.heap.size w w' := by
  subst hn
  exact hello_Read.calls k A0 c0 l0 r1 r2 r3 r4 r5 r6 w hG hr0 hc0 h
theorem C_bel {w w1 : World} {A : Option Addr} {n : Nat} {l : List Int} (h : Kd.C (Kd.int .u8) w A n l) (hb : Below w.heap.size w w1) : Kd.C (Kd.int .u8) w1 A n l := Kd.C_below h hb
def remoralaw32_HelloBack.f (a0 a1 a2 a3 a4 : Int) (l1 : List Int) (t : Int) : Option Bool := some true
/-- The second half: what is read of any bytes. -/
def backEnd (k : Nat) (l : List Int) : Prop := ∃ p0 p1 p2 p3 p4 f : Int, hello_Read.f k l = some (p0, p1, p2, p3, p4, f) ∧ ((f ≠ 0 ∧ p0 = 0 ∧ p1 = 0 ∧ p2 = 0 ∧ p3 = 0 ∧ p4 = 0) ∨ (f = 0 ∧ hello_Bytes.f k p0 p1 p2 p3 p4 = some (l, 0)))
attribute [local go_sem high] off_eq23 in
set_option maxHeartbeats 8000000 in
theorem remoralaw32_HelloBack.main (k : Nat) (a0 a1 a2 a3 a4 t s : Int) (A : Option Addr) (c : Nat) (l X : List Int) (w : World) (hG : GT w) (hC : Kd.C (Kd.int .u8) w A l.length l) (hc : l.length ≤ c) (ht0 : 0 ≤ t) (ht1 : t ≤ 255)
    (h1 : hello_Bytes.f k a0 a1 a2 a3 a4 = some (X, s)) (h2 : hello_Check.f a0 a1 a2 a3 a4 = some s)
    (h3 : s ≠ 0 ∨ (s = 0 ∧ (5 ≤ X.length ∧ X.length ≤ 1000) ∧ hello_Read.f k X = some (a0, a1, a2, a3, a4, 0) ∧ ∃ O, crc_Open.f X = some (O, 0) ∧ 6 ≤ O.length ∧ rd O 0 = 82 ∧ ∃ q0 q1 q2 q3 q4 : Int, hello_Read.f k (X.set (X.length - 1) (Go.bits .xor .u8 (X.getD (X.length - 1) 0) (1 + t % 255))) = some (q0, q1, q2, q3, q4, 6)))
    (hE : backEnd k l) :
    Calls Tryd.prog 4 #[.agg #[.int .i64 a0, .int .i64 a1, .int .i64 a2, .int .i64 a3, .int .i64 a4], .slice A l.length c, .int .u8 t] w fun r w' => r = .returned (.bool true) ∧ Below w.heap.size w w' := by
  have HB0 := Aside0.mk (below_alloc (Below.refl _ w) (.cells #[.int .i64 a0, .int .i64 a1, .int .i64 a2, .int .i64 a3, .int .i64 a4] 23))
  have U0 := Aside0.mk (fr_new w (.cells #[.int .i64 a0, .int .i64 a1, .int .i64 a2, .int .i64 a3, .int .i64 a4] 23))
  have HG := Aside0.mk (hG.alloc (.cells #[.int .i64 a0, .int .i64 a1, .int .i64 a2, .int .i64 a3, .int .i64 a4] 23))
  have HC := Aside0.mk (Kd.C_alloc hC (.cells #[.int .i64 a0, .int .i64 a1, .int .i64 a2, .int .i64 a3, .int .i64 a4] 23))
  have HLW := Aside0.mk hC
  have H1 := Aside0.mk h1
  have H2 := Aside0.mk h2
  have H3 := Aside0.mk h3
  have HE := Aside0.mk hE
  have x0 := (off_five U0.out).1
  have x1 := (off_five U0.out).2.1
  have x2 := (off_five U0.out).2.2.1
  have x3 := (off_five U0.out).2.2.2.1
  have x4 := (off_five U0.out).2.2.2.2
  clear hG hC h1 h2 h3 hE
  go_enter Tryd.func4, Tryd.ntmps4
  go_wp2_with fail
  refine (hello_Bytes.calls k a0 a1 a2 a3 a4 X s _ HG.out H1.out).mono ?_
  rintro r w1 ⟨v, rfl, hR, hb⟩
  have HR1 := Aside0.mk hR
  obtain ⟨B1, c1, rfl, hc1, hC1⟩ := R_sl hR
  have U1 := Aside0.mk ((hb.block w.heap.size (blk_lt U0.out)).trans U0.out)
  have HB1 := Aside0.mk (below_step HB0.out hb)
  have HC1 := Aside0.mk hC1
  have HG1 := Aside0.mk (HG.out.below hb)
  have HL1 := Aside0.mk (Kd.C_below HC.out hb)
  have y0 := (off_five U1.out).1
  have y1 := (off_five U1.out).2.1
  have y2 := (off_five U1.out).2.2.1
  have y3 := (off_five U1.out).2.2.2.1
  have y4 := (off_five U1.out).2.2.2.2
  clear x0 x1 x2 x3 x4 hb hR hC1 U0 HB0 HG HC
  go_wp2_with fail
  refine (hello_Check.calls a0 a1 a2 a3 a4 s _ H2.out).mono ?_
  rintro r w2 ⟨rfl, hb⟩
  have HB2 := Aside0.mk (below_step HB1.out hb)
  have U2 := Aside0.mk ((hb.block w.heap.size (blk_lt U1.out)).trans U1.out)
  have HC2 := Aside0.mk (Kd.C_below HC1.out hb)
  have HR2 := Aside0.mk (Kd.R_below HR1.out hb)
  have HG2 := Aside0.mk (HG1.out.below hb)
  have HL2 := Aside0.mk (Kd.C_below HL1.out hb)
  have hss : (s != s) = false := by simp
  clear y0 y1 y2 y3 y4 hb U1 HB1 HC1 HR1 HG1 HL1
  -- what is left once the offer's half is done
  by_cases hs0 : s = 0
  rotate_left
  · have s1 : (s == 0) = false := by simpa using hs0
    have s2 : (s != 0) = true := by simpa using hs0
    clear hs0 H3
    go_wp2_with fail
    obtain ⟨p0, p1, p2, p3, p4, f, hRd, hcase⟩ := HE.out
    have HRD := Aside0.mk hRd
    clear hRd HE
    refine (hello_Read.calls k A c l p0 p1 p2 p3 p4 f _ HG2.out HL2.out hc HRD.out).mono ?_
    rintro r w10 ⟨rfl, hb⟩
    have hba := below_alloc hb (.cells #[.int .i64 p0, .int .i64 p1, .int .i64 p2, .int .i64 p3, .int .i64 p4] 23)
    have U10 := Aside0.mk (fr_new w10 (.cells #[.int .i64 p0, .int .i64 p1, .int .i64 p2, .int .i64 p3, .int .i64 p4] 23))
    have HB10 := Aside0.mk (below_step HB2.out hba)
    have HG10 := Aside0.mk (HG2.out.below hba)
    have HL10 := Aside0.mk (Kd.C_below HL2.out hba)
    clear hb hba
    rcases hcase with ⟨hf, rfl, rfl, rfl, rfl, rfl⟩ | ⟨rfl, hBy⟩
    · have f1 : (f != 0) = true := by simpa using hf
      have f2 : (f == 0) = false := by simpa using hf
      have x0 := (off_five U10.out).1
      have x1 := (off_five U10.out).2.1
      have x2 := (off_five U10.out).2.2.1
      have x3 := (off_five U10.out).2.2.2.1
      have x4 := (off_five U10.out).2.2.2.2
      clear hf
      go_wp2_with fail
      refine (remoralaw32_awake.calls true _ helloAwake).mono ?_
      rintro r w11 ⟨rfl, hb⟩
      have HB11 := Aside0.mk (below_step HB10.out hb)
      clear hb
      go_wp2
      go_ret
      exact ⟨rfl, HB11.out⟩
    · have HBY := Aside0.mk hBy
      have x0 := (off_five U10.out).1
      have x1 := (off_five U10.out).2.1
      have x2 := (off_five U10.out).2.2.1
      have x3 := (off_five U10.out).2.2.2.1
      have x4 := (off_five U10.out).2.2.2.2
      clear hBy
      go_wp2_with fail
      refine (hello_Bytes.calls k p0 p1 p2 p3 p4 l 0 _ HG10.out HBY.out).mono ?_
      rintro r w11 ⟨v, rfl, hR, hb⟩
      obtain ⟨B11, c11, rfl, hc11, hC11⟩ := R_sl hR
      have HB11 := Aside0.mk (below_step HB10.out hb)
      have cv1 := C_str (c := c11) hC11
      have cv2 := C_str (c := c) (Kd.C_below HL10.out hb)
      clear hb hR hC11 x0 x1 x2 x3 x4
      go_wp2_with fail
      refine (remoralaw32_awake.calls true _ helloAwake).mono ?_
      rintro r w12 ⟨rfl, hb⟩
      have HB12 := Aside0.mk (below_step HB11.out hb)
      clear hb
      go_wp2
      go_ret
      exact ⟨rfl, HB12.out⟩
  · rcases H3.out with h | ⟨_, hX, hRd, O, hO, hO6, hO82, q0, q1, q2, q3, q4, hQ⟩
    · exact absurd hs0 h
    subst hs0
    have HX := Aside0.mk hX
    have HRD := Aside0.mk hRd
    have HO := Aside0.mk hO
    have HQ := Aside0.mk hQ
    have HO6 := Aside0.mk hO6
    have HO82 := Aside0.mk hO82
    clear hX hRd hO hQ H3 hO6 hO82
    go_wp2_with fail
    refine (hello_Read.calls k B1 c1 X a0 a1 a2 a3 a4 0 _ HG2.out HC2.out hc1 HRD.out).mono ?_
    rintro r w3 ⟨rfl, hb⟩
    have hba := below_alloc hb (.cells #[.int .i64 a0, .int .i64 a1, .int .i64 a2, .int .i64 a3, .int .i64 a4] 23)
    have U3 := Aside0.mk (fr_new w3 (.cells #[.int .i64 a0, .int .i64 a1, .int .i64 a2, .int .i64 a3, .int .i64 a4] 23))
    have T3 := Aside0.mk ((hba.block w.heap.size (blk_lt U2.out)).trans U2.out)
    have HB3 := Aside0.mk (below_step HB2.out hba)
    have HC3 := Aside0.mk (Kd.C_below HC2.out hba)
    have HR3 := Aside0.mk (Kd.R_below HR2.out hba)
    have HG3 := Aside0.mk (HG2.out.below hba)
    have HL3 := Aside0.mk (Kd.C_below HL2.out hba)
    clear hb hba HB2 HC2 HR2 HG2 HL2 U2
    go_wp2_with fail
    refine (crc_Open.calls B1 c1 X O 0 _ HG3.out HC3.out hc1 HO.out).mono ?_
    rintro r w4 ⟨v, rfl, hR, hb⟩
    obtain ⟨B4, c4, rfl, hc4, hC4⟩ := R_sl hR
    have T4 := Aside0.mk ((hb.block w.heap.size (blk_lt T3.out)).trans T3.out)
    have U4 := Aside0.mk ((hb.block w3.heap.size (blk_lt U3.out)).trans U3.out)
    have HB4 := Aside0.mk (below_step HB3.out hb)
    have HR4 := Aside0.mk (Kd.R_below HR3.out hb)
    have HG4 := Aside0.mk (HG3.out.below hb)
    have HL4 := Aside0.mk (Kd.C_below HL3.out hb)
    have x0 := (off_five T4.out).1
    have x1 := (off_five T4.out).2.1
    have x2 := (off_five T4.out).2.2.1
    have x3 := (off_five T4.out).2.2.2.1
    have x4 := (off_five T4.out).2.2.2.2
    have y0 := (off_five U4.out).1
    have y1 := (off_five U4.out).2.1
    have y2 := (off_five U4.out).2.2.1
    have y3 := (off_five U4.out).2.2.2.1
    have y4 := (off_five U4.out).2.2.2.2
    obtain ⟨od, rfl, hod⟩ := off_read hC4 (by have := HO6.out; omega)
    rw [HO82.out] at hod
    have o1 : decide ((O.length : Int) < 6) = false := decide_eq_false (by have := HO6.out; omega)
    have o2 : decide (O.length < 6) = false := decide_eq_false (by have := HO6.out; omega)
    have o3 : (0 < O.length) = True := eq_true (by have := HO6.out; omega)
    have o4 : ((0 : Int) < (O.length : Int)) = True := eq_true (by have := HO6.out; omega)
    obtain ⟨g5, c5, he5, hg51, hg52, _⟩ := Kd.R_form HR4.out (by have := HX.out; omega)
    injection he5 with e1 e2 e3
    subst e1 e3
    clear e2
    obtain ⟨n, hn⟩ : ∃ n, X.length = n := ⟨_, rfl⟩
    have HN := Aside0.mk hn
    have HR5 := HR4
    rw [hn] at HR5 hc1
    rw [hn]
    have hX1 := HX.out.1
    have hX2 := HX.out.2
    rw [hn] at hX1 hX2
    obtain ⟨j, hj, hjn⟩ : ∃ j : Nat, ((n : Int) - 1 = (j : Int)) ∧ j < n := ⟨n - 1, by omega, by omega⟩
    have hw1 : wrap64 ((n : Int) - 1) = (j : Int) := by rw [hj]; unfold wrap64; omega
    obtain ⟨hx, hf5⟩ := Kd.R_celln (0 : Int) HR5.out (j : Int) (by omega) (by omega)
    rw [Int.toNat_natCast] at hx hf5
    obtain ⟨la, hla⟩ : ∃ la : Int, rdOf 0 X (j : Int) = la := ⟨_, rfl⟩
    rw [hla] at hx
    have HLA := Aside0.mk hla
    have HJ := Aside0.mk hj
    have hji : (j : Int) < (n : Int) := by omega
    clear hb hR hC4 HB3 HC3 HR3 HG3 HL3 T3 U3 HR4 hla hj hn hX1 hX2
    go_wp2_with fail
    have hRb := Kd.R_putn HR5.out (j : Int) (Go.bits .xor .u8 la (1 + t % 255))
    rw [Int.toNat_natCast] at hRb
    have hbadE : X.set j (Go.bits .xor .u8 la (1 + t % 255)) = X.set (X.length - 1) (Go.bits .xor .u8 (X.getD (X.length - 1) 0) (1 + t % 255)) := by
      have e1 : X.length - 1 = j := by have h1 := HN.out; have h2 := HJ.out; omega
      rw [e1, ← HLA.out]
      unfold rdOf
      rw [Int.toNat_natCast]
    rw [hbadE] at hRb
    have hCb : Kd.C (Kd.int .u8) (w4.setCell ⟨g5, j, none⟩ (.int .u8 (Go.bits .xor .u8 la (1 + t % 255)))) (some ⟨g5, 0, none⟩) (X.set (X.length - 1) (Go.bits .xor .u8 (X.getD (X.length - 1) 0) (1 + t % 255))).length (X.set (X.length - 1) (Go.bits .xor .u8 (X.getD (X.length - 1) 0) (1 + t % 255))) := by
      obtain ⟨e, _, h3⟩ := Kd.R_reads' hRb
      exact h3
    have hbl : (X.set (X.length - 1) (Go.bits .xor .u8 (X.getD (X.length - 1) 0) (1 + t % 255))).length = n := by rw [List.length_set]; exact HN.out
    have hg5 : w.heap.size + 1 ≤ g5 := by have h1 := fr_size w (.cells #[.int .i64 a0, .int .i64 a1, .int .i64 a2, .int .i64 a3, .int .i64 a4] 23); rw [← h1]; exact hg51
    have HK5 := Aside0.mk (show Below (w.heap.size + 1) w4 (w4.setCell ⟨g5, j, none⟩ (.int .u8 (Go.bits .xor .u8 la (1 + t % 255)))) from (Below.refl _ _).setCell (p := ⟨g5, j, none⟩) hg5 _)
    have HB5 := Aside0.mk (HB4.out.trans (HK5.out.mono (Nat.le_succ _)))
    have HG5 := Aside0.mk (show GT (w4.setCell ⟨g5, j, none⟩ (.int .u8 (Go.bits .xor .u8 la (1 + t % 255)))) from fun i hi => (HK5.out.cell (p := ⟨0, i, none⟩) (Nat.succ_pos _)).trans (HG4.out i hi))
    have HL5 := Aside0.mk (C_bel HLW.out (HB5.out))
    have HBL := Aside0.mk hbl
    have HCB := Aside0.mk hCb
    clear hRb hCb hbl hx hf5 hji hw1 hbadE HR5 HG4 HL4 HB4 HK5 T4 U4 hod x0 x1 x2 x3 x4 y0 y1 y2 y3 y4
    generalize w4.setCell ⟨g5, j, none⟩ (.int .u8 (Go.bits .xor .u8 la (1 + t % 255))) = w5 at HB5 HG5 HL5 HCB ⊢
    generalize X.set (X.length - 1) (Go.bits .xor .u8 (X.getD (X.length - 1) 0) (1 + t % 255)) = Z at HBL HCB HQ
    refine (readN_at k (some ⟨g5, 0, none⟩) n c1 Z q0 q1 q2 q3 q4 6 _ HG5.out HBL.out HCB.out hc1 HQ.out).mono ?_
    rintro r w6 ⟨rfl, hb⟩
    have hba := below_alloc hb (.cells #[.int .i64 q0, .int .i64 q1, .int .i64 q2, .int .i64 q3, .int .i64 q4] 23)
    have HB6 := Aside0.mk (below_step HB5.out hba)
    have HG6 := Aside0.mk (HG5.out.below hba)
    have HL6 := Aside0.mk (Kd.C_below HL5.out hba)
    clear hb hba HB5 HG5 HL5 HCB
    go_wp2_with fail
    obtain ⟨p0, p1, p2, p3, p4, f, hRd, hcase⟩ := HE.out
    have HRD := Aside0.mk hRd
    clear hRd HE
    refine (hello_Read.calls k A c l p0 p1 p2 p3 p4 f _ HG6.out HL6.out hc HRD.out).mono ?_
    rintro r w10 ⟨rfl, hb⟩
    have hba := below_alloc hb (.cells #[.int .i64 p0, .int .i64 p1, .int .i64 p2, .int .i64 p3, .int .i64 p4] 23)
    have U10 := Aside0.mk (fr_new w10 (.cells #[.int .i64 p0, .int .i64 p1, .int .i64 p2, .int .i64 p3, .int .i64 p4] 23))
    have HB10 := Aside0.mk (below_step HB6.out hba)
    have HG10 := Aside0.mk (HG6.out.below hba)
    have HL10 := Aside0.mk (Kd.C_below HL6.out hba)
    clear hb hba
    rcases hcase with ⟨hf, rfl, rfl, rfl, rfl, rfl⟩ | ⟨rfl, hBy⟩
    · have f1 : (f != 0) = true := by simpa using hf
      have f2 : (f == 0) = false := by simpa using hf
      have x0 := (off_five U10.out).1
      have x1 := (off_five U10.out).2.1
      have x2 := (off_five U10.out).2.2.1
      have x3 := (off_five U10.out).2.2.2.1
      have x4 := (off_five U10.out).2.2.2.2
      clear hf
      go_wp2_with fail
      refine (remoralaw32_awake.calls true _ helloAwake).mono ?_
      rintro r w11 ⟨rfl, hb⟩
      have HB11 := Aside0.mk (below_step HB10.out hb)
      clear hb
      go_wp2
      go_ret
      exact ⟨rfl, HB11.out⟩
    · have HBY := Aside0.mk hBy
      have x0 := (off_five U10.out).1
      have x1 := (off_five U10.out).2.1
      have x2 := (off_five U10.out).2.2.1
      have x3 := (off_five U10.out).2.2.2.1
      have x4 := (off_five U10.out).2.2.2.2
      clear hBy
      go_wp2_with fail
      refine (hello_Bytes.calls k p0 p1 p2 p3 p4 l 0 _ HG10.out HBY.out).mono ?_
      rintro r w11 ⟨v, rfl, hR, hb⟩
      obtain ⟨B11, c11, rfl, hc11, hC11⟩ := R_sl hR
      have HB11 := Aside0.mk (below_step HB10.out hb)
      have cv1 := C_str (c := c11) hC11
      have cv2 := C_str (c := c) (Kd.C_below HL10.out hb)
      clear hb hR hC11 x0 x1 x2 x3 x4
      go_wp2_with fail
      refine (remoralaw32_awake.calls true _ helloAwake).mono ?_
      rintro r w12 ⟨rfl, hb⟩
      have HB12 := Aside0.mk (below_step HB11.out hb)
      clear hb
      go_wp2
      go_ret
      exact ⟨rfl, HB12.out⟩
def remoralaw32_HelloBack.Pure : Prop := ∀ (a0 a1 a2 a3 a4 t : Int) (l : List Int), 0 ≤ t → t ≤ 255 → l.length ≤ 140737488351232 → (∀ x ∈ l, (Lit.int .u8 x).wf = true) →
  ∃ (k : Nat) (X : List Int) (s : Int), hello_Bytes.f k a0 a1 a2 a3 a4 = some (X, s) ∧ hello_Check.f a0 a1 a2 a3 a4 = some s ∧
    (s ≠ 0 ∨ (s = 0 ∧ (5 ≤ X.length ∧ X.length ≤ 1000) ∧ hello_Read.f k X = some (a0, a1, a2, a3, a4, 0) ∧ ∃ O, crc_Open.f X = some (O, 0) ∧ 6 ≤ O.length ∧ rd O 0 = 82 ∧ ∃ q0 q1 q2 q3 q4 : Int, hello_Read.f k (X.set (X.length - 1) (Go.bits .xor .u8 (X.getD (X.length - 1) 0) (1 + t % 255))) = some (q0, q1, q2, q3, q4, 6))) ∧ backEnd k l
theorem remoralaw32_HelloBack.walk (P : remoralaw32_HelloBack.Pure) (a0_0 : Int) (a0_1 : Int) (a0_2 : Int) (a0_3 : Int) (a0_4 : Int) (a1 : Option Addr) (len1 cap1 : Nat) (z1 : List Int) (a2 : Int) (w : World) (hG : GT w) (w0_0 : (Lit.int .i64 a0_0).wf = true) (w0_1 : (Lit.int .i64 a0_1).wf = true) (w0_2 : (Lit.int .i64 a0_2).wf = true) (w0_3 : (Lit.int .i64 a0_3).wf = true) (w0_4 : (Lit.int .i64 a0_4).wf = true) (w1 : (a1 = none ∧ len1 = 0 ∧ cap1 = 0 ∧ z1 = []) ∨ ∃ x, a1 = some x ∧ len1 ≤ cap1 ∧ cap1 ≤ maxLen ∧ z1.length = cap1 ∧ (∀ i, i < z1.length → w.cell? (x.add i) = some (.int .u8 (z1.getD i 0))) ∧ ∀ n ∈ z1, (Lit.int .u8 n).wf = true) (y1 : len1 * 1 ≤ 140737488351232) (w2 : (Lit.int .u8 a2).wf = true) :
    Calls Tryd.prog 4 #[.agg #[.int .i64 a0_0, .int .i64 a0_1, .int .i64 a0_2, .int .i64 a0_3, .int .i64 a0_4], .slice a1 len1 cap1, .int .u8 a2] w fun e w' => e = .returned (.bool true) ∧ Below w.heap.size w w' := by
  obtain ⟨l1, rfl, hr1, hm1, hw1, hc1⟩ := ReadsInt.ofRowC w1
  have ht : 0 ≤ a2 ∧ a2 ≤ 255 := by simp [Lit.wf, IntKind.min, IntKind.max, IntKind.signed, IntKind.bits] at w2; omega
  obtain ⟨k, X, s, h1, h2, h3, h4⟩ := P a0_0 a0_1 a0_2 a0_3 a0_4 a2 l1 ht.1 ht.2 (by omega) hw1
  exact remoralaw32_HelloBack.main k _ _ _ _ _ a2 s a1 cap1 l1 X w hG (Kd.C_of_reads (d := (0 : Int)) (h1 := fun _ => rfl) hr1) hc1 ht.1 ht.2 h1 h2 h3 h4


end Go.Proofs.YtgjmcjpgajlgoaaDoor.P
