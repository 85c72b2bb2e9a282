/- frame.Get, whose deferred function recovers: what it computes. -/
import Derived.Test.YthehhbfiaaadgaaDoorPx1
import Derived.Test.YthehhbfiaaadgaaDoorPx2
import Derived.Test.YthehhbfiaaadgaaDoorGT
import Derived.Defers
import Derived.Recover
import Derived.Laws.Pointers
import Derived.Deep.RegionHeld3
import Derived.Test.YthehhbfiaaadgaaDoorPx0
namespace Go.Proofs.YthehhbfiaaadgaaDoor.P
open Go.RowKit Go.Proofs.YthehhbfiaaadgaaDoorW.PrintWords Go.Proofs.YthehhbfiaaadgaaDoorW.PrintLast Go.Proofs.YthehhbfiaaadgaaDoorW.PrintMore
attribute [local go_sem] max2_int min2_int max_two min_two max_three min_three max_four min_four
set_option linter.unusedVariables false
set_option linter.unusedSimpArgs false
theorem frame_need.yes (e : Int) (w : World) : Calls Tryd.prog 55 #[.bool true, .int .i64 e] w fun r w' => r = .returned (.tuple #[]) ∧ w' = w := by
  go_enter Tryd.func55, Tryd.ntmps55
  go_wp2
  refine bodyPost_end (results_none rfl _ _ _) rfl ?_
  exact ⟨rfl, rfl⟩
theorem frame_need.no (e : Int) (w : World) : Calls Tryd.prog 55 #[.bool false, .int .i64 e] w fun r w' => r = .panicked [{ v := .iface 42 (.int .i64 e), recovered := false }] ∧ w' = w := by
  have hp : (Instr.panic (.iface 42 (.int .i64 e))).run Tryd.prog w = .halt (.panic (.iface 42 (.int .i64 e))) w := by rfl
  go_enter Tryd.func55, Tryd.ntmps55
  go_wp2
  exact ⟨rfl, rfl, rfl⟩
theorem frame_catch.idle (p4 p5 p6 : Nat) (w : World) :
    CallsD Tryd.prog 54 #[.pointer (some ⟨p4, 0, none⟩), .pointer (some ⟨p5, 0, none⟩), .pointer (some ⟨p6, 0, none⟩)] .returning w fun e u' w' => e = .returned (.tuple #[]) ∧ u' = .returning ∧ w' = w := by
  refine callsD_of_wpS Tryd.func54 rfl fun c₀ cs hu => ?_
  apply wpS_seq
  apply wpS_region
  simp [wpOpsS, go_sem, recoverD, hu, Tryd.ntmps54, Exit.thenS]
  apply wpS_seq
  apply wpS_region
  simp [wpOpsS, go_sem, Exit.thenS, Array.replicate]
  refine wpS_cond (t := false) (by simp [Act.eval, Array.replicate]) ?_
  simp only [Bool.false_eq_true, if_false]
  refine wpS_of_wp (wp_skip ?_)
  cases c₀
  simp_all [bodyPostS, results, Tryd.results54]
set_option maxRecDepth 100000 in
theorem frame_catch.panicking (b0 p4 p5 p6 : Nat) (k : Int) (s : Value) (x5 x6 e : Int) (older : List PanicEntry) (w0 w : World) (hb : Below b0 w0 w) (b4 : b0 ≤ p4) (b5 : b0 ≤ p5) (b6 : b0 ≤ p6) (n45 : p4 ≠ p5) (n46 : p4 ≠ p6) (n56 : p5 ≠ p6) (hs : ∃ A m c, s = .slice A m c)
    (h4 : w.heap[p4]? = some (.cells #[.int .i64 k, s] 72 (0, 0))) (h5 : w.heap[p5]? = some (.cells #[.int .i64 x5] 3 (0, 0))) (h6 : w.heap[p6]? = some (.cells #[.int .i64 x6] 42 (0, 0))) :
    CallsD Tryd.prog 54 #[.pointer (some ⟨p4, 0, none⟩), .pointer (some ⟨p5, 0, none⟩), .pointer (some ⟨p6, 0, none⟩)] (.panicking ({ v := .iface 42 (.int .i64 e), recovered := false } :: older)) w fun r u' w' =>
      r = .returned (.tuple #[]) ∧ u' = .panicking ({ v := .iface 42 (.int .i64 e), recovered := true } :: older) ∧ Below b0 w0 w' ∧ w'.heap[p4]? = some (.cells #[.int .i64 0, .slice none 0 0] 72 (0, 0)) ∧ w'.heap[p5]? = some (.cells #[.int .i64 0] 3 (0, 0)) ∧ w'.heap[p6]? = some (.cells #[.int .i64 e] 42 (0, 0)) := by
  obtain ⟨A, m, c, rfl⟩ := hs
  have hta : ∀ w : World, (Instr.typeAssert (.iface 42 (.int .i64 e)) 20 42 false).run Tryd.prog w = .ok (.int .i64 e) w := fun _ => rfl
  have q40 : w.cell? ⟨p4, 0, none⟩ = some (.int .i64 k) := by rw [cell_of_row w p4 _ _ 72 (0, 0) h4]; rfl
  have q41 : w.cell? ⟨p4, 1, none⟩ = some (.slice A m c) := by rw [cell_of_row w p4 _ _ 72 (0, 0) h4]; rfl
  have q5 : w.cell? ⟨p5, 0, none⟩ = some (.int .i64 x5) := by rw [cell_of_row w p5 _ _ 3 (0, 0) h5]; rfl
  have q6 : w.cell? ⟨p6, 0, none⟩ = some (.int .i64 x6) := by rw [cell_of_row w p6 _ _ 42 (0, 0) h6]; rfl
  have f40 := blk_frozen h4 0
  have f41 := blk_frozen h4 1
  have f5 := blk_frozen h5 0
  have f6 := blk_frozen h6 0
  have H4 := Aside0.mk h4
  have H5 := Aside0.mk h5
  have H6 := Aside0.mk h6
  have HB := Aside0.mk hb
  clear h4 h5 h6 hb
  refine callsD_of_wpS Tryd.func54 rfl fun c₀ cs hu => ?_
  apply wpS_seq
  apply wpS_region
  simp [wpOpsS, go_sem, recoverD, hu, Tryd.ntmps54, Exit.thenS]
  apply wpS_seq
  apply wpS_region
  simp [wpOpsS, go_sem, Exit.thenS, Array.replicate]
  refine wpS_cond (t := true) (by simp [Act.eval, Array.replicate]) ?_
  simp only [if_true]
  refine wpS_of_wp ?_
  refine start_ (n := 6) (S := fun w' => True) (ds := []) #[false, false, false, false, false, false] (by kernel_rfl) rfl rfl trivial (fun hHeld => ?_)
  refine pure_ (i := 0) (N := some 7) (v := ?_) (a' := ?_) #[true, false, false, false, false, false] rfl rfl (by kernel_rfl) (fun _ _ _ h => h) (Or.inl ⟨by rfl, ?_⟩) ?_ ?_
  rotate_left
  · intro w'
    go_simp
    with_reducible rfl
  rotate_left
  · simp only [Act.put, List.setIfInBounds_toArray, List.set_cons_zero, List.set_cons_succ, i64_w, i32_w]
    rfl
  refine pure_ (i := 1) (N := some 8) (v := ?_) (a' := ?_) #[true, true, false, false, false, false] rfl rfl (by kernel_rfl) (fun _ _ _ h => h) (Or.inl ⟨by rfl, ?_⟩) ?_ ?_
  rotate_left
  · intro w'
    go_simp
    with_reducible rfl
  rotate_left
  · simp only [Act.put, List.setIfInBounds_toArray, List.set_cons_zero, List.set_cons_succ, i64_w, i32_w]
    rfl
  refine pure_ (i := 2) (N := some 9) (v := ?_) (a' := ?_) #[true, true, true, false, false, false] rfl rfl (by kernel_rfl) (fun _ _ _ h => h) (Or.inl ⟨by rfl, ?_⟩) ?_ ?_
  rotate_left
  · intro w'
    go_simp
    with_reducible rfl
  rotate_left
  · simp only [Act.put, List.setIfInBounds_toArray, List.set_cons_zero, List.set_cons_succ, i64_w, i32_w]
    rfl
  refine one_ (i := 3) (N := none) #[true, true, true, true, false, false] rfl rfl (by kernel_rfl) (by decide) (fun K hK => ?_)
  refine skip_ (w1 := ?_) (by rfl) rfl ?_ ?_
  rotate_left
  · go_simp
    rfl
  refine hK.out _ _ trivial (fun hHeld => ?_)
  clear hK K
  refine one_ (i := 4) (N := none) #[true, true, true, true, true, false] rfl rfl (by kernel_rfl) (by decide) (fun K hK => ?_)
  refine skip_ (w1 := ?_) (by rfl) rfl ?_ ?_
  rotate_left
  · go_simp
    rfl
  refine hK.out _ _ trivial (fun hHeld => ?_)
  clear hK K
  refine one_ (i := 5) (N := none) #[true, true, true, true, true, true] rfl rfl (by kernel_rfl) (by decide) (fun K hK => ?_)
  refine skip_ (w1 := ?_) (by rfl) rfl ?_ ?_
  rotate_left
  · go_simp
    rfl
  refine hK.out _ _ trivial (fun hHeld => ?_)
  clear hK K
  refine done_ (by kernel_rfl) ?_
  have r4 := blk_far (blk_far (blk_set (blk_set H4.out 0 (.int .i64 0)) 1 (.slice none 0 0)) (p := ⟨p5, 0, none⟩) n45 (.int .i64 0)) (p := ⟨p6, 0, none⟩) n46 (.int .i64 e)
  have r5 := blk_far (blk_set (blk_far (blk_far H5.out (p := ⟨p4, 0, none⟩) (Ne.symm n45) (.int .i64 0)) (p := ⟨p4, 1, none⟩) (Ne.symm n45) (.slice none 0 0)) 0 (.int .i64 0)) (p := ⟨p6, 0, none⟩) n56 (.int .i64 e)
  have r6 := blk_set (blk_far (blk_far (blk_far H6.out (p := ⟨p4, 0, none⟩) (Ne.symm n46) (.int .i64 0)) (p := ⟨p4, 1, none⟩) (Ne.symm n46) (.slice none 0 0)) (p := ⟨p5, 0, none⟩) (Ne.symm n56) (.int .i64 0)) 0 (.int .i64 e)
  have hb := below_drew ((((HB.out.setCell (p := ⟨p4, 0, none⟩) b4 (.int .i64 0)).setCell (p := ⟨p4, 1, none⟩) b4 (.slice none 0 0)).setCell (p := ⟨p5, 0, none⟩) b5 (.int .i64 0)).setCell (p := ⟨p6, 0, none⟩) b6 (.int .i64 e))
  have R4 : (((((w.setCell ⟨p4, 0, none⟩ (.int .i64 0)).setCell ⟨p4, 1, none⟩ (.slice none 0 0)).setCell ⟨p5, 0, none⟩ (.int .i64 0)).setCell ⟨p6, 0, none⟩ (.int .i64 e)).drew).heap[p4]? = some (.cells #[.int .i64 0, .slice none 0 0] 72 (0, 0)) := r4
  have R5 : (((((w.setCell ⟨p4, 0, none⟩ (.int .i64 0)).setCell ⟨p4, 1, none⟩ (.slice none 0 0)).setCell ⟨p5, 0, none⟩ (.int .i64 0)).setCell ⟨p6, 0, none⟩ (.int .i64 e)).drew).heap[p5]? = some (.cells #[.int .i64 0] 3 (0, 0)) := r5
  have R6 : (((((w.setCell ⟨p4, 0, none⟩ (.int .i64 0)).setCell ⟨p4, 1, none⟩ (.slice none 0 0)).setCell ⟨p5, 0, none⟩ (.int .i64 0)).setCell ⟨p6, 0, none⟩ (.int .i64 e)).drew).heap[p6]? = some (.cells #[.int .i64 e] 42 (0, 0)) := r6
  clear r4 r5 r6 q40 q41 q5 q6 f40 f41 f5 f6 H4 H5 H6 HB
  generalize (((((w.setCell ⟨p4, 0, none⟩ (.int .i64 0)).setCell ⟨p4, 1, none⟩ (.slice none 0 0)).setCell ⟨p5, 0, none⟩ (.int .i64 0)).setCell ⟨p6, 0, none⟩ (.int .i64 e)).drew) = W at hb R4 R5 R6 ⊢
  have R := Aside0.mk (And.intro hb (And.intro R4 (And.intro R5 R6)))
  clear hb R4 R5 R6
  simp [bodyPostS, results, Tryd.results54]
  exact R.out
structure GetSt (w0 : World) (x5 : Int) (w : World) : Prop where
  below : Below w0.heap.size w0 w
  h4 : w.heap[w0.heap.size]? = some (.cells #[.int .i64 0, .slice none 0 0] 72 (0, 0))
  h5 : w.heap[w0.heap.size + 1]? = some (.cells #[.int .i64 x5] 3 (0, 0))
  h6 : w.heap[w0.heap.size + 1 + 1]? = some (.cells #[.int .i64 0] 42 (0, 0))
theorem fr_new (w : World) (o : Obj) : (w.alloc o).heap[w.heap.size]? = some o := by
  show (w.heap.push o)[w.heap.size]? = some o
  simp
theorem fr_size (w : World) (o : Obj) : (w.alloc o).heap.size = w.heap.size + 1 := by
  show (w.heap.push o).size = _
  simp
theorem GetSt.start (w : World) : GetSt w 0 (((w.alloc (.cells #[.int .i64 0, .slice none 0 0] 72)).alloc (.cells #[.int .i64 0] 3)).alloc (.cells #[.int .i64 0] 42)) := by
  have s1 := fr_size w (.cells #[.int .i64 0, .slice none 0 0] 72)
  have s2 := fr_size (w.alloc (.cells #[.int .i64 0, .slice none 0 0] 72)) (.cells #[.int .i64 0] 3)
  have n1 := fr_new w (.cells #[.int .i64 0, .slice none 0 0] 72)
  have n2 := fr_new (w.alloc (.cells #[.int .i64 0, .slice none 0 0] 72)) (.cells #[.int .i64 0] 3)
  have n3 := fr_new ((w.alloc (.cells #[.int .i64 0, .slice none 0 0] 72)).alloc (.cells #[.int .i64 0] 3)) (.cells #[.int .i64 0] 42)
  have b2 := below_alloc (Below.refl _ (w.alloc (.cells #[.int .i64 0, .slice none 0 0] 72))) (.cells #[.int .i64 0] 3)
  have b3 := below_alloc (Below.refl _ ((w.alloc (.cells #[.int .i64 0, .slice none 0 0] 72)).alloc (.cells #[.int .i64 0] 3))) (.cells #[.int .i64 0] 42)
  refine ⟨below_alloc (below_alloc (below_alloc (Below.refl _ w) _) _) _, ?_, ?_, ?_⟩
  · exact (b3.block _ (by omega)).trans ((b2.block _ (by omega)).trans n1)
  · rw [← s1]
    exact (b3.block _ (by omega)).trans n2
  · rw [← s1, ← s2]
    exact n3
theorem GetSt.step {w0 w w' : World} {x5 : Int} (h : GetSt w0 x5 w) (hb : Below w.heap.size w w') : GetSt w0 x5 w' :=
  ⟨below_step h.below hb, (hb.block _ (blk_lt h.h4)).trans h.h4, (hb.block _ (blk_lt h.h5)).trans h.h5, (hb.block _ (blk_lt h.h6)).trans h.h6⟩
theorem frGet_range (A : Option Addr) (c : Nat) (l : List Int) (at_ : Int) (w : World) (h : at_ < 0 ∨ (l.length : Int) < at_) :
    Calls Tryd.prog 46 #[.slice A l.length c, .int .i64 at_] w fun e w' => e = .returned (.tuple #[.agg #[.int .i64 0, .slice none 0 0], .int .i64 0, .int .i64 3]) ∧ Below w.heap.size w w' := by
  have hmf : ∀ (fn : Fn) (first cap : Array Value) (w : World), (Instr.makeFunc fn first cap).run Tryd.prog w = .ok (.func fn first cap) w := fun _ _ _ _ => rfl
  have hst := Aside0.mk (GetSt.start w)
  by_cases h0 : 0 ≤ at_
  · have e0 : decide (0 ≤ at_) = true := decide_eq_true h0
    have e1 : decide (at_ ≤ (l.length : Int)) = false := decide_eq_false (by omega)
    clear h h0
    go_enter_defers Tryd.func46, Tryd.ntmps46
    go_wp2_with fail
    generalize hw_ : World.alloc _ _ = w1 at hst ⊢
    clear hw_
    refine (frame_need.no 3 _).mono ?_
    rintro e1 w2 ⟨rfl, rfl⟩
    refine leaves_cons (f := 54) (args := #[.pointer (some ⟨w.heap.size, 0, none⟩), .pointer (some ⟨w.heap.size + 1, 0, none⟩), .pointer (some ⟨w.heap.size + 1 + 1, 0, none⟩)]) (by simp) (by simp [go_sem]) ?_
    refine (frame_catch.panicking w.heap.size w.heap.size (w.heap.size + 1) (w.heap.size + 1 + 1) 0 (.slice none 0 0) 0 0 3 [] w w2 hst.out.below (by omega) (by omega) (by omega) (by omega) (by omega) (by omega) ⟨_, _, _, rfl⟩ hst.out.h4 hst.out.h5 hst.out.h6).mono ?_
    rintro e2 u2 w3 ⟨rfl, rfl, hb, r4, r5, r6⟩
    have q40 := cell_of_row w3 _ 0 _ _ _ r4
    have q41 := cell_of_row w3 _ 1 _ _ _ r4
    have q5 := cell_of_row w3 _ 0 _ _ _ r5
    have q6 := cell_of_row w3 _ 0 _ _ _ r6
    replace hb := Aside0.mk hb
    clear r4 r5 r6
    simp at q40 q41 q5 q6
    simp [Leaves, settle, results, Tryd.results46, go_sem, q40, q41, q5, q6]
    exact hb.out
  · have e0 : decide (0 ≤ at_) = false := decide_eq_false h0
    clear h h0
    go_enter_defers Tryd.func46, Tryd.ntmps46
    go_wp2_with fail
    generalize hw_ : World.alloc _ _ = w1 at hst ⊢
    clear hw_
    refine (frame_need.no 3 _).mono ?_
    rintro e1 w2 ⟨rfl, rfl⟩
    refine leaves_cons (f := 54) (args := #[.pointer (some ⟨w.heap.size, 0, none⟩), .pointer (some ⟨w.heap.size + 1, 0, none⟩), .pointer (some ⟨w.heap.size + 1 + 1, 0, none⟩)]) (by simp) (by simp [go_sem]) ?_
    refine (frame_catch.panicking w.heap.size w.heap.size (w.heap.size + 1) (w.heap.size + 1 + 1) 0 (.slice none 0 0) 0 0 3 [] w w2 hst.out.below (by omega) (by omega) (by omega) (by omega) (by omega) (by omega) ⟨_, _, _, rfl⟩ hst.out.h4 hst.out.h5 hst.out.h6).mono ?_
    rintro e2 u2 w3 ⟨rfl, rfl, hb, r4, r5, r6⟩
    have q40 := cell_of_row w3 _ 0 _ _ _ r4
    have q41 := cell_of_row w3 _ 1 _ _ _ r4
    have q5 := cell_of_row w3 _ 0 _ _ _ r5
    have q6 := cell_of_row w3 _ 0 _ _ _ r6
    replace hb := Aside0.mk hb
    clear r4 r5 r6
    simp at q40 q41 q5 q6
    simp [Leaves, settle, results, Tryd.results46, go_sem, q40, q41, q5, q6]
    exact hb.out
theorem frGet_end (A : Option Addr) (c : Nat) (l : List Int) (w : World) :
    Calls Tryd.prog 46 #[.slice A l.length c, .int .i64 (l.length : Int)] w fun e w' => e = .returned (.tuple #[.agg #[.int .i64 0, .slice none 0 0], .int .i64 0, .int .i64 4]) ∧ Below w.heap.size w w' := by
  have hmf : ∀ (fn : Fn) (first cap : Array Value) (w : World), (Instr.makeFunc fn first cap).run Tryd.prog w = .ok (.func fn first cap) w := fun _ _ _ _ => rfl
  have hst := Aside0.mk (GetSt.start w)
  have e0 : decide (0 ≤ (l.length : Int)) = true := decide_eq_true (by omega)
  have e1 : decide ((l.length : Int) ≤ (l.length : Int)) = true := decide_eq_true (by omega)
  have e2 : decide ((l.length : Int) < (l.length : Int)) = false := decide_eq_false (by omega)
  go_enter_defers Tryd.func46, Tryd.ntmps46
  go_wp2_with fail
  generalize hw_ : World.alloc _ _ = w1 at hst ⊢
  clear hw_
  refine (frame_need.yes 3 _).mono ?_
  rintro e1 w2 ⟨rfl, rfl⟩
  go_wp2_with fail
  refine (frame_need.no 4 _).mono ?_
  rintro e1 w2 ⟨rfl, rfl⟩
  refine leaves_cons (f := 54) (args := #[.pointer (some ⟨w.heap.size, 0, none⟩), .pointer (some ⟨w.heap.size + 1, 0, none⟩), .pointer (some ⟨w.heap.size + 1 + 1, 0, none⟩)]) (by simp) (by simp [go_sem]) ?_
  refine (frame_catch.panicking w.heap.size w.heap.size (w.heap.size + 1) (w.heap.size + 1 + 1) 0 (.slice none 0 0) 0 0 4 [] w w2 hst.out.below (by omega) (by omega) (by omega) (by omega) (by omega) (by omega) ⟨_, _, _, rfl⟩ hst.out.h4 hst.out.h5 hst.out.h6).mono ?_
  rintro e2 u2 w3 ⟨rfl, rfl, hb, r4, r5, r6⟩
  have q40 := cell_of_row w3 _ 0 _ _ _ r4
  have q41 := cell_of_row w3 _ 1 _ _ _ r4
  have q5 := cell_of_row w3 _ 0 _ _ _ r5
  have q6 := cell_of_row w3 _ 0 _ _ _ r6
  replace hb := Aside0.mk hb
  clear r4 r5 r6
  simp at q40 q41 q5 q6
  simp [Leaves, settle, results, Tryd.results46, go_sem, q40, q41, q5, q6]
  exact hb.out
theorem frGet_wrong (k : Nat) (A : Option Addr) (c : Nat) (l : List Int) (at_ n from_ wrong : Int) (w : World) (hC : Kd.C (Kd.int .u8) w A l.length l) (hc : l.length ≤ c) (hlen : l.length ≤ 9223372036854775807) (h0 : 0 ≤ at_) (h1 : at_ < (l.length : Int)) (hget : num_Get.f k l (at_ + 1) = some (n, from_, wrong)) (hw : ¬ wrong = 0) :
    Calls Tryd.prog 46 #[.slice A l.length c, .int .i64 at_] w fun e w' => e = .returned (.tuple #[.agg #[.int .i64 0, .slice none 0 0], .int .i64 0, .int .i64 wrong]) ∧ Below w.heap.size w w' := by
  have hmf : ∀ (fn : Fn) (first cap : Array Value) (w : World), (Instr.makeFunc fn first cap).run Tryd.prog w = .ok (.func fn first cap) w := fun _ _ _ _ => rfl
  have hst := Aside0.mk (GetSt.start w)
  have HC := Aside0.mk hC
  clear hC
  have ew : (wrong == 0) = false := beq_eq_false_iff_ne.mpr hw
  have e0 : decide (0 ≤ at_) = true := decide_eq_true h0
  have e1 : decide (at_ ≤ (l.length : Int)) = true := decide_eq_true (by omega)
  have e2 : decide (at_ < (l.length : Int)) = true := decide_eq_true h1
  obtain ⟨j, hj2⟩ : ∃ j, at_ + 1 = j := ⟨_, rfl⟩
  have hj3 : wrap64 j = j := by subst hj2; unfold wrap64; omega
  rw [hj2] at hget
  have HG := Aside0.mk hget
  have HCc := Aside0.mk hc
  clear hget hc
  go_enter_defers Tryd.func46, Tryd.ntmps46
  go_wp2_with fail
  generalize hw_ : World.alloc _ _ = w1 at hst ⊢
  clear hw_
  refine (frame_need.yes 3 _).mono ?_
  rintro e1 w2 ⟨rfl, rfl⟩
  go_wp2_with fail
  refine (frame_need.yes 4 _).mono ?_
  rintro e1 w2 ⟨rfl, rfl⟩
  go_wp2_with fail
  refine (num_Get.calls k A c l j n from_ wrong _ (Kd.C_below HC.out hst.out.below) HCc.out HG.out).mono ?_
  rintro e1 w5 ⟨rfl, hd⟩
  have hst2 := Aside0.mk (hst.out.step hd.below)
  clear hst hd
  go_wp2_with fail
  refine (frame_need.no wrong _).mono ?_
  rintro e1 w2 ⟨rfl, rfl⟩
  refine leaves_cons (f := 54) (args := #[.pointer (some ⟨w.heap.size, 0, none⟩), .pointer (some ⟨w.heap.size + 1, 0, none⟩), .pointer (some ⟨w.heap.size + 1 + 1, 0, none⟩)]) (by simp) (by simp [go_sem]) ?_
  refine (frame_catch.panicking w.heap.size w.heap.size (w.heap.size + 1) (w.heap.size + 1 + 1) 0 (.slice none 0 0) 0 0 wrong [] w w2 hst2.out.below (by omega) (by omega) (by omega) (by omega) (by omega) (by omega) ⟨_, _, _, rfl⟩ hst2.out.h4 hst2.out.h5 hst2.out.h6).mono ?_
  rintro e2 u2 w3 ⟨rfl, rfl, hb, r4, r5, r6⟩
  have q40 := cell_of_row w3 _ 0 _ _ _ r4
  have q41 := cell_of_row w3 _ 1 _ _ _ r4
  have q5 := cell_of_row w3 _ 0 _ _ _ r5
  have q6 := cell_of_row w3 _ 0 _ _ _ r6
  replace hb := Aside0.mk hb
  clear r4 r5 r6
  simp at q40 q41 q5 q6
  simp [Leaves, settle, results, Tryd.results46, go_sem, q40, q41, q5, q6]
  exact hb.out
theorem frGet_big (k : Nat) (A : Option Addr) (c : Nat) (l : List Int) (at_ n from_ wrong : Int) (w : World) (hC : Kd.C (Kd.int .u8) w A l.length l) (hc : l.length ≤ c) (hlen : l.length ≤ 9223372036854775807) (h0 : 0 ≤ at_) (h1 : at_ < (l.length : Int)) (hget : num_Get.f k l (at_ + 1) = some (n, from_, wrong)) (hw : wrong = 0) (hn : ¬ n ≤ 524288) :
    Calls Tryd.prog 46 #[.slice A l.length c, .int .i64 at_] w fun e w' => e = .returned (.tuple #[.agg #[.int .i64 0, .slice none 0 0], .int .i64 0, .int .i64 7]) ∧ Below w.heap.size w w' := by
  have hmf : ∀ (fn : Fn) (first cap : Array Value) (w : World), (Instr.makeFunc fn first cap).run Tryd.prog w = .ok (.func fn first cap) w := fun _ _ _ _ => rfl
  have hst := Aside0.mk (GetSt.start w)
  have HC := Aside0.mk hC
  clear hC
  subst hw
  have en : decide (n ≤ 524288) = false := decide_eq_false hn
  have e0 : decide (0 ≤ at_) = true := decide_eq_true h0
  have e1 : decide (at_ ≤ (l.length : Int)) = true := decide_eq_true (by omega)
  have e2 : decide (at_ < (l.length : Int)) = true := decide_eq_true h1
  obtain ⟨j, hj2⟩ : ∃ j, at_ + 1 = j := ⟨_, rfl⟩
  have hj3 : wrap64 j = j := by subst hj2; unfold wrap64; omega
  rw [hj2] at hget
  have HG := Aside0.mk hget
  have HCc := Aside0.mk hc
  clear hget hc
  go_enter_defers Tryd.func46, Tryd.ntmps46
  go_wp2_with fail
  generalize hw_ : World.alloc _ _ = w1 at hst ⊢
  clear hw_
  refine (frame_need.yes 3 _).mono ?_
  rintro e1 w2 ⟨rfl, rfl⟩
  go_wp2_with fail
  refine (frame_need.yes 4 _).mono ?_
  rintro e1 w2 ⟨rfl, rfl⟩
  go_wp2_with fail
  refine (num_Get.calls k A c l j n from_ 0 _ (Kd.C_below HC.out hst.out.below) HCc.out HG.out).mono ?_
  rintro e1 w5 ⟨rfl, hd⟩
  have hst2 := Aside0.mk (hst.out.step hd.below)
  clear hst hd
  go_wp2_with fail
  refine (frame_need.yes 0 _).mono ?_
  rintro e1 w2 ⟨rfl, rfl⟩
  go_wp2_with fail
  refine (frame_need.no 7 _).mono ?_
  rintro e1 w2 ⟨rfl, rfl⟩
  refine leaves_cons (f := 54) (args := #[.pointer (some ⟨w.heap.size, 0, none⟩), .pointer (some ⟨w.heap.size + 1, 0, none⟩), .pointer (some ⟨w.heap.size + 1 + 1, 0, none⟩)]) (by simp) (by simp [go_sem]) ?_
  refine (frame_catch.panicking w.heap.size w.heap.size (w.heap.size + 1) (w.heap.size + 1 + 1) 0 (.slice none 0 0) 0 0 7 [] w w2 hst2.out.below (by omega) (by omega) (by omega) (by omega) (by omega) (by omega) ⟨_, _, _, rfl⟩ hst2.out.h4 hst2.out.h5 hst2.out.h6).mono ?_
  rintro e2 u2 w3 ⟨rfl, rfl, hb, r4, r5, r6⟩
  have q40 := cell_of_row w3 _ 0 _ _ _ r4
  have q41 := cell_of_row w3 _ 1 _ _ _ r4
  have q5 := cell_of_row w3 _ 0 _ _ _ r5
  have q6 := cell_of_row w3 _ 0 _ _ _ r6
  replace hb := Aside0.mk hb
  clear r4 r5 r6
  simp at q40 q41 q5 q6
  simp [Leaves, settle, results, Tryd.results46, go_sem, q40, q41, q5, q6]
  exact hb.out
theorem frGet_short (k : Nat) (A : Option Addr) (c : Nat) (l : List Int) (at_ n from_ wrong : Int) (w : World) (hC : Kd.C (Kd.int .u8) w A l.length l) (hc : l.length ≤ c) (hlen : l.length ≤ 9223372036854775807) (h0 : 0 ≤ at_) (h1 : at_ < (l.length : Int)) (hget : num_Get.f k l (at_ + 1) = some (n, from_, wrong)) (hw : wrong = 0) (hn : n ≤ 524288) (m4 d : Int) (hm4 : wrap64 (n + 4) = m4) (hd4 : wrap64 ((l.length : Int) - from_) = d) (hsh : ¬ m4 ≤ d) :
    Calls Tryd.prog 46 #[.slice A l.length c, .int .i64 at_] w fun e w' => e = .returned (.tuple #[.agg #[.int .i64 0, .slice none 0 0], .int .i64 0, .int .i64 4]) ∧ Below w.heap.size w w' := by
  have hmf : ∀ (fn : Fn) (first cap : Array Value) (w : World), (Instr.makeFunc fn first cap).run Tryd.prog w = .ok (.func fn first cap) w := fun _ _ _ _ => rfl
  have hst := Aside0.mk (GetSt.start w)
  have HC := Aside0.mk hC
  clear hC
  subst hw
  have en : decide (n ≤ 524288) = true := decide_eq_true hn
  have es : decide (m4 ≤ d) = false := decide_eq_false hsh
  have e0 : decide (0 ≤ at_) = true := decide_eq_true h0
  have e1 : decide (at_ ≤ (l.length : Int)) = true := decide_eq_true (by omega)
  have e2 : decide (at_ < (l.length : Int)) = true := decide_eq_true h1
  obtain ⟨j, hj2⟩ : ∃ j, at_ + 1 = j := ⟨_, rfl⟩
  have hj3 : wrap64 j = j := by subst hj2; unfold wrap64; omega
  rw [hj2] at hget
  have HG := Aside0.mk hget
  have HCc := Aside0.mk hc
  clear hget hc
  go_enter_defers Tryd.func46, Tryd.ntmps46
  go_wp2_with fail
  generalize hw_ : World.alloc _ _ = w1 at hst ⊢
  clear hw_
  refine (frame_need.yes 3 _).mono ?_
  rintro e1 w2 ⟨rfl, rfl⟩
  go_wp2_with fail
  refine (frame_need.yes 4 _).mono ?_
  rintro e1 w2 ⟨rfl, rfl⟩
  go_wp2_with fail
  refine (num_Get.calls k A c l j n from_ 0 _ (Kd.C_below HC.out hst.out.below) HCc.out HG.out).mono ?_
  rintro e1 w5 ⟨rfl, hd⟩
  have hst2 := Aside0.mk (hst.out.step hd.below)
  clear hst hd
  go_wp2_with fail
  refine (frame_need.yes 0 _).mono ?_
  rintro e1 w2 ⟨rfl, rfl⟩
  go_wp2_with fail
  refine (frame_need.yes 7 _).mono ?_
  rintro e1 w2 ⟨rfl, rfl⟩
  go_wp2_with fail
  refine (frame_need.no 4 _).mono ?_
  rintro e1 w2 ⟨rfl, rfl⟩
  refine leaves_cons (f := 54) (args := #[.pointer (some ⟨w.heap.size, 0, none⟩), .pointer (some ⟨w.heap.size + 1, 0, none⟩), .pointer (some ⟨w.heap.size + 1 + 1, 0, none⟩)]) (by simp) (by simp [go_sem]) ?_
  refine (frame_catch.panicking w.heap.size w.heap.size (w.heap.size + 1) (w.heap.size + 1 + 1) 0 (.slice none 0 0) 0 0 4 [] w w2 hst2.out.below (by omega) (by omega) (by omega) (by omega) (by omega) (by omega) ⟨_, _, _, rfl⟩ hst2.out.h4 hst2.out.h5 hst2.out.h6).mono ?_
  rintro e2 u2 w3 ⟨rfl, rfl, hb, r4, r5, r6⟩
  have q40 := cell_of_row w3 _ 0 _ _ _ r4
  have q41 := cell_of_row w3 _ 1 _ _ _ r4
  have q5 := cell_of_row w3 _ 0 _ _ _ r5
  have q6 := cell_of_row w3 _ 0 _ _ _ r6
  replace hb := Aside0.mk hb
  clear r4 r5 r6
  simp at q40 q41 q5 q6
  simp [Leaves, settle, results, Tryd.results46, go_sem, q40, q41, q5, q6]
  exact hb.out
theorem GetSt.put {w0 w : World} {x5 : Int} (h : GetSt w0 x5 w) (t : Int) : GetSt w0 t (w.setCell ⟨w0.heap.size + 1, 0, none⟩ (.int .i64 t)) :=
  ⟨h.below.setCell (p := ⟨w0.heap.size + 1, 0, none⟩) (Nat.le_succ _) _, blk_far h.h4 (p := ⟨w0.heap.size + 1, 0, none⟩) (by show w0.heap.size ≠ w0.heap.size + 1; omega) _, blk_set h.h5 0 _, blk_far h.h6 (p := ⟨w0.heap.size + 1, 0, none⟩) (by show w0.heap.size + 1 + 1 ≠ w0.heap.size + 1; omega) _⟩
theorem frGet_sum (k : Nat) (A : Option Addr) (c : Nat) (l : List Int) (at_ n from_ wrong : Int) (w : World) (hC : Kd.C (Kd.int .u8) w A l.length l) (hc : l.length ≤ c) (hlen : l.length ≤ 9223372036854775807) (h0 : 0 ≤ at_) (h1 : at_ < (l.length : Int)) (hget : num_Get.f k l (at_ + 1) = some (n, from_, wrong)) (hG : GT w) (hw : wrong = 0) (hn : n ≤ 524288) (m4 d q t : Int) (hm4 : wrap64 (n + 4) = m4) (hd4 : wrap64 ((l.length : Int) - from_) = d) (hsh : m4 ≤ d) (hq4 : wrap64 (from_ + n) = q) (ht4 : wrap64 (q + 4) = t) (hat : at_ ≤ t) (htl : t ≤ (l.length : Int)) (r1 : List Int) (r2 : Int) (hopen : crc_Open.f ((l.take t.toNat).drop at_.toNat) = some (r1, r2)) (hr2 : ¬ r2 = 0) :
    Calls Tryd.prog 46 #[.slice A l.length c, .int .i64 at_] w fun e w' => e = .returned (.tuple #[.agg #[.int .i64 0, .slice none 0 0], .int .i64 0, .int .i64 r2]) ∧ Below w.heap.size w w' := by
  have hmf : ∀ (fn : Fn) (first cap : Array Value) (w : World), (Instr.makeFunc fn first cap).run Tryd.prog w = .ok (.func fn first cap) w := fun _ _ _ _ => rfl
  have hst := Aside0.mk (GetSt.start w)
  have HC := Aside0.mk hC
  clear hC
  have HGT := Aside0.mk hG
  obtain ⟨i0, hi0, _, hsz0, _⟩ := info_parts info5_
  obtain ⟨B, hcut, hmid0, hcap0⟩ := print_mid_of (P := Tryd.prog) (Value.int .u8) 0 32 5 .i64 .i64 Tryd.underlying32 hi0 hsz0 A c l at_ t h0 hat htl hc
  have hmid : Aside0 (∀ W : World, Kd.C (Kd.int .u8) W A l.length l → Kd.C (Kd.int .u8) W B ((l.take t.toNat).drop at_.toNat).length ((l.take t.toNat).drop at_.toNat)) := ⟨fun W h => Kd.C_of_reads (d := (0 : Int)) (h1 := fun _ => rfl) (hmid0 W (Kd.reads_of_C (d := (0 : Int)) h))⟩
  obtain ⟨LO, hLO⟩ : ∃ LO, (l.take t.toNat).drop at_.toNat = LO := ⟨_, rfl⟩
  obtain ⟨qo, hqo⟩ : ∃ qo, c - at_.toNat = qo := ⟨_, rfl⟩
  rw [hLO] at hmid hopen
  rw [hLO, hqo] at hcut hcap0
  obtain ⟨lo, hlo⟩ : ∃ lo, LO.length = lo := ⟨_, rfl⟩
  rw [hlo] at hcut
  have HLO := Aside0.mk hlo
  have HCAP := Aside0.mk hcap0
  have HOP := Aside0.mk hopen
  clear hmid0 hi0 hsz0 hLO hqo hlo hcap0 hopen hG
  subst hw
  have en : decide (n ≤ 524288) = true := decide_eq_true hn
  have es : decide (m4 ≤ d) = true := decide_eq_true hsh
  have er : (r2 == 0) = false := beq_eq_false_iff_ne.mpr hr2
  have e0 : decide (0 ≤ at_) = true := decide_eq_true h0
  have e1 : decide (at_ ≤ (l.length : Int)) = true := decide_eq_true (by omega)
  have e2 : decide (at_ < (l.length : Int)) = true := decide_eq_true h1
  obtain ⟨j, hj2⟩ : ∃ j, at_ + 1 = j := ⟨_, rfl⟩
  have hj3 : wrap64 j = j := by subst hj2; unfold wrap64; omega
  rw [hj2] at hget
  have HG := Aside0.mk hget
  have HCc := Aside0.mk hc
  clear hget hc
  go_enter_defers Tryd.func46, Tryd.ntmps46
  go_wp2_with fail
  generalize hw_ : World.alloc _ _ = w1 at hst ⊢
  clear hw_
  refine (frame_need.yes 3 _).mono ?_
  rintro e1 w2 ⟨rfl, rfl⟩
  go_wp2_with fail
  refine (frame_need.yes 4 _).mono ?_
  rintro e1 w2 ⟨rfl, rfl⟩
  go_wp2_with fail
  refine (num_Get.calls k A c l j n from_ 0 _ (Kd.C_below HC.out hst.out.below) HCc.out HG.out).mono ?_
  rintro e1 w5 ⟨rfl, hd⟩
  have hst2 := Aside0.mk (hst.out.step hd.below)
  clear hst hd
  go_wp2_with fail
  refine (frame_need.yes 0 _).mono ?_
  rintro e1 w2 ⟨rfl, rfl⟩
  go_wp2_with fail
  refine (frame_need.yes 7 _).mono ?_
  rintro e1 w2 ⟨rfl, rfl⟩
  go_wp2_with fail
  refine (frame_need.yes 4 _).mono ?_
  rintro e1 w2 ⟨rfl, rfl⟩
  have q5 := cell_of_row _ _ 0 _ _ _ hst2.out.h5
  have f5 := blk_frozen hst2.out.h5 0
  have hst3 := Aside0.mk (hst2.out.put t)
  simp at q5
  go_wp2_with fail
  generalize hw_ : World.setCell _ _ (.int .i64 t) = w7 at hst3 ⊢
  clear hw_ q5 f5 hst2
  have hoc : Kd.C (Kd.int .u8) w7 B LO.length LO := hmid.out w7 (Kd.C_below HC.out hst3.out.below)
  rw [← HLO.out]
  refine (crc_Open.calls B qo LO r1 r2 w7 (GT.below HGT.out hst3.out.below) hoc HCAP.out HOP.out).mono ?_
  rintro e1 w8 ⟨v0, rfl, hR8, hb8⟩
  have hst4 := Aside0.mk (hst3.out.step hb8)
  clear hst3 hb8 hR8 hoc
  go_wp2_with fail
  refine (frame_need.no r2 _).mono ?_
  rintro e1 w2 ⟨rfl, rfl⟩
  refine leaves_cons (f := 54) (args := #[.pointer (some ⟨w.heap.size, 0, none⟩), .pointer (some ⟨w.heap.size + 1, 0, none⟩), .pointer (some ⟨w.heap.size + 1 + 1, 0, none⟩)]) (by simp) (by simp [go_sem]) ?_
  refine (frame_catch.panicking w.heap.size w.heap.size (w.heap.size + 1) (w.heap.size + 1 + 1) 0 (.slice none 0 0) t 0 r2 [] w w2 hst4.out.below (by omega) (by omega) (by omega) (by omega) (by omega) (by omega) ⟨_, _, _, rfl⟩ hst4.out.h4 hst4.out.h5 hst4.out.h6).mono ?_
  rintro e2 u2 w3 ⟨rfl, rfl, hb, r4, r5, r6⟩
  have q40 := cell_of_row w3 _ 0 _ _ _ r4
  have q41 := cell_of_row w3 _ 1 _ _ _ r4
  have q5 := cell_of_row w3 _ 0 _ _ _ r5
  have q6 := cell_of_row w3 _ 0 _ _ _ r6
  replace hb := Aside0.mk hb
  clear r4 r5 r6
  simp at q40 q41 q5 q6
  simp [Leaves, settle, results, Tryd.results46, go_sem, q40, q41, q5, q6]
  exact hb.out
set_option maxRecDepth 100000 in
theorem frGet_ok (k : Nat) (A : Option Addr) (c : Nat) (l : List Int) (at_ n from_ wrong : Int) (w : World) (hC : Kd.C (Kd.int .u8) w A l.length l) (hc : l.length ≤ c) (hlen : l.length ≤ 9223372036854775807) (h0 : 0 ≤ at_) (h1 : at_ < (l.length : Int)) (hget : num_Get.f k l (at_ + 1) = some (n, from_, wrong)) (hG : GT w) (hw : wrong = 0) (hn : n ≤ 524288) (m4 d q t : Int) (hm4 : wrap64 (n + 4) = m4) (hd4 : wrap64 ((l.length : Int) - from_) = d) (hsh : m4 ≤ d) (hq4 : wrap64 (from_ + n) = q) (ht4 : wrap64 (q + 4) = t) (hat : at_ ≤ t) (htl : t ≤ (l.length : Int)) (r1 : List Int) (r2 : Int) (hopen : crc_Open.f ((l.take t.toNat).drop at_.toNat) = some (r1, r2)) (hr2 : r2 = 0) (hf0 : 0 ≤ from_) (hfq : from_ ≤ q) (hql : q ≤ (l.length : Int)) (hqn : q - from_ ≤ 524288) :
    Calls Tryd.prog 46 #[.slice A l.length c, .int .i64 at_] w fun e w' => ∃ v, e = .returned (.tuple #[.agg #[.int .i64 (wrap64 (rd l at_)), v], .int .i64 t, .int .i64 0]) ∧ Kd.R (Kd.int .u8) 5 w' w.heap.size (fun _ => True) v ((l.take q.toNat).drop from_.toNat) ∧ Below w.heap.size w w' := by
  have hmf : ∀ (fn : Fn) (first cap : Array Value) (w : World), (Instr.makeFunc fn first cap).run Tryd.prog w = .ok (.func fn first cap) w := fun _ _ _ _ => rfl
  have hst := Aside0.mk (GetSt.start w)
  have HGT := Aside0.mk hG
  obtain ⟨i0, hi0, _, hsz0, _⟩ := info_parts info5_
  obtain ⟨B, hcut, hmid0, hcap0⟩ := print_mid_of (P := Tryd.prog) (Value.int .u8) 0 32 5 .i64 .i64 Tryd.underlying32 hi0 hsz0 A c l at_ t h0 hat htl hc
  have hmid : Aside0 (∀ W : World, Kd.C (Kd.int .u8) W A l.length l → Kd.C (Kd.int .u8) W B ((l.take t.toNat).drop at_.toNat).length ((l.take t.toNat).drop at_.toNat)) := ⟨fun W h => Kd.C_of_reads (d := (0 : Int)) (h1 := fun _ => rfl) (hmid0 W (Kd.reads_of_C (d := (0 : Int)) h))⟩
  obtain ⟨LO, hLO⟩ : ∃ LO, (l.take t.toNat).drop at_.toNat = LO := ⟨_, rfl⟩
  obtain ⟨qo, hqo⟩ : ∃ qo, c - at_.toNat = qo := ⟨_, rfl⟩
  rw [hLO] at hmid hopen
  rw [hLO, hqo] at hcut hcap0
  obtain ⟨lo, hlo⟩ : ∃ lo, LO.length = lo := ⟨_, rfl⟩
  rw [hlo] at hcut
  have HLO := Aside0.mk hlo
  have HCAP := Aside0.mk hcap0
  have HOP := Aside0.mk hopen
  obtain ⟨B2, hcut2, hmid2, hcap2⟩ := print_mid_of (P := Tryd.prog) (Value.int .u8) 0 32 5 .i64 .i64 Tryd.underlying32 hi0 hsz0 A c l from_ q hf0 hfq hql hc
  have hmidb : Aside0 (∀ W : World, Kd.C (Kd.int .u8) W A l.length l → Kd.C (Kd.int .u8) W B2 ((l.take q.toNat).drop from_.toNat).length ((l.take q.toNat).drop from_.toNat)) := ⟨fun W h => Kd.C_of_reads (d := (0 : Int)) (h1 := fun _ => rfl) (hmid2 W (Kd.reads_of_C (d := (0 : Int)) h))⟩
  have hLBl : ((l.take q.toNat).drop from_.toNat).length ≤ 524288 := by rw [List.length_drop, List.length_take]; omega
  obtain ⟨LB, hLB⟩ : ∃ LB, (l.take q.toNat).drop from_.toNat = LB := ⟨_, rfl⟩
  obtain ⟨qb, hqb⟩ : ∃ qb, c - from_.toNat = qb := ⟨_, rfl⟩
  rw [hLB] at hmidb hLBl
  rw [hLB, hqb] at hcut2
  obtain ⟨lb, hlb⟩ : ∃ lb, LB.length = lb := ⟨_, rfl⟩
  rw [hlb] at hcut2 hmidb hLBl
  have HLB := Aside0.mk (show lb ≤ 140737488355328 by omega)
  have HLBE := Aside0.mk hLB
  obtain ⟨ad, hAd, _⟩ := Kd.at_int hC at_ h0 h1
  subst hAd
  obtain ⟨x, hx⟩ : ∃ x, rd l at_ = x := ⟨_, rfl⟩
  have hcc : Aside0 (∀ W : World, Below w.heap.size w W → W.cell? (ad.add at_.toNat) = some (.int .u8 x)) := ⟨fun W hB => by
    obtain ⟨ad', e, hx'⟩ := Kd.at_int (Kd.C_below hC hB) at_ h0 h1
    cases e
    rw [hx] at hx'
    exact hx'⟩
  have HX := Aside0.mk hx
  clear hmid2 hcap2 hqb hlb hLB hx hf0 hfq hql hLBl hqn
  clear hmid0 hi0 hsz0 hLO hqo hlo hcap0 hopen hG
  have HC := Aside0.mk hC
  clear hC
  subst hw
  have en : decide (n ≤ 524288) = true := decide_eq_true hn
  have es : decide (m4 ≤ d) = true := decide_eq_true hsh
  subst hr2
  have e0 : decide (0 ≤ at_) = true := decide_eq_true h0
  have e1 : decide (at_ ≤ (l.length : Int)) = true := decide_eq_true (by omega)
  have e2 : decide (at_ < (l.length : Int)) = true := decide_eq_true h1
  obtain ⟨j, hj2⟩ : ∃ j, at_ + 1 = j := ⟨_, rfl⟩
  have hj3 : wrap64 j = j := by subst hj2; unfold wrap64; omega
  rw [hj2] at hget
  have HG := Aside0.mk hget
  have HCc := Aside0.mk hc
  clear hget hc
  go_enter_defers Tryd.func46, Tryd.ntmps46
  go_wp2_with fail
  generalize hw_ : World.alloc _ _ = w1 at hst ⊢
  clear hw_
  refine (frame_need.yes 3 _).mono ?_
  rintro e1 w2 ⟨rfl, rfl⟩
  go_wp2_with fail
  refine (frame_need.yes 4 _).mono ?_
  rintro e1 w2 ⟨rfl, rfl⟩
  go_wp2_with fail
  refine (num_Get.calls k (some ad) c l j n from_ 0 _ (Kd.C_below HC.out hst.out.below) HCc.out HG.out).mono ?_
  rintro e1 w5 ⟨rfl, hd⟩
  have hst2 := Aside0.mk (hst.out.step hd.below)
  clear hst hd
  go_wp2_with fail
  refine (frame_need.yes 0 _).mono ?_
  rintro e1 w2 ⟨rfl, rfl⟩
  go_wp2_with fail
  refine (frame_need.yes 7 _).mono ?_
  rintro e1 w2 ⟨rfl, rfl⟩
  go_wp2_with fail
  refine (frame_need.yes 4 _).mono ?_
  rintro e1 w2 ⟨rfl, rfl⟩
  have q5 := cell_of_row _ _ 0 _ _ _ hst2.out.h5
  have f5 := blk_frozen hst2.out.h5 0
  have hst3 := Aside0.mk (hst2.out.put t)
  simp at q5
  go_wp2_with fail
  generalize hw_ : World.setCell _ _ (.int .i64 t) = w7 at hst3 ⊢
  clear hw_ q5 f5 hst2
  have hoc : Kd.C (Kd.int .u8) w7 B LO.length LO := hmid.out w7 (Kd.C_below HC.out hst3.out.below)
  rw [← HLO.out]
  refine (crc_Open.calls B qo LO r1 0 w7 (GT.below HGT.out hst3.out.below) hoc HCAP.out HOP.out).mono ?_
  rintro e1 w8 ⟨v0, rfl, hR8, hb8⟩
  have hst4 := Aside0.mk (hst3.out.step hb8)
  clear hst3 hb8 hR8 hoc
  go_wp2_with fail
  refine (frame_need.yes 0 _).mono ?_
  rintro e1 w9 ⟨rfl, rfl⟩
  have hst9 : Aside0 (GetSt w t w9.drew) := ⟨hst4.out.step (below_drew (Below.refl _ _))⟩
  have hCb : Aside0 (Kd.C (Kd.int .u8) w9.drew B2 lb LB) := ⟨hmidb.out _ (Kd.C_below HC.out hst9.out.below)⟩
  have hq9 : Aside0 (w9.drew.cell? ⟨w.heap.size + 1, 0, none⟩ = some (.int .i64 t)) := ⟨by rw [cell_of_row _ _ _ _ _ _ hst9.out.h5]; rfl⟩
  clear hst4
  go_wp2_with fail
  refine wp_region_noPanic ?_
  refine start_ (n := 17) (S := fun w' => w'.cell? (ad.add at_.toNat) = some (.int .u8 x) ∧ w'.cell? ⟨w.heap.size + 1, 0, none⟩ = some (.int .i64 t)) (ds := [15, 16]) #[false, false, false, false, false, false, false, false, false, false, false, false, false, false, false, false, false] (by kernel_rfl) rfl rfl ⟨hcc.out _ hst9.out.below, hq9.out⟩ (fun hHeld => ?_)
  refine pure_ (i := 0) (N := some 64) (v := ?_) (a' := ?_) #[true, false, false, false, false, false, false, false, false, false, false, false, false, false, false, false, false] rfl rfl (by kernel_rfl) (fun _ _ _ h => h) (Or.inl ⟨by rfl, ?_⟩) ?_ ?_
  rotate_left
  · intro w'
    go_simp
    with_reducible rfl
  rotate_left
  · simp only [Act.put, List.setIfInBounds_toArray, List.set_cons_zero, List.set_cons_succ, i64_w, i32_w]
    rfl
  refine pure_ (i := 1) (N := some 65) (v := ?_) (a' := ?_) #[true, true, false, false, false, false, false, false, false, false, false, false, false, false, false, false, false] rfl rfl (by kernel_rfl) (fun _ _ _ h => h) (Or.inl ⟨by rfl, ?_⟩) ?_ ?_
  rotate_left
  · intro w'
    go_simp
    with_reducible rfl
  rotate_left
  · simp only [Act.put, List.setIfInBounds_toArray, List.set_cons_zero, List.set_cons_succ, i64_w, i32_w]
    rfl
  refine pure_ (i := 2) (N := some 66) (v := ?_) (a' := ?_) #[true, true, true, false, false, false, false, false, false, false, false, false, false, false, false, false, false] rfl rfl (by kernel_rfl) (fun _ _ _ h => h) (Or.inl ⟨by rfl, ?_⟩) ?_ ?_
  rotate_left
  · intro w'
    go_simp
    with_reducible rfl
  rotate_left
  · simp only [Act.put, List.setIfInBounds_toArray, List.set_cons_zero, List.set_cons_succ, i64_w, i32_w]
    rfl
  refine pure_ (i := 5) (N := some 69) (v := ?_) (a' := ?_) #[true, true, true, false, false, true, false, false, false, false, false, false, false, false, false, false, false] rfl rfl (by kernel_rfl) (fun _ _ _ h => h) (Or.inl ⟨by rfl, ?_⟩) ?_ ?_
  rotate_left
  · intro w'
    go_simp
    with_reducible rfl
  rotate_left
  · simp only [Act.put, List.setIfInBounds_toArray, List.set_cons_zero, List.set_cons_succ, i64_w, i32_w]
    rfl
  refine pure_ (i := 6) (N := some 70) (v := ?_) (a' := ?_) #[true, true, true, false, false, true, true, false, false, false, false, false, false, false, false, false, false] rfl rfl (by kernel_rfl) (fun _ _ _ h => h) (Or.inl ⟨by rfl, ?_⟩) ?_ ?_
  rotate_left
  · intro w'
    go_simp
    with_reducible rfl
  rotate_left
  · simp only [Act.put, List.setIfInBounds_toArray, List.set_cons_zero, List.set_cons_succ, i64_w, i32_w]
    rfl
  refine pure_ (i := 7) (N := some 71) (v := ?_) (a' := ?_) #[true, true, true, false, false, true, true, true, false, false, false, false, false, false, false, false, false] rfl rfl (by kernel_rfl) (fun _ _ _ h => h) (Or.inl ⟨by rfl, ?_⟩) ?_ ?_
  rotate_left
  · intro w'
    go_simp
    with_reducible rfl
  rotate_left
  · simp only [Act.put, List.setIfInBounds_toArray, List.set_cons_zero, List.set_cons_succ, i64_w, i32_w]
    rfl
  refine pure_ (i := 8) (N := some 72) (v := ?_) (a' := ?_) #[true, true, true, false, false, true, true, true, true, false, false, false, false, false, false, false, false] rfl rfl (by kernel_rfl) (fun _ _ _ h => h) (Or.inl ⟨by rfl, ?_⟩) ?_ ?_
  rotate_left
  · intro w'
    go_simp
    with_reducible rfl
  rotate_left
  · simp only [Act.put, List.setIfInBounds_toArray, List.set_cons_zero, List.set_cons_succ, i64_w, i32_w]
    rfl
  refine pure_ (i := 9) (N := some 73) (v := ?_) (a' := ?_) #[true, true, true, false, false, true, true, true, true, true, false, false, false, false, false, false, false] rfl rfl (by kernel_rfl) (fun _ _ _ h => h) (Or.inl ⟨by rfl, ?_⟩) ?_ ?_
  rotate_left
  · intro w'
    go_simp
    with_reducible rfl
  rotate_left
  · simp only [Act.put, List.setIfInBounds_toArray, List.set_cons_zero, List.set_cons_succ, i64_w, i32_w]
    rfl
  refine pure_ (i := 10) (N := some 74) (v := ?_) (a' := ?_) #[true, true, true, false, false, true, true, true, true, true, true, false, false, false, false, false, false] rfl rfl (by kernel_rfl) (fun _ _ _ h => h) (Or.inl ⟨by rfl, ?_⟩) ?_ ?_
  rotate_left
  · intro w'
    go_simp
    with_reducible rfl
  rotate_left
  · simp only [Act.put, List.setIfInBounds_toArray, List.set_cons_zero, List.set_cons_succ, i64_w, i32_w]
    rfl
  refine take_ (i := 3) (N := some 67) (v := ?_) (a' := ?_) #[true, true, true, true, false, true, true, true, true, true, true, false, false, false, false, false, false] rfl rfl (by kernel_rfl) (fun _ _ _ h => h) (Or.inl ⟨by rfl, ?_⟩) hHeld ?_ ?_
  rotate_left
  · rintro w' ⟨s0, s1⟩
    go_simp
    with_reducible rfl
  rotate_left
  · simp only [Act.put, List.setIfInBounds_toArray, List.set_cons_zero, List.set_cons_succ, i64_w, i32_w]
    rfl
  refine pure_ (i := 4) (N := some 68) (v := ?_) (a' := ?_) #[true, true, true, true, true, true, true, true, true, true, true, false, false, false, false, false, false] rfl rfl (by kernel_rfl) (fun _ _ _ h => h) (Or.inl ⟨by rfl, ?_⟩) ?_ ?_
  rotate_left
  · intro w'
    go_simp
    with_reducible rfl
  rotate_left
  · simp only [Act.put, List.setIfInBounds_toArray, List.set_cons_zero, List.set_cons_succ, i64_w, i32_w]
    rfl
  refine take_ (i := 13) (N := some 77) (v := ?_) (a' := ?_) #[true, true, true, true, true, true, true, true, true, true, true, false, false, true, false, false, false] rfl rfl (by kernel_rfl) (fun _ _ _ h => h) (Or.inl ⟨by rfl, ?_⟩) hHeld ?_ ?_
  rotate_left
  · rintro w' ⟨s0, s1⟩
    go_simp
    with_reducible rfl
  rotate_left
  · simp only [Act.put, List.setIfInBounds_toArray, List.set_cons_zero, List.set_cons_succ, i64_w, i32_w]
    rfl
  refine one_ (i := 11) (N := some 75) #[true, true, true, true, true, true, true, true, true, true, true, true, false, true, false, false, false] rfl rfl (by kernel_rfl) (by decide) (fun K hK => ?_)
  refine Kd.R_append_rows_step (Kd.int .u8) (w0 := w9.drew) w9.drew.heap.size (by rfl) (.const (.slice none 0 0)) (.tmp 74) 32 5 (.int .u8 0) 1 rfl Tryd.underlying32 info5_ rfl (by decide) (by omega) (.slice none 0 0) ([] : List Int) LB B2 lb qb (fun _ => True) (fun _ => False) rfl rfl (Kd.R_nil _ _ _ _ (fun _ => True)) hCb.out (fun _ _ h => h) (fun _ h => h.elim) (fun _ _ => trivial) (Below.refl _ _) (Nat.le_refl _) (by have := HLB.out; simp only [List.length_nil]; omega) ?_
  intro v10 w10 ho hb10 hg hat
  clear hg hat
  rw [List.nil_append] at ho
  obtain ⟨A10, c10, rfl⟩ := Kd.R_slice ho
  have HO10 := Aside0.mk ho
  have hst10 := Aside0.mk (hst9.out.step hb10)
  clear ho hb10
  have q41 := cell_of_row _ _ 0 _ _ _ hst10.out.h4
  have q42 := cell_of_row _ _ 1 _ _ _ hst10.out.h4
  have q51 := cell_of_row _ _ 0 _ _ _ hst10.out.h5
  have q61 := cell_of_row _ _ 0 _ _ _ hst10.out.h6
  have f41 := blk_frozen hst10.out.h4 0
  have f42 := blk_frozen hst10.out.h4 1
  have f51 := blk_frozen hst10.out.h5 0
  have f61 := blk_frozen hst10.out.h6 0
  simp at q41 q42 q51 q61
  have hq10 : Aside0 (w10.cell? ⟨w.heap.size + 1, 0, none⟩ = some (.int .i64 t)) := ⟨by rw [cell_of_row _ _ _ _ _ _ hst10.out.h5]; rfl⟩
  refine hK.out _ _ ⟨hcc.out _ hst10.out.below, hq10.out⟩ (fun hHeld => ?_)
  clear hK K
  refine norm_ (a' := ?_) ?_ ?_
  rotate_left
  · show Act.put _ (some 75) _ = _
    simp only [Act.put, List.setIfInBounds_toArray, List.set_cons_zero, List.set_cons_succ, i64_w, i32_w]
    rfl
  refine pure_ (i := 12) (N := some 76) (v := ?_) (a' := ?_) #[true, true, true, true, true, true, true, true, true, true, true, true, true, true, false, false, false] rfl rfl (by kernel_rfl) (fun _ _ _ h => h) (Or.inl ⟨by rfl, ?_⟩) ?_ ?_
  rotate_left
  · intro w'
    go_simp
    with_reducible rfl
  rotate_left
  · simp only [Act.put, List.setIfInBounds_toArray, List.set_cons_zero, List.set_cons_succ, i64_w, i32_w]
    rfl
  refine one_ (i := 14) (N := none) #[true, true, true, true, true, true, true, true, true, true, true, true, true, true, true, false, false] rfl rfl (by kernel_rfl) (by decide) (fun K hK => ?_)
  refine skip_ (w1 := ?_) (by rfl) rfl ?_ ?_
  rotate_left
  · go_simp
    rfl
  have hst14 := Aside0.mk ((hst10.out.below.setCell (p := ⟨w.heap.size, 0, none⟩) (Nat.le_refl _) (.int .i64 (wrap64 x))).setCell (p := ⟨w.heap.size, 1, none⟩) (Nat.le_refl _) (.slice A10 LB.length c10))
  have hq14 : Aside0 (((w10.setCell ⟨w.heap.size, 0, none⟩ (.int .i64 (wrap64 x))).setCell ⟨w.heap.size, 1, none⟩ (.slice A10 LB.length c10)).cell? ⟨w.heap.size + 1, 0, none⟩ = some (.int .i64 t)) := ⟨by rw [cell_of_row _ _ _ _ _ _ (blk_far (blk_far hst10.out.h5 (p := ⟨w.heap.size, 0, none⟩) (by show w.heap.size + 1 ≠ w.heap.size; omega) _) (p := ⟨w.heap.size, 1, none⟩) (by show w.heap.size + 1 ≠ w.heap.size; omega) _)]; rfl⟩
  refine hK.out _ _ ⟨hcc.out _ hst14.out, hq14.out⟩ (fun hHeld => ?_)
  clear hK K
  refine last_ (i := 15) (N := none) #[true, true, true, true, true, true, true, true, true, true, true, true, true, true, true, true, false] rfl rfl (by kernel_rfl) (by decide) (fun K hK => ?_)
  refine skip_ (w1 := ?_) (by rfl) rfl ?_ ?_
  rotate_left
  · go_simp
    rfl
  refine hK.out _ _ ?_
  clear hK K
  refine last_ (i := 16) (N := none) #[true, true, true, true, true, true, true, true, true, true, true, true, true, true, true, true, true] rfl rfl (by kernel_rfl) (by decide) (fun K hK => ?_)
  refine skip_ (w1 := ?_) (by rfl) rfl ?_ ?_
  rotate_left
  · go_simp
    rfl
  refine hK.out _ _ ?_
  clear hK K
  refine done_ (by kernel_rfl) ?_
  refine NoPanic.normal ?_
  have R4 := Aside0.mk (blk_far (blk_far (blk_set (blk_set hst10.out.h4 0 (.int .i64 (wrap64 x))) 1 (.slice A10 LB.length c10)) (p := ⟨w.heap.size + 1, 0, none⟩) (by show w.heap.size ≠ w.heap.size + 1; omega) (.int .i64 t)) (p := ⟨w.heap.size + 1 + 1, 0, none⟩) (by show w.heap.size ≠ w.heap.size + 1 + 1; omega) (.int .i64 0))
  have R5 := Aside0.mk (blk_far (blk_set (blk_far (blk_far hst10.out.h5 (p := ⟨w.heap.size, 0, none⟩) (by show w.heap.size + 1 ≠ w.heap.size; omega) (.int .i64 (wrap64 x))) (p := ⟨w.heap.size, 1, none⟩) (by show w.heap.size + 1 ≠ w.heap.size; omega) (.slice A10 LB.length c10)) 0 (.int .i64 t)) (p := ⟨w.heap.size + 1 + 1, 0, none⟩) (by show w.heap.size + 1 ≠ w.heap.size + 1 + 1; omega) (.int .i64 0))
  have R6 := Aside0.mk (blk_set (blk_far (blk_far (blk_far hst10.out.h6 (p := ⟨w.heap.size, 0, none⟩) (by show w.heap.size + 1 + 1 ≠ w.heap.size; omega) (.int .i64 (wrap64 x))) (p := ⟨w.heap.size, 1, none⟩) (by show w.heap.size + 1 + 1 ≠ w.heap.size; omega) (.slice A10 LB.length c10)) (p := ⟨w.heap.size + 1, 0, none⟩) (by show w.heap.size + 1 + 1 ≠ w.heap.size + 1; omega) (.int .i64 t)) 0 (.int .i64 0))
  have HB := Aside0.mk ((((hst10.out.below.setCell (p := ⟨w.heap.size, 0, none⟩) (Nat.le_refl _) (.int .i64 (wrap64 x))).setCell (p := ⟨w.heap.size, 1, none⟩) (Nat.le_refl _) (.slice A10 LB.length c10)).setCell (p := ⟨w.heap.size + 1, 0, none⟩) (Nat.le_succ _) (.int .i64 t)).setCell (p := ⟨w.heap.size + 1 + 1, 0, none⟩) (by show w.heap.size ≤ w.heap.size + 1 + 1; omega) (.int .i64 0))
  have hz6 := blk_lt hst9.out.h6
  have hR0 : (Kd.int .u8).R 5 w10 w9.drew.heap.size (fun k => w9.drew.heap.size ≤ k) (.slice A10 LB.length c10) LB := Kd.R_reok rfl HO10.out (fun k e => Kd.R_base HO10.out k e)
  have HR := Aside0.mk (Kd.R_far (Kd.R_far (Kd.R_far (Kd.R_far hR0 (p := ⟨w.heap.size, 0, none⟩) (fun k hk => by show k ≠ w.heap.size; omega) (.int .i64 (wrap64 x))) (p := ⟨w.heap.size, 1, none⟩) (fun k hk => by show k ≠ w.heap.size; omega) (.slice A10 LB.length c10)) (p := ⟨w.heap.size + 1, 0, none⟩) (fun k hk => by show k ≠ w.heap.size + 1; omega) (.int .i64 t)) (p := ⟨w.heap.size + 1 + 1, 0, none⟩) (fun k hk => by show k ≠ w.heap.size + 1 + 1; omega) (.int .i64 0))
  have HZ := Aside0.mk (show w.heap.size ≤ w9.drew.heap.size by omega)
  clear hR0 hz6 q41 q42 q51 q61 f41 f42 f51 f61
  clear hHeld
  generalize ((((w10.setCell ⟨w.heap.size, 0, none⟩ (.int .i64 (wrap64 x))).setCell ⟨w.heap.size, 1, none⟩ (.slice A10 LB.length c10)).setCell ⟨w.heap.size + 1, 0, none⟩ (.int .i64 t)).setCell ⟨w.heap.size + 1 + 1, 0, none⟩ (.int .i64 0)) = W at R4 R5 R6 HB HR ⊢
  have q40 := cell_of_row W _ 0 _ _ _ R4.out
  have q41 := cell_of_row W _ 1 _ _ _ R4.out
  have q5 := cell_of_row W _ 0 _ _ _ R5.out
  have q6 := cell_of_row W _ 0 _ _ _ R6.out
  simp at q40 q41 q5 q6
  go_wp2_with fail
  refine leaves_cons (f := 54) (args := #[.pointer (some ⟨w.heap.size, 0, none⟩), .pointer (some ⟨w.heap.size + 1, 0, none⟩), .pointer (some ⟨w.heap.size + 1 + 1, 0, none⟩)]) (by simp) (by simp [go_sem]) ?_
  refine (frame_catch.idle w.heap.size (w.heap.size + 1) (w.heap.size + 1 + 1) _).mono ?_
  rintro e2 u2 w3 ⟨rfl, rfl, rfl⟩
  simp [Leaves, settle, results, Tryd.results46, go_sem, q40, q41, q5, q6]
  refine ⟨_, ⟨by rw [HX.out], rfl⟩, ?_, HB.out⟩
  rw [HLBE.out]
  exact Kd.R_mono (Kd.R_lower HR.out HZ.out) (fun _ _ => trivial)
def frame_Get.f (k : Nat) (l0 : List Int) (a1 : Int) : Option (Int × List Int × Int × Int) :=
  if a1 < 0 ∨ (l0.length : Int) < a1 then some (0, [], 0, 3) else (if a1 = (l0.length : Int) then some (0, [], 0, 4) else ((num_Get.f k l0 (a1 + 1)).bind fun g =>
    (if g.2.2 = 0 then (if g.1 ≤ 524288 then (if wrap64 (g.1 + 4) ≤ wrap64 ((l0.length : Int) - g.2.1) then
      (if 0 ≤ g.2.1 ∧ g.2.1 ≤ wrap64 (g.2.1 + g.1) ∧ wrap64 (g.2.1 + g.1) ≤ (l0.length : Int) ∧ a1 ≤ wrap64 (wrap64 (g.2.1 + g.1) + 4) ∧ wrap64 (wrap64 (g.2.1 + g.1) + 4) ≤ (l0.length : Int) ∧ wrap64 (g.2.1 + g.1) - g.2.1 ≤ 524288 then
        ((crc_Open.f ((l0.take (wrap64 (wrap64 (g.2.1 + g.1) + 4)).toNat).drop a1.toNat)).bind fun o =>
          (if o.2 = 0 then some (wrap64 (rd l0 a1), (l0.take (wrap64 (g.2.1 + g.1)).toNat).drop g.2.1.toNat, wrap64 (wrap64 (g.2.1 + g.1) + 4), 0) else some (0, [], 0, o.2)))
      else none) else some (0, [], 0, 4)) else some (0, [], 0, 7)) else some (0, [], 0, g.2.2))))
theorem frame_Get.mono : ∀ a0 a1 k, LeO (frame_Get.f k a0 a1) (frame_Get.f (k + 1) a0 a1) := by
  intro a0 a1 k
  unfold frame_Get.f
  repeat' first
      | (with_reducible exact LeO.refl _)
      | (with_reducible exact LeO.none _)
      | exact num_Get.mono _ _ _
      | (with_reducible refine LeO.ite ?_ ?_)
      | (with_reducible refine LeO.bind ?_ (fun _ => ?_))
theorem frame_Get.calls (k : Nat) (A0 : Option Addr) (c0 : Nat) (l0 : List Int) (a1 : Int) (r1 : Int) (r2 : List Int) (r3 : Int) (r4 : Int) (w : World) (hG : GT w) (hr0 : Kd.C (Kd.int .u8) w A0 l0.length l0) (hc0 : l0.length ≤ c0) (h : frame_Get.f k l0 a1 = some (r1, r2, r3, r4)) :
    Calls Tryd.prog 46 #[.slice A0 l0.length c0, .int .i64 a1] w fun e w' => ∃ v1_ : Value, e = .returned (.tuple #[.agg #[.int .i64 r1, v1_], .int .i64 r3, .int .i64 r4]) ∧ Kd.R (Kd.int .u8) 5 w' w.heap.size (fun _ => True) v1_ r2 ∧ Below w.heap.size w w' := by
  have hlen : l0.length ≤ 9223372036854775807 := by have := hr0.2.1; omega
  have nil : ∀ (e : Ending) (w' : World) (x : Int), (e = .returned (.tuple #[.agg #[.int .i64 0, .slice none 0 0], .int .i64 0, .int .i64 x]) ∧ Below w.heap.size w w') → ∃ v1_ : Value, e = .returned (.tuple #[.agg #[.int .i64 0, v1_], .int .i64 0, .int .i64 x]) ∧ Kd.R (Kd.int .u8) 5 w' w.heap.size (fun _ => True) v1_ [] ∧ Below w.heap.size w w' :=
    fun e w' x h => ⟨_, h.1, Kd.R_nil _ _ _ _ _, h.2⟩
  unfold frame_Get.f at h
  by_cases h1 : a1 < 0 ∨ (l0.length : Int) < a1
  · rw [if_pos h1] at h
    simp only [Option.some.injEq, Prod.mk.injEq] at h
    obtain ⟨rfl, rfl, rfl, rfl⟩ := h
    exact (frGet_range A0 c0 l0 a1 w h1).mono fun e w' h => nil e w' 3 h
  rw [if_neg h1] at h
  by_cases h2 : a1 = (l0.length : Int)
  · rw [if_pos h2] at h
    simp only [Option.some.injEq, Prod.mk.injEq] at h
    obtain ⟨rfl, rfl, rfl, rfl⟩ := h
    subst h2
    exact (frGet_end A0 c0 l0 w).mono fun e w' h => nil e w' 4 h
  rw [if_neg h2] at h
  have h0 : 0 ≤ a1 := by omega
  have hlt : a1 < (l0.length : Int) := by omega
  obtain ⟨⟨n, fr, wr⟩, hget, h⟩ := Option.bind_eq_some_iff.mp h
  dsimp only at h
  by_cases hw : wr = 0
  rotate_left
  · rw [if_neg hw] at h
    simp only [Option.some.injEq, Prod.mk.injEq] at h
    obtain ⟨rfl, rfl, rfl, rfl⟩ := h
    exact (frGet_wrong k A0 c0 l0 a1 n fr wr w hr0 hc0 hlen h0 hlt hget hw).mono fun e w' h => nil e w' wr h
  rw [if_pos hw] at h
  by_cases hn : n ≤ 524288
  rotate_left
  · rw [if_neg hn] at h
    simp only [Option.some.injEq, Prod.mk.injEq] at h
    obtain ⟨rfl, rfl, rfl, rfl⟩ := h
    exact (frGet_big k A0 c0 l0 a1 n fr wr w hr0 hc0 hlen h0 hlt hget hw hn).mono fun e w' h => nil e w' 7 h
  rw [if_pos hn] at h
  by_cases hs : wrap64 (n + 4) ≤ wrap64 ((l0.length : Int) - fr)
  rotate_left
  · rw [if_neg hs] at h
    simp only [Option.some.injEq, Prod.mk.injEq] at h
    obtain ⟨rfl, rfl, rfl, rfl⟩ := h
    exact (frGet_short k A0 c0 l0 a1 n fr wr w hr0 hc0 hlen h0 hlt hget hw hn _ _ rfl rfl hs).mono fun e w' h => nil e w' 4 h
  rw [if_pos hs] at h
  by_cases hb : 0 ≤ fr ∧ fr ≤ wrap64 (fr + n) ∧ wrap64 (fr + n) ≤ (l0.length : Int) ∧ a1 ≤ wrap64 (wrap64 (fr + n) + 4) ∧ wrap64 (wrap64 (fr + n) + 4) ≤ (l0.length : Int) ∧ wrap64 (fr + n) - fr ≤ 524288
  rotate_left
  · rw [if_neg hb] at h
    cases h
  rw [if_pos hb] at h
  obtain ⟨b1, b2, b3, b4, b5, b6⟩ := hb
  obtain ⟨⟨o1, o2⟩, hop, h⟩ := Option.bind_eq_some_iff.mp h
  dsimp only at h
  by_cases ho : o2 = 0
  · rw [if_pos ho] at h
    simp only [Option.some.injEq, Prod.mk.injEq] at h
    obtain ⟨rfl, rfl, rfl, rfl⟩ := h
    exact frGet_ok k A0 c0 l0 a1 n fr wr w hr0 hc0 hlen h0 hlt hget hG hw hn _ _ _ _ rfl rfl hs rfl rfl b4 b5 o1 o2 hop ho b1 b2 b3 b6
  · rw [if_neg ho] at h
    simp only [Option.some.injEq, Prod.mk.injEq] at h
    obtain ⟨rfl, rfl, rfl, rfl⟩ := h
    exact (frGet_sum k A0 c0 l0 a1 n fr wr w hr0 hc0 hlen h0 hlt hget hG hw hn _ _ _ _ rfl rfl hs rfl rfl b4 b5 o1 o2 hop ho).mono fun e w' h => nil e w' o2 h
end Go.Proofs.YthehhbfiaaadgaaDoor.P
