/- frame.Stream: New, Feed, Next and Err compute what is said. -/
import Derived.Test.YthehhbfiaaadgaaDoorPx6
import Derived.Test.YthehhbfiaaadgaaDoorPx0
namespace Go.Proofs.YthehhbfiaaadgaaDoor.P
open Go.RowKit Go.Proofs.YthehhbfiaaadgaaDoorW.PrintWords Go.Proofs.YthehhbfiaaadgaaDoorW.PrintLast Go.Proofs.YthehhbfiaaadgaaDoorW.PrintMore
attribute [local go_sem] max2_int min2_int max_two min_two max_three min_three max_four min_four
set_option linter.unusedVariables false
set_option linter.unusedSimpArgs false
theorem st_cells {w : World} {p : Nat} {v : Value} {e : Int} (h : w.heap[p]? = some (.cells #[v, .int .i64 e] 98 (0, 0))) :
    w.cell? ⟨p, 0, none⟩ = some v ∧ w.cell? ⟨p, 1, none⟩ = some (.int .i64 e) := by
  constructor <;> (rw [cell_of_row w p _ _ 98 (0, 0) h]; rfl)
theorem frame_New.made (w : World) : Calls Tryd.prog 35 #[] w fun e w' => e = .returned (.pointer (some ⟨w.heap.size, 0, none⟩)) ∧ w' = w.alloc (.cells #[.slice none 0 0, .int .i64 0] 98) := by
  go_enter Tryd.func35, Tryd.ntmps35
  go_wp2
  go_ret
  exact ⟨rfl, rfl⟩
theorem st_Err.at_ (p : Nat) (x : Int) (w : World) (h : w.cell? ⟨p, 1, none⟩ = some (.int .i64 x)) : Calls Tryd.prog 33 #[.pointer (some ⟨p, 0, none⟩)] w fun e w' => e = .returned (.int .i64 x) ∧ w' = w := by
  go_enter Tryd.func33, Tryd.ntmps33
  go_wp2
  go_ret
  exact ⟨rfl, rfl⟩
theorem st_Feed.off (p : Nat) (x : Int) (B : Option Addr) (n cb : Nat) (w : World) (h : w.cell? ⟨p, 1, none⟩ = some (.int .i64 x)) (hx : (x == 0) = false) :
    Calls Tryd.prog 31 #[.pointer (some ⟨p, 0, none⟩), .slice B n cb] w fun e w' => e = .returned (.tuple #[]) ∧ Below w.heap.size w w' := by
  go_enter Tryd.func31, Tryd.ntmps31
  go_wp2
  all_goals (try go_region)
  all_goals (try go_wp2)
  all_goals refine bodyPost_end (results_none rfl _ _ _) rfl ?_
  all_goals exact ⟨rfl, by first | exact Below.refl _ _ | exact below_drew (Below.refl _ _)⟩
/-- A stream in memory: at p lies a row of its own with L, and what is noted. -/
structure Strm (ok : Nat → Prop) (b0 p : Nat) (L : List Int) (x : Int) (v : Value) (w : World) : Prop where
  hP : w.heap[p]? = some (.cells #[v, .int .i64 x] 98 (0, 0))
  hR : (Kd.int .u8).R 5 w b0 ok v L
theorem Strm.slice {ok : Nat → Prop} {b0 p : Nat} {L : List Int} {x : Int} {v : Value} {w : World} (h : Strm ok b0 p L x v w) : ∃ A c, v = .slice A L.length c ∧ L.length ≤ c ∧ Kd.C (Kd.int .u8) w A L.length L := by
  obtain ⟨A, c, rfl⟩ := Kd.R_slice h.hR
  obtain ⟨_, h2, h3⟩ := Kd.R_reads' h.hR
  exact ⟨A, c, rfl, h2, h3⟩
theorem Strm.below {ok : Nat → Prop} {b0 p : Nat} {L : List Int} {x : Int} {v : Value} {w w' : World} (h : Strm ok b0 p L x v w) (hb : Below w.heap.size w w') : Strm ok b0 p L x v w' :=
  ⟨(hb.block p (blk_lt h.hP)).trans h.hP, Kd.R_below h.hR hb⟩
set_option maxHeartbeats 2000000 in
theorem st_Feed.on (ok : Nat → Prop) (b0 p : Nat) (L M : List Int) (v : Value) (B : Option Addr) (cb : Nat) (w : World) (h : Strm ok b0 p L 0 v w) (hp : ∀ k, ok k → k ≠ p) (hf : ∀ k, w.heap.size ≤ k → ok k) (hb0 : b0 ≤ p) (hC : Kd.C (Kd.int .u8) w B M.length M) (hl : L.length + M.length ≤ 140737488355328) :
    Calls Tryd.prog 31 #[.pointer (some ⟨p, 0, none⟩), .slice B M.length cb] w fun e w' => e = .returned (.tuple #[]) ∧ Below b0 w w' ∧ (∀ j, j < w.heap.size → j ≠ p → v.ownBlock ≠ some j → w'.heap[j]? = w.heap[j]?) ∧ ∃ v', Strm ok b0 p (L ++ M) 0 v' w' := by
  obtain ⟨A, c, rfl, _, _⟩ := h.slice
  have HP := Aside0.mk h.hP
  have HR := Aside0.mk h.hR
  have q0 := (st_cells h.hP).1
  have q1 := (st_cells h.hP).2
  have hne : p ≠ p → False := fun h => h rfl
  have hlt := blk_lt h.hP
  have Hlt := Aside0.mk hlt
  have HC := Aside0.mk hC
  have HL := Aside0.mk hl
  have Hp := Aside0.mk hp
  have Hf := Aside0.mk hf
  have Hb0 := Aside0.mk hb0
  clear h hC hl hp hf hne hlt hb0
  go_enter Tryd.func31, Tryd.ntmps31
  go_wp2_with ((with_reducible refine gate_builtin (b := .append) (xs := #[.tmp 17, .tmp 18]) rfl ?_); (try (refine gate_guard (by rfl) ?_; dsimp only)); at_builtin; refine Kd.R_append_rows (Kd.int .u8) (w0 := w) b0 rfl (.tmp 17) (.tmp 18) 32 5 (.int .u8 0) 1 rfl Tryd.underlying32 info5 rfl (by decide) (by omega) (.slice A L.length c) L M B M.length cb ok (fun _ => False) rfl rfl ?aO ?aR (fun _ _ h => h) (fun _ h => h.elim) ?aF ?aB ?aS ?aL ?_; (case aR => exact HC.out); (case aB => exact Below.refl _ _); (case aF => exact Hf.out); (case aO => exact HR.out); (case aS => exact Nat.le_of_lt (Nat.lt_of_le_of_lt Hb0.out Hlt.out)); (case aL => have := HL.out; omega); intro v5 w5 ho hb5 hg hat; clear hat; obtain ⟨A5, c5, rfl⟩ := Kd.R_slice ho; generalize hm5 : (L ++ M).length = m5 at ho ⊢; replace hm5 := Aside0.mk hm5; have HO5 := Aside0.mk ho; have HB5 := Aside0.mk hb5; have HG5 := Aside0.mk hg; have hP5 := Aside0.mk ((hg.block p Hlt.out (fun e => Hp.out p (HR.out.1 p e.symm) rfl)).trans HP.out); have f7 := blk_frozen hP5.out 0; have q5 := (st_cells hP5.out).1; have q6 := (st_cells hP5.out).2; clear ho hb5 hg q0 q1)
  refine bodyPost_end (results_none rfl _ _ _) rfl ?_
  refine ⟨rfl, HB5.out.setCell (p := ⟨p, 0, none⟩) Hb0.out _, fun j hj hjp hjo => (Below.heap_setCell w5 ⟨p, 0, none⟩ _ j hjp).trans (HG5.out.block j hj (fun e => hjo e.symm)), .slice A5 m5 c5, blk_set hP5.out 0 _, Kd.R_far HO5.out (p := ⟨p, 0, none⟩) Hp.out _⟩
theorem st_Feed.at_ (ok : Nat → Prop) (b0 p : Nat) (L M : List Int) (v : Value) (B : Option Addr) (n cb : Nat) (w : World) (hn : M.length = n) (h : Strm ok b0 p L 0 v w) (hp : ∀ k, ok k → k ≠ p) (hf : ∀ k, w.heap.size ≤ k → ok k) (hb0 : b0 ≤ p) (hC : Kd.C (Kd.int .u8) w B n M) (hl : L.length + M.length ≤ 140737488355328) :
    Calls Tryd.prog 31 #[.pointer (some ⟨p, 0, none⟩), .slice B n cb] w fun e w' => e = .returned (.tuple #[]) ∧ Below b0 w w' ∧ (∀ j, j < w.heap.size → j ≠ p → v.ownBlock ≠ some j → w'.heap[j]? = w.heap[j]?) ∧ ∃ v', Strm ok b0 p (L ++ M) 0 v' w' := by
  subst hn
  exact st_Feed.on ok b0 p L M v B cb w h hp hf hb0 hC hl
theorem cut_upto (A : Option Addr) (n c m : Nat) (h : m ≤ n) (hc : n ≤ c) : ∀ W : World, (Instr.slice 32 (.slice A n c) none (some (.int .i64 (m : Int))) none).run Tryd.prog W = .ok (.slice A m c) W := by
  obtain ⟨i0, hi0, _, _, _⟩ := info_parts info5
  intro W
  have := cut_to (P := Tryd.prog) 32 5 .i64 Tryd.underlying32 hi0 A n c (m : Int) (by omega) (by omega) hc W
  simpa using this
/-- A cut's other end: where it is, and what it reads. -/
theorem cut_behind {w : World} {A : Option Addr} {L : List Int} {c : Nat} (m : Nat) (hC : Kd.C (Kd.int .u8) w A L.length L) (h : m ≤ L.length) (hc : L.length ≤ c) :
    ∃ B : Option Addr, (∀ W : World, (Instr.slice 32 (.slice A L.length c) (some (.int .i64 (m : Int))) none none).run Tryd.prog W = .ok (.slice B (L.length - m) (c - m)) W) ∧ Kd.C (Kd.int .u8) w B (L.length - m) (L.drop m) ∧ L.length - m ≤ c - m := by
  obtain ⟨i0, hi0, _, hsz0, _⟩ := info_parts info5
  refine ⟨if c = m then A else A.map (·.add (m * 1)), fun W => ?_, ?_, by omega⟩
  · have := cut_from (P := Tryd.prog) 32 5 .i64 Tryd.underlying32 hi0 1 hsz0 A L.length c (m : Int) (by omega) (by omega) W
    simpa using this
  · have e : (L.drop m).length = L.length - m := List.length_drop
    have := Kd.C_drop (m := m) (c := c) hC h hc
    rw [e] at this
    exact this
theorem C_upto {w : World} {A : Option Addr} {L : List Int} (m : Nat) (hC : Kd.C (Kd.int .u8) w A L.length L) (h : m ≤ L.length) : Kd.C (Kd.int .u8) w A m (L.take m) := by
  have e : (L.take m).length = m := by rw [List.length_take]; omega
  have := Kd.C_take hC h
  rw [e] at this
  exact this
theorem Strm.new (w : World) : Strm (fun k => w.heap.size < k) w.heap.size w.heap.size [] 0 (.slice none 0 0) (w.alloc (.cells #[.slice none 0 0, .int .i64 0] 98)) :=
  ⟨fr_new w _, Kd.R_nil _ _ _ _ _⟩
theorem Strm.sliceN {ok : Nat → Prop} {b0 p n : Nat} {L : List Int} {x : Int} {v : Value} {w : World} (h : Strm ok b0 p L x v w) (hn : L.length = n) : ∃ A c, v = .slice A n c := by
  obtain ⟨A, c, e, _⟩ := h.slice
  exact ⟨A, c, hn ▸ e⟩
theorem st_Next.off (p : Nat) (x : Int) (w : World) (h : w.cell? ⟨p, 1, none⟩ = some (.int .i64 x)) (hx : (x != 0) = true) :
    Calls Tryd.prog 32 #[.pointer (some ⟨p, 0, none⟩)] w fun e w' => e = .returned (.tuple #[.agg #[.int .i64 0, .slice none 0 0], .bool false]) ∧ Below w.heap.size w w' := by
  have hlt := World.block_lt_of_cell? w _ h
  have h1 : (w.alloc (.cells #[.int .i64 0, .slice none 0 0] 72)).cell? ⟨p, 1, none⟩ = some (.int .i64 x) := ((below_alloc (Below.refl _ w) _).cell (p := ⟨p, 1, none⟩) hlt).trans h
  go_enter Tryd.func32, Tryd.ntmps32
  go_wp2
  all_goals (try go_region)
  all_goals (try go_wp2)
  all_goals (try (refine bodyPost_ret (by simp [results, Tryd.results32, go_sem]; try rfl) rfl ?_))
  all_goals exact ⟨rfl, by first | exact below_alloc (Below.refl _ w) _ | exact below_drew (below_alloc (Below.refl _ w) _)⟩
set_option maxHeartbeats 2000000 in
theorem st_Next.short (ok : Nat → Prop) (b0 p : Nat) (k : Nat) (L : List Int) (v : Value) (w : World) (hG : GT w) (h : Strm ok b0 p L 0 v w) (hg : frame_Get.f k L 0 = some (0, [], 0, 4)) :
    Calls Tryd.prog 32 #[.pointer (some ⟨p, 0, none⟩)] w fun e w' => e = .returned (.tuple #[.agg #[.int .i64 0, .slice none 0 0], .bool false]) ∧ Below w.heap.size w w' := by
  obtain ⟨A, c, rfl, hc, hC⟩ := h.slice
  have hlt := blk_lt h.hP
  have HB0 := Aside0.mk (below_alloc (Below.refl _ w) (.cells #[.int .i64 0, .slice none 0 0] 72))
  have q0 : (w.alloc (.cells #[.int .i64 0, .slice none 0 0] 72)).cell? ⟨p, 0, none⟩ = some (.slice A L.length c) := (HB0.out.cell (p := ⟨p, 0, none⟩) hlt).trans (st_cells h.hP).1
  have q1 : (w.alloc (.cells #[.int .i64 0, .slice none 0 0] 72)).cell? ⟨p, 1, none⟩ = some (.int .i64 0) := (HB0.out.cell (p := ⟨p, 1, none⟩) hlt).trans (st_cells h.hP).2
  have r0 : (w.alloc (.cells #[.int .i64 0, .slice none 0 0] 72)).heap[w.heap.size]? = some (.cells #[.int .i64 0, .slice none 0 0] 72 (0, 0)) := fr_new w _
  have sz0 := fr_size w (.cells #[.int .i64 0, .slice none 0 0] 72)
  have HG := Aside0.mk (hG.alloc (.cells #[.int .i64 0, .slice none 0 0] 72))
  have HC := Aside0.mk (Kd.C_alloc hC (.cells #[.int .i64 0, .slice none 0 0] 72))
  have HH := Aside0.mk hg
  have Hlt := Aside0.mk hlt
  have hne : ((0 : Int) != 0) = false := rfl
  clear h hG hC hlt hg
  go_enter Tryd.func32, Tryd.ntmps32
  go_wp2_with fail
  refine (frame_Get.calls k A c L 0 0 [] 0 4 _ HG.out HC.out hc HH.out).mono ?_
  rintro e w1 ⟨v1, rfl, hR1, hb1⟩
  obtain ⟨A1, c1, rfl⟩ := Kd.R_slice hR1
  have r1 := Aside0.mk ((hb1.block w.heap.size (by omega)).trans r0)
  have hs1 := hb1.size
  have hHB1 := Aside0.mk (below_step HB0.out hb1)
  have r2 := Aside0.mk (((below_alloc (Below.refl _ w1) (.cells #[.int .i64 0, .slice A1 0 c1] 72)).block w.heap.size (by omega)).trans r1.out)
  have x0 : (w1.alloc (.cells #[.int .i64 0, .slice A1 0 c1] 72)).cell? ⟨w.heap.size, 0, none⟩ = some (.int .i64 0) := by rw [cell_of_row _ _ _ _ 72 (0, 0) r2.out]; rfl
  have x1 : (w1.alloc (.cells #[.int .i64 0, .slice A1 0 c1] 72)).cell? ⟨w.heap.size, 1, none⟩ = some (.slice none 0 0) := by rw [cell_of_row _ _ _ _ 72 (0, 0) r2.out]; rfl
  have f0 := blk_frozen r2.out 0
  have f1 := blk_frozen r2.out 1
  have hne1 : w.heap.size ≠ w1.heap.size := by omega
  have HB2 := Aside0.mk (below_alloc hHB1.out (.cells #[.int .i64 0, .slice A1 0 c1] 72))
  clear hb1 hR1 r0 sz0 q0 q1 hs1 hHB1
  go_wp2
  refine bodyPost_ret (results_ct rfl _ _ w.heap.size 72 #[.int .i64 0, .slice none 0 0] (0, 0) _ rfl (blk_put (blk_put r2.out 0 (.int .i64 0) rfl) 1 (.slice none 0 0) rfl) Tryd.underlying72 rfl (by kernel_rfl)) rfl ?_
  exact ⟨rfl, below_set (below_set HB2.out (Nat.le_refl _)) (Nat.le_refl _)⟩
set_option maxHeartbeats 2000000 in
theorem st_Next.wrong (ok : Nat → Prop) (b0 p : Nat) (k : Nat) (L : List Int) (x : Int) (hx0 : (x == 0) = false) (hx4 : (x == 4) = false) (v : Value) (w : World) (hG : GT w) (h : Strm ok b0 p L 0 v w) (hg : frame_Get.f k L 0 = some (0, [], 0, x)) (hb0 : b0 ≤ p) (hp : ∀ k, ok k → k ≠ p) (hbs : b0 ≤ w.heap.size) :
    Calls Tryd.prog 32 #[.pointer (some ⟨p, 0, none⟩)] w fun e w' => e = .returned (.tuple #[.agg #[.int .i64 0, .slice none 0 0], .bool false]) ∧ Below b0 w w' ∧ (∀ j, j < w.heap.size → j ≠ p → w'.heap[j]? = w.heap[j]?) ∧ Strm ok b0 p L x v w' := by
  obtain ⟨A, c, rfl, hc, hC⟩ := h.slice
  have hlt := blk_lt h.hP
  have HB0 := Aside0.mk (below_alloc (Below.refl _ w) (.cells #[.int .i64 0, .slice none 0 0] 72))
  have q0 : (w.alloc (.cells #[.int .i64 0, .slice none 0 0] 72)).cell? ⟨p, 0, none⟩ = some (.slice A L.length c) := (HB0.out.cell (p := ⟨p, 0, none⟩) hlt).trans (st_cells h.hP).1
  have q1 : (w.alloc (.cells #[.int .i64 0, .slice none 0 0] 72)).cell? ⟨p, 1, none⟩ = some (.int .i64 0) := (HB0.out.cell (p := ⟨p, 1, none⟩) hlt).trans (st_cells h.hP).2
  have r0 : (w.alloc (.cells #[.int .i64 0, .slice none 0 0] 72)).heap[w.heap.size]? = some (.cells #[.int .i64 0, .slice none 0 0] 72 (0, 0)) := fr_new w _
  have sz0 := fr_size w (.cells #[.int .i64 0, .slice none 0 0] 72)
  have HG := Aside0.mk (hG.alloc (.cells #[.int .i64 0, .slice none 0 0] 72))
  have HC := Aside0.mk (Kd.C_alloc hC (.cells #[.int .i64 0, .slice none 0 0] 72))
  have HH := Aside0.mk hg
  have Hlt := Aside0.mk hlt
  have HP := Aside0.mk h.hP
  have HR := Aside0.mk h.hR
  have Hb0 := Aside0.mk hb0
  have Hp := Aside0.mk hp
  have Hbs := Aside0.mk hbs
  have hne : ((0 : Int) != 0) = false := rfl
  clear h hG hC hlt hg hb0 hp hbs
  go_enter Tryd.func32, Tryd.ntmps32
  go_wp2_with fail
  refine (frame_Get.calls k A c L 0 0 [] 0 x _ HG.out HC.out hc HH.out).mono ?_
  rintro e w1 ⟨v1, rfl, hR1, hb1⟩
  obtain ⟨A1, c1, rfl⟩ := Kd.R_slice hR1
  have r1 := Aside0.mk ((hb1.block w.heap.size (by omega)).trans r0)
  have hs1 := hb1.size
  have hHB1 := Aside0.mk (below_step HB0.out hb1)
  have r2 := Aside0.mk (((below_alloc (Below.refl _ w1) (.cells #[.int .i64 0, .slice A1 0 c1] 72)).block w.heap.size (by omega)).trans r1.out)
  have x0 : (w1.alloc (.cells #[.int .i64 0, .slice A1 0 c1] 72)).cell? ⟨w.heap.size, 0, none⟩ = some (.int .i64 0) := by rw [cell_of_row _ _ _ _ 72 (0, 0) r2.out]; rfl
  have x1 : (w1.alloc (.cells #[.int .i64 0, .slice A1 0 c1] 72)).cell? ⟨w.heap.size, 1, none⟩ = some (.slice none 0 0) := by rw [cell_of_row _ _ _ _ 72 (0, 0) r2.out]; rfl
  have f0 := blk_frozen r2.out 0
  have f1 := blk_frozen r2.out 1
  have hne1 : w.heap.size ≠ w1.heap.size := by omega
  have HB2 := Aside0.mk (below_alloc hHB1.out (.cells #[.int .i64 0, .slice A1 0 c1] 72))
  have p2 := Aside0.mk ((HB2.out.block p Hlt.out).trans HP.out)
  have fp := blk_frozen p2.out 1
  have cp := (st_cells p2.out).2
  have hpw : p ≠ w.heap.size := by have := Hlt.out; omega
  have hwp : w.heap.size ≠ p := hpw.symm
  have Hpw := Aside0.mk hpw
  clear hb1 hR1 r0 sz0 q0 q1 hs1 hHB1
  go_wp2
  have s2 := blk_far r2.out (p := ⟨p, 1, none⟩) (Ne.symm Hpw.out) (.int .i64 x)
  refine bodyPost_ret (results_ct rfl _ _ w.heap.size 72 #[.int .i64 0, .slice none 0 0] (0, 0) _ rfl (blk_put (blk_put s2 0 (.int .i64 0) rfl) 1 (.slice none 0 0) rfl) Tryd.underlying72 rfl (by kernel_rfl)) rfl ?_
  have hk : ∀ j, j < w.heap.size → j ≠ p → ((((w1.alloc (.cells #[.int .i64 0, .slice A1 0 c1] 72)).setCell ⟨p, 1, none⟩ (.int .i64 x)).setCell ⟨w.heap.size, 0, none⟩ (.int .i64 0)).setCell ⟨w.heap.size, 1, none⟩ (.slice none 0 0)).heap[j]? = w.heap[j]? := fun j hj hjp =>
    (Below.heap_setCell _ ⟨w.heap.size, 1, none⟩ _ j (show j ≠ w.heap.size by omega)).trans ((Below.heap_setCell _ ⟨w.heap.size, 0, none⟩ _ j (show j ≠ w.heap.size by omega)).trans ((Below.heap_setCell _ ⟨p, 1, none⟩ _ j hjp).trans (HB2.out.block j hj)))
  exact ⟨rfl, (((HB2.out.mono Hbs.out).setCell (p := ⟨p, 1, none⟩) Hb0.out _).setCell (p := ⟨w.heap.size, 0, none⟩) Hbs.out _).setCell (p := ⟨w.heap.size, 1, none⟩) Hbs.out _, hk,
    blk_far (blk_far (blk_set p2.out 1 (.int .i64 x)) (p := ⟨w.heap.size, 0, none⟩) Hpw.out (.int .i64 0)) (p := ⟨w.heap.size, 1, none⟩) Hpw.out (.slice none 0 0), Kd.R_step HR.out (fun k ho hlt => hk k hlt (Hp.out k ho))⟩
set_option maxHeartbeats 4000000 in
theorem st_Next.got (ok : Nat → Prop) (b0 p : Nat) (k : Nat) (L : List Int) (r1 : Int) (F : List Int) (to_ : Int) (v : Value) (w : World) (hG : GT w) (h : Strm ok b0 p L 0 v w) (hg : frame_Get.f k L 0 = some (r1, F, to_, 0)) (hto0 : 0 ≤ to_) (hto1 : to_ ≤ (L.length : Int))
    (hb0 : b0 ≤ p) (hp : ∀ k, ok k → k ≠ p) (hf : ∀ k, w.heap.size < k → ok k) (hbs : b0 ≤ w.heap.size) (hl : L.length ≤ 140737488355328) :
    Calls Tryd.prog 32 #[.pointer (some ⟨p, 0, none⟩)] w fun e w' => ∃ v1 v' : Value, e = .returned (.tuple #[.agg #[.int .i64 r1, v1], .bool true]) ∧ (Kd.int .u8).R 5 w' w.heap.size (fun _ => True) v1 F ∧ Below b0 w w' ∧ (∀ j, j < w.heap.size → j ≠ p → w'.heap[j]? = w.heap[j]?) ∧ Strm ok b0 p (L.drop to_.toNat) 0 v' w' := by
  obtain ⟨A, c, rfl, hc, hC⟩ := h.slice
  have hlt := blk_lt h.hP
  have HB0 := Aside0.mk (below_alloc (Below.refl _ w) (.cells #[.int .i64 0, .slice none 0 0] 72))
  have q0 : (w.alloc (.cells #[.int .i64 0, .slice none 0 0] 72)).cell? ⟨p, 0, none⟩ = some (.slice A L.length c) := (HB0.out.cell (p := ⟨p, 0, none⟩) hlt).trans (st_cells h.hP).1
  have q1 : (w.alloc (.cells #[.int .i64 0, .slice none 0 0] 72)).cell? ⟨p, 1, none⟩ = some (.int .i64 0) := (HB0.out.cell (p := ⟨p, 1, none⟩) hlt).trans (st_cells h.hP).2
  have r0 : (w.alloc (.cells #[.int .i64 0, .slice none 0 0] 72)).heap[w.heap.size]? = some (.cells #[.int .i64 0, .slice none 0 0] 72 (0, 0)) := fr_new w _
  have sz0 := fr_size w (.cells #[.int .i64 0, .slice none 0 0] 72)
  have HG := Aside0.mk (hG.alloc (.cells #[.int .i64 0, .slice none 0 0] 72))
  have HC := Aside0.mk (Kd.C_alloc hC (.cells #[.int .i64 0, .slice none 0 0] 72))
  have HH := Aside0.mk hg
  have Hlt := Aside0.mk hlt
  have HP := Aside0.mk h.hP
  have HR := Aside0.mk h.hR
  have Hb0 := Aside0.mk hb0
  have Hp := Aside0.mk hp
  have Hf := Aside0.mk hf
  have Hbs := Aside0.mk hbs
  have HL := Aside0.mk hl
  have hne : ((0 : Int) != 0) = false := rfl
  obtain ⟨n3, rfl⟩ : ∃ n3 : Nat, to_ = (n3 : Int) := ⟨to_.toNat, by omega⟩
  have hn3 : n3 ≤ L.length := by omega
  rw [Int.toNat_natCast]
  have HN3 := Aside0.mk hn3
  have HLc := Aside0.mk hc
  have hCD := Kd.C_drop (m := n3) (c := c) hC hn3 hc
  have hcut : ∀ W : World, (Instr.slice 32 (.slice A L.length c) (some (.int .i64 (n3 : Int))) none none).run Tryd.prog W = .ok (.slice (if c = n3 then A else A.map (·.add (n3 * 1))) (L.length - n3) (c - n3)) W := fun W => by
    obtain ⟨i0, hi0, _, hsz0, _⟩ := info_parts info5
    exact cut_from (P := Tryd.prog) 32 5 .i64 Tryd.underlying32 hi0 1 hsz0 A L.length c (n3 : Int) (by omega) (by omega) W
  have hCD2 : Kd.C (Kd.int .u8) w (if c = n3 then A else A.map (·.add (n3 * 1))) (L.length - n3) (L.drop n3) := by
    have e : (L.drop n3).length = L.length - n3 := List.length_drop
    exact e ▸ hCD
  generalize (if c = n3 then A else A.map (·.add (n3 * 1))) = B at hcut hCD2
  generalize L.length - n3 = mb at hcut hCD2
  generalize c - n3 = cb at hcut
  have HCD := Aside0.mk hCD2
  have hmb : mb ≤ 140737488355328 := by have := hCD2.1; rw [List.length_drop] at this; omega
  have HMB := Aside0.mk hmb
  clear h hG hC hlt hg hb0 hp hf hbs hl hto0 hto1 hn3 hCD hCD2 hmb
  go_enter Tryd.func32, Tryd.ntmps32
  go_wp2_with fail
  refine (frame_Get.calls k A c L 0 r1 F (n3 : Int) 0 _ HG.out HC.out HLc.out HH.out).mono ?_
  rintro e w1 ⟨v1, rfl, hR1, hb1⟩
  obtain ⟨A1, c1, rfl⟩ := Kd.R_slice hR1
  generalize F.length = m1 at hR1 ⊢
  have hs1 := hb1.size
  have r1' := Aside0.mk ((hb1.block w.heap.size (by omega)).trans r0)
  have hHB1 := Aside0.mk (below_step HB0.out hb1)
  have HB2 := Aside0.mk (below_alloc hHB1.out (.cells #[.int .i64 r1, .slice A1 m1 c1] 72))
  have hb2 := below_alloc (Below.refl _ w1) (.cells #[.int .i64 r1, .slice A1 m1 c1] 72)
  have r2 := Aside0.mk ((hb2.block w.heap.size (by omega)).trans r1'.out)
  have u2 := Aside0.mk (fr_new w1 (.cells #[.int .i64 r1, .slice A1 m1 c1] 72))
  have p2 := Aside0.mk ((HB2.out.block p Hlt.out).trans HP.out)
  have cp := (st_cells p2.out).1
  have HR2 := Aside0.mk (Kd.R_below hR1 hb2)
  have hsz2 := fr_size w1 (.cells #[.int .i64 r1, .slice A1 m1 c1] 72)
  have hne1 : w.heap.size ≠ w1.heap.size := by omega
  have Hqs := Aside0.mk (show w.heap.size + 1 ≤ w1.heap.size by omega)
  have Hw2 := Aside0.mk hsz2
  clear hb1 hR1 r0 sz0 q0 q1 hs1 hHB1 r1' hb2 hsz2
  go_wp2_with ((with_reducible refine gate_builtin (b := .append) (xs := #[.const (.slice none 0 0), .tmp 39]) rfl ?_); (try (refine gate_guard (by rfl) ?_; dsimp only)); at_builtin; refine Kd.R_append_rows (Kd.int .u8) (w0 := w) w.heap.size rfl (.const (.slice none 0 0)) (.tmp 39) 32 5 (.int .u8 0) 1 rfl Tryd.underlying32 info5 rfl (by decide) (by omega) (.slice none 0 0) ([] : List Int) (L.drop n3) B mb cb (fun k => w1.heap.size + 1 ≤ k) (fun _ => False) rfl rfl ?aO ?aR (fun _ _ h => h) (fun _ h => h.elim) ?aF ?aB ?aS ?aL ?_; (case aR => exact Kd.C_below HCD.out HB2.out); (case aB => exact HB2.out); (case aF => exact fun k hk => by have := Hw2.out; omega); (case aO => exact Kd.R_nil _ _ _ _ _); (case aS => exact HB2.out.size); (case aL => have := HMB.out; simp only [List.length_nil]; omega); intro v5 w5 ho hb5 hg hat; clear hat; rw [List.nil_append] at ho; obtain ⟨A5, c5, rfl⟩ := Kd.R_slice ho; generalize (L.drop n3).length = m5 at ho ⊢; have HO5 := Aside0.mk ho; have HB5 := Aside0.mk hb5; have HG5 := Aside0.mk hg; have hw2 := Hw2.out; have hqs := Hqs.out; have p5 := Aside0.mk ((hg.block p (by have := Hlt.out; omega) (by simp [Value.ownBlock])).trans p2.out); have f7 := blk_frozen p5.out 0; have q5 := (st_cells p5.out).1; have q6 := (st_cells p5.out).2; have u5 := Aside0.mk ((hg.block w1.heap.size (by omega) (by simp [Value.ownBlock])).trans u2.out); have r5 := Aside0.mk ((hg.block w.heap.size (by omega) (by simp [Value.ownBlock])).trans r2.out); have HR5 := Aside0.mk (Kd.R_step HR2.out (fun k _ hk => hg.block k hk (by simp [Value.ownBlock]))); have hz5 := Aside0.mk hg.size; have u6 := Aside0.mk (blk_far u5.out (p := ⟨p, 0, none⟩) (show w1.heap.size ≠ p by have := Hlt.out; omega) (.slice A5 m5 c5)); have r6 := Aside0.mk (blk_far r5.out (p := ⟨p, 0, none⟩) (show w.heap.size ≠ p by have := Hlt.out; omega) (.slice A5 m5 c5)); have s0 : (w5.setCell ⟨p, 0, none⟩ (.slice A5 m5 c5)).cell? ⟨w1.heap.size, 0, none⟩ = some (.int .i64 r1) := (by rw [cell_of_row _ w1.heap.size 0 _ 72 (0, 0) u6.out]; rfl); have s1 : (w5.setCell ⟨p, 0, none⟩ (.slice A5 m5 c5)).cell? ⟨w1.heap.size, 1, none⟩ = some (.slice A1 m1 c1) := (by rw [cell_of_row _ w1.heap.size 1 _ 72 (0, 0) u6.out]; rfl); have t0 : (w5.setCell ⟨p, 0, none⟩ (.slice A5 m5 c5)).cell? ⟨w.heap.size, 0, none⟩ = some (.int .i64 0) := (by rw [cell_of_row _ w.heap.size 0 _ 72 (0, 0) r6.out]; rfl); have t1 : (w5.setCell ⟨p, 0, none⟩ (.slice A5 m5 c5)).cell? ⟨w.heap.size, 1, none⟩ = some (.slice none 0 0) := (by rw [cell_of_row _ w.heap.size 1 _ 72 (0, 0) r6.out]; rfl); have s2 := blk_frozen r6.out 0; have s3 := blk_frozen r6.out 1; clear ho hb5 hg hqs hw2 cp)
  have hlt := Hlt.out
  have hqs := Hqs.out
  have hw2 := Hw2.out
  have hz5' := hz5.out
  have h10 := hqs
  refine bodyPost_ret (results_ct rfl _ _ w.heap.size 72 #[.int .i64 r1, .slice A1 m1 c1] (0, 0) _ rfl (blk_put (blk_put r6.out 0 (.int .i64 r1) rfl) 1 (.slice A1 m1 c1) rfl) Tryd.underlying72 rfl (by kernel_rfl)) rfl ?_
  have hk : ∀ j, j ≠ p → j ≠ w.heap.size → (((w5.setCell ⟨p, 0, none⟩ (.slice A5 m5 c5)).setCell ⟨w.heap.size, 0, none⟩ (.int .i64 r1)).setCell ⟨w.heap.size, 1, none⟩ (.slice A1 m1 c1)).heap[j]? = w5.heap[j]? := fun j hj hj2 =>
    (Below.heap_setCell _ ⟨w.heap.size, 1, none⟩ _ j hj2).trans ((Below.heap_setCell _ ⟨w.heap.size, 0, none⟩ _ j hj2).trans (Below.heap_setCell _ ⟨p, 0, none⟩ _ j hj))
  refine ⟨.slice A1 m1 c1, .slice A5 m5 c5, rfl, ?_, ?_, fun j hj hjp => (hk j hjp (by omega)).trans ((HG5.out.block j (by omega) (by simp [Value.ownBlock])).trans (HB2.out.block j hj)), ?_, ?_⟩
  · have hsz := fr_size w (.cells #[.int .i64 0, .slice none 0 0] 72)
    have h1 := Kd.R_bound HR5.out
    exact Kd.R_lower (Kd.R_mono (Kd.R_step h1 (fun k hk2 _ => hk k (by omega) (by omega))) (fun _ _ => trivial)) (by omega)
  · exact (((HB5.out.mono Hbs.out).setCell (p := ⟨p, 0, none⟩) Hb0.out _).setCell (p := ⟨w.heap.size, 0, none⟩) Hbs.out _).setCell (p := ⟨w.heap.size, 1, none⟩) Hbs.out _
  · have p6 := blk_set p5.out 0 (.slice A5 m5 c5)
    exact blk_far (blk_far p6 (p := ⟨w.heap.size, 0, none⟩) (show p ≠ w.heap.size by omega) (.int .i64 r1)) (p := ⟨w.heap.size, 1, none⟩) (show p ≠ w.heap.size by omega) (.slice A1 m1 c1)
  · exact Kd.R_mono (Kd.R_lower (Kd.R_step HO5.out (fun k hk2 _ => hk k (by omega) (by omega))) Hbs.out) (fun k hk2 => Hf.out k (by omega))
end Go.Proofs.YthehhbfiaaadgaaDoor.P
