/- Chapter 31, MuxRf. -/
import Derived.Test.YthehhbfiaaadgaaDoorPx4
import Derived.Test.YthehhbfiaaadgaaDoorPx7
import Derived.Deep.CutBlock
import Derived.Test.YthehhbfiaaadgaaDoorPx0
import Derived.Test.YthehhbfiaaadgaaDoorMux4
import Derived.Deep.RegionWith
import Derived.Deep.QuietTactic
import Derived.BigQuiet
import Derived.Test.YthehhbfiaaadgaaDoorNumRef
import Derived.Test.YthehhbfiaaadgaaDoorFrameGets
import Derived.Test.YthehhbfiaaadgaaDoorCrcOpenRef
namespace Go.Proofs.YthehhbfiaaadgaaDoor.P
open Go.RowKit Go.Proofs.YthehhbfiaaadgaaDoorW.PrintWords Go.Proofs.YthehhbfiaaadgaaDoorW.PrintLast Go.Proofs.YthehhbfiaaadgaaDoorW.PrintMore
attribute [local go_sem] max2_int min2_int max_two min_two max_three min_three max_four min_four
set_option linter.unusedVariables false
set_option linter.unusedSimpArgs false
theorem u8_M {w : World} {base : Nat} {ok : Nat → Prop} {x : Int} {cs : List Value} : (Kd.int .u8).M w base ok x cs ↔ cs = [.int .u8 x] := Iff.rfl
theorem u8_K {w : World} {x : Int} {cs : List Value} : (Kd.int .u8).K w x cs ↔ cs = [.int .u8 x] := Iff.rfl
theorem u8_reps {R : Int → List Value → Prop} (hR : ∀ x cs, R x cs → cs = [.int .u8 x]) {xs : List Int} {cs : List Value} (h : Reps R 1 xs cs) : cs = xs.map (Value.int .u8) := by
  obtain ⟨h1, h2⟩ := h
  apply List.ext_getElem?
  intro j
  rw [List.getElem?_map]
  by_cases hj : j < xs.length
  · have h3 := hR _ _ (h2 j xs[j] (List.getElem?_eq_getElem hj))
    have h4 : ((cs.drop (j * 1)).take 1)[0]? = some (.int .u8 xs[j]) := by rw [h3]; rfl
    rw [Nat.mul_one, List.getElem?_take, if_pos (by omega), List.getElem?_drop] at h4
    rw [List.getElem?_eq_getElem hj]
    simpa using h4
  · rw [List.getElem?_eq_none (by omega), List.getElem?_eq_none (by omega)]
    rfl
theorem u8_reps_mk {R : Int → List Value → Prop} (hR : ∀ x, R x [.int .u8 x]) (xs : List Int) : Reps R 1 xs (xs.map (Value.int .u8)) := by
  refine ⟨by simp, fun j p hj => ?_⟩
  obtain ⟨h1, rfl⟩ := List.getElem?_eq_some_iff.1 hj
  have e : ((xs.map (Value.int .u8)).drop (j * 1)).take 1 = [.int .u8 xs[j]] := by
    rw [Nat.mul_one, List.drop_eq_getElem_cons (by simpa using h1)]
    simp
  rw [e]
  exact hR _
/-- Bytes behind a row that may begin inside its block. -/
theorem Qrows_run {W : World} (base : Nat) (ty : TypeId) (v : Value) (xs ys : List Int) (A : Option Addr) (m c : Nat) (ok : Nat → Prop) (HO : (Kd.int .u8).Q 5 W base ok v xs) (HC : Kd.C (Kd.int .u8) W A m ys) (hfresh : ∀ k, W.heap.size ≤ k → ok k) (hbase : base ≤ W.heap.size) (hl : xs.length + m ≤ 140737488355328) :
    ∃ v1 w1, (Builtin.append_ #[32, 32] ty #[v, .slice A m c]).run Tryd.prog W = .ok v1 w1 ∧ (Kd.int .u8).Q 5 w1 base ok v1 (xs ++ ys) ∧ W.grownBy w1 v.ownBlock ∧ (v1.ownBlock = v.ownBlock ∨ ∃ b, v1.ownBlock = some b ∧ W.heap.size ≤ b) := by
  obtain ⟨i0, hi, hzz⟩ := Option.map_eq_some_iff.1 info5
  simp only [Prod.mk.injEq] at hzz
  obtain ⟨hz0, hz1, hz2⟩ := hzz
  have hm : ys.length = m := HC.1
  obtain ⟨h0, inner, hown, hr⟩ := HO
  by_cases hm0 : m = 0
  · subst hm0
    obtain rfl : ys = [] := List.eq_nil_of_length_eq_zero hm
    refine ⟨v, W, ?_, by rw [List.append_nil]; exact ⟨h0, inner, hown, hr⟩, World.grownBy.refl W _, .inl rfl⟩
    rcases hown.2 with ⟨hn, A', rfl, _⟩ | ⟨g, off, cap, cur, rfl, _, _, hnc, _⟩
    · cases A <;> cases A' <;> simp [Builtin.append_, run_underlying Tryd.underlying32, sizeOf, typeInfo, hi, Builtin.lenOf, Builtin.firstCells, storeCells, loadCells, loadCellsFrom]
    · cases A <;> simp [Builtin.append_, run_underlying Tryd.underlying32, sizeOf, typeInfo, hi, Builtin.lenOf, Builtin.firstCells, hnc, storeCells, loadCells, loadCellsFrom]
  · obtain ⟨ad, rfl, _⟩ := HC.2.2 (by omega)
    obtain ⟨news, hnr, hnc⟩ := ReadsRow.inner_ HC
    have en : news = ys.map (Value.int .u8) := u8_reps (fun x cs h => h) hnr
    have ei : inner = xs.map (Value.int .u8) := u8_reps (fun x cs h => h) hr
    subst en ei
    obtain ⟨v1, w1, hrun, hq1, hg, hat⟩ := q_append (P := Tryd.prog) W base 32 ty 5 i0 (.int .u8 0) 1 1 Tryd.underlying32 hi hz0 hz1 hz2 rfl (by decide) v xs.length _ hown ad m c _ (by simp [hm]) hnc (fun u hu => by obtain ⟨q, _, rfl⟩ := List.mem_map.1 hu; rfl) (by omega) (by simp only [maxLen]; omega) (by omega) hbase
    refine ⟨v1, w1, hrun, ⟨fun k hk => ?_, (xs ++ ys).map (Value.int .u8), ?_, u8_reps_mk (R := (Kd.int .u8).M w1 base fun k => ok k ∧ some k ≠ v1.ownBlock) (fun x => rfl) _⟩, hg, hat⟩
    · rcases hat with hat | ⟨b, hb, hle⟩
      · exact h0 k (hat ▸ hk)
      · rw [hb] at hk
        injection hk with hk
        exact hfresh k (by omega)
    · rw [List.map_append, List.length_append, hm]
      exact hq1
section
variable {ops : Array Oper} {rest : List Oper} {o : Oper} {a : Act} {Q' : Exit → Act → World → Prop}
theorem Qrows_append {w0 W : World} (base : Nat) (hgd : o.guard = none) (s x : Operand) (ho : o.op = .call { callee := .builtin .append, args := #[s, x], argTypes := #[32, 32] }) (v : Value) (xs ys : List Int) (A : Option Addr) (m c : Nat) (ok : Nat → Prop) (hs : a.eval s = v) (hx : a.eval x = .slice A m c)
    (HO : (Kd.int .u8).Q 5 W base ok v xs) (HC : Kd.C (Kd.int .u8) W A m ys) (hfresh : ∀ k, W.heap.size ≤ k → ok k) (HB : Below base w0 W) (hbase : base ≤ W.heap.size) (hl : xs.length + m ≤ 140737488355328)
    (h : ∀ v1 w1, (Kd.int .u8).Q 5 w1 base ok v1 (xs ++ ys) → Below base w0 w1 → W.grownBy w1 v.ownBlock → (v1.ownBlock = v.ownBlock ∨ ∃ b, v1.ownBlock = some b ∧ W.heap.size ≤ b) → wpList Tryd.prog ops Q' rest (a.put o.dst v1) w1) : wpList Tryd.prog ops Q' (o :: rest) a W := by
  obtain ⟨v1, w1, hr, h1, h3, h4⟩ := Qrows_run base o.type v xs ys A m c ok HO HC hfresh hbase hl
  refine wpList_plain hgd fun K hK => ?_
  unfold Oper.wp execOp
  simp only [ho, resolve, invoke, builtin, Sem.run_bind, Sem.run_pure, Result.andThen_ok, List.map_toArray, List.map_cons, List.map_nil, hs, hx, hr]
  exact hK _ _ (h v1 w1 h1 (HB.grown h3 hbase (fun k hk => Kd.Q_base HO k hk)) h3 h4)
end

theorem rs_cells {w : World} {p : Nat} {v : Value} {e : Int} (h : w.heap[p]? = some (.cells #[v, .int .i64 e] 102 (0, 0))) :
    w.cell? ⟨p, 0, none⟩ = some v ∧ w.cell? ⟨p, 1, none⟩ = some (.int .i64 e) := by
  constructor <;> (rw [cell_of_row w p _ _ 102 (0, 0) h]; rfl)
theorem ref_New.made (w : World) : Calls Tryd.prog 36 #[] w fun e w' => e = .returned (.pointer (some ⟨w.heap.size, 0, none⟩)) ∧ w' = w.alloc (.cells #[.slice none 0 0, .int .i64 0] 102) := by
  go_enter Tryd.func36, Tryd.ntmps36
  go_wp2
  go_ret
  exact ⟨rfl, rfl⟩
theorem rs_Err.at_ (p : Nat) (x : Int) (w : World) (h : w.cell? ⟨p, 1, none⟩ = some (.int .i64 x)) : Calls Tryd.prog 43 #[.pointer (some ⟨p, 0, none⟩)] w fun e w' => e = .returned (.int .i64 x) ∧ w' = w := by
  go_enter Tryd.func43, Tryd.ntmps43
  go_wp2
  go_ret
  exact ⟨rfl, rfl⟩
theorem rs_Feed.off (p : Nat) (x : Int) (B : Option Addr) (n cb : Nat) (w : World) (h : w.cell? ⟨p, 1, none⟩ = some (.int .i64 x)) (hx : (x == 0) = false) :
    Calls Tryd.prog 41 #[.pointer (some ⟨p, 0, none⟩), .slice B n cb] w fun e w' => e = .returned (.tuple #[]) ∧ Below w.heap.size w w' := by
  go_enter Tryd.func41, Tryd.ntmps41
  go_wp2
  all_goals (try go_region)
  all_goals (try go_wp2)
  all_goals refine bodyPost_end (results_none rfl _ _ _) rfl ?_
  all_goals exact ⟨rfl, by first | exact Below.refl _ _ | exact below_drew (Below.refl _ _)⟩

/-- The document's stream in memory: its row may begin inside its block. -/
structure RStrm (ok : Nat → Prop) (b0 p : Nat) (L : List Int) (x : Int) (v : Value) (w : World) : Prop where
  hP : w.heap[p]? = some (.cells #[v, .int .i64 x] 102 (0, 0))
  hR : (Kd.int .u8).Q 5 w b0 ok v L
theorem RStrm.slice {ok : Nat → Prop} {b0 p : Nat} {L : List Int} {x : Int} {v : Value} {w : World} (h : RStrm ok b0 p L x v w) : ∃ A c, v = .slice A L.length c ∧ L.length ≤ c ∧ Kd.C (Kd.int .u8) w A L.length L := Kd.Q_reads h.hR
theorem RStrm.below {ok : Nat → Prop} {b0 p : Nat} {L : List Int} {x : Int} {v : Value} {w w' : World} (h : RStrm ok b0 p L x v w) (hb : Below w.heap.size w w') : RStrm ok b0 p L x v w' :=
  ⟨(hb.block p (blk_lt h.hP)).trans h.hP, Kd.Q_below h.hR hb⟩

set_option maxHeartbeats 2000000 in
theorem rs_Feed.on (ok : Nat → Prop) (b0 p : Nat) (L M : List Int) (v : Value) (B : Option Addr) (cb : Nat) (w : World) (h : RStrm ok b0 p L 0 v w) (hp : ∀ k, ok k → k ≠ p) (hf : ∀ k, w.heap.size ≤ k → ok k) (hb0 : b0 ≤ p) (hC : Kd.C (Kd.int .u8) w B M.length M) (hl : L.length + M.length ≤ 140737488355328) :
    Calls Tryd.prog 41 #[.pointer (some ⟨p, 0, none⟩), .slice B M.length cb] w fun e w' => e = .returned (.tuple #[]) ∧ Below b0 w w' ∧ (∀ j, j < w.heap.size → j ≠ p → v.ownBlock ≠ some j → w'.heap[j]? = w.heap[j]?) ∧ ∃ v', RStrm ok b0 p (L ++ M) 0 v' w' ∧ (v'.ownBlock = v.ownBlock ∨ ∃ b, v'.ownBlock = some b ∧ w.heap.size ≤ b) := by
  obtain ⟨A, c, rfl, _, _⟩ := h.slice
  have HP := Aside0.mk h.hP
  have HR := Aside0.mk h.hR
  have q0 := (rs_cells h.hP).1
  have q1 := (rs_cells h.hP).2
  have hne : p ≠ p → False := fun h => h rfl
  have hlt := blk_lt h.hP
  have Hlt := Aside0.mk hlt
  have HC := Aside0.mk hC
  have HL := Aside0.mk hl
  have Hp := Aside0.mk hp
  have Hf := Aside0.mk hf
  have Hb0 := Aside0.mk hb0
  clear h hC hl hp hf hne hlt hb0
  go_enter Tryd.func41, Tryd.ntmps41
  go_wp2_with ((with_reducible refine gate_builtin (b := .append) (xs := #[.tmp 17, .tmp 18]) rfl ?_); (try (refine gate_guard (by rfl) ?_; dsimp only)); at_builtin; refine Qrows_append (w0 := w) b0 rfl (.tmp 17) (.tmp 18) rfl (.slice A L.length c) L M B M.length cb ok rfl rfl ?aO ?aR ?aF ?aB ?aS ?aL ?_; (case aR => exact HC.out); (case aB => exact Below.refl _ _); (case aF => exact Hf.out); (case aO => exact HR.out); (case aS => exact Nat.le_of_lt (Nat.lt_of_le_of_lt Hb0.out Hlt.out)); (case aL => have := HL.out; omega); intro v5 w5 ho hb5 hg hat; obtain ⟨A5, c5, rfl, _⟩ := Kd.Q_slice ho; have HAT := Aside0.mk hat; clear hat; generalize hm5 : (L ++ M).length = m5 at ho HAT ⊢; replace hm5 := Aside0.mk hm5; have HO5 := Aside0.mk ho; have HB5 := Aside0.mk hb5; have HG5 := Aside0.mk hg; have hP5 := Aside0.mk ((hg.block p Hlt.out (fun e => Hp.out p (HR.out.1 p e.symm) rfl)).trans HP.out); have f7 := blk_frozen hP5.out 0; have q5 := (rs_cells hP5.out).1; have q6 := (rs_cells hP5.out).2; clear ho hb5 hg q0 q1)
  refine bodyPost_end (results_none rfl _ _ _) rfl ?_
  refine ⟨rfl, HB5.out.setCell (p := ⟨p, 0, none⟩) Hb0.out _, fun j hj hjp hjo => (Below.heap_setCell w5 ⟨p, 0, none⟩ _ j hjp).trans (HG5.out.block j hj (fun e => hjo e.symm)), .slice A5 m5 c5, ⟨blk_set hP5.out 0 _, Kd.Q_far HO5.out (p := ⟨p, 0, none⟩) Hp.out _⟩, HAT.out⟩

theorem rs_Next.off (p : Nat) (x : Int) (w : World) (h : w.cell? ⟨p, 1, none⟩ = some (.int .i64 x)) (hx : (x != 0) = true) :
    Calls Tryd.prog 42 #[.pointer (some ⟨p, 0, none⟩)] w fun e w' => e = .returned (.tuple #[.agg #[.int .i64 0, .slice none 0 0], .bool false]) ∧ Below w.heap.size w w' := by
  have hlt := World.block_lt_of_cell? w _ h
  have h1 : (w.alloc (.cells #[.int .i64 0, .slice none 0 0] 85)).cell? ⟨p, 1, none⟩ = some (.int .i64 x) := ((below_alloc (Below.refl _ w) _).cell (p := ⟨p, 1, none⟩) hlt).trans h
  go_enter Tryd.func42, Tryd.ntmps42
  go_wp2
  all_goals (try go_region)
  all_goals (try go_wp2)
  all_goals (try (refine bodyPost_ret (by simp [results, Tryd.results42, go_sem]; try rfl) rfl ?_))
  all_goals exact ⟨rfl, by first | exact below_alloc (Below.refl _ w) _ | exact below_drew (below_alloc (Below.refl _ w) _)⟩
set_option maxHeartbeats 2000000 in
theorem rs_Next.short (ok : Nat → Prop) (b0 p : Nat) (k : Nat) (L : List Int) (v : Value) (w : World) (hG : GT w) (h : RStrm ok b0 p L 0 v w) (hg : remoraref29_Get.f k L 0 = some (0, [], 0, 4)) :
    Calls Tryd.prog 42 #[.pointer (some ⟨p, 0, none⟩)] w fun e w' => e = .returned (.tuple #[.agg #[.int .i64 0, .slice none 0 0], .bool false]) ∧ Below w.heap.size w w' := by
  obtain ⟨A, c, rfl, hc, hC⟩ := h.slice
  have hlt := blk_lt h.hP
  have HB0 := Aside0.mk (below_alloc (Below.refl _ w) (.cells #[.int .i64 0, .slice none 0 0] 85))
  have q0 : (w.alloc (.cells #[.int .i64 0, .slice none 0 0] 85)).cell? ⟨p, 0, none⟩ = some (.slice A L.length c) := (HB0.out.cell (p := ⟨p, 0, none⟩) hlt).trans (rs_cells h.hP).1
  have q1 : (w.alloc (.cells #[.int .i64 0, .slice none 0 0] 85)).cell? ⟨p, 1, none⟩ = some (.int .i64 0) := (HB0.out.cell (p := ⟨p, 1, none⟩) hlt).trans (rs_cells h.hP).2
  have r0 : (w.alloc (.cells #[.int .i64 0, .slice none 0 0] 85)).heap[w.heap.size]? = some (.cells #[.int .i64 0, .slice none 0 0] 85 (0, 0)) := fr_new w _
  have sz0 := fr_size w (.cells #[.int .i64 0, .slice none 0 0] 85)
  have HG := Aside0.mk (hG.alloc (.cells #[.int .i64 0, .slice none 0 0] 85))
  have HC := Aside0.mk (Kd.C_alloc hC (.cells #[.int .i64 0, .slice none 0 0] 85))
  have HH := Aside0.mk hg
  have Hlt := Aside0.mk hlt
  have hne : ((0 : Int) != 0) = false := rfl
  clear h hG hC hlt hg
  go_enter Tryd.func42, Tryd.ntmps42
  go_wp2_with fail
  refine (remoraref29_Get.calls k A c L 0 0 [] 0 4 _ HC.out hc HH.out).mono ?_
  rintro e w1 ⟨v1, rfl, hR1, hb1⟩
  obtain ⟨A1, c1, rfl⟩ := Kd.R_slice hR1
  have r1 := Aside0.mk ((hb1.block w.heap.size (by omega)).trans r0)
  have hs1 := hb1.size
  have hHB1 := Aside0.mk (below_step HB0.out hb1)
  have r2 := Aside0.mk (((below_alloc (Below.refl _ w1) (.cells #[.int .i64 0, .slice A1 0 c1] 85)).block w.heap.size (by omega)).trans r1.out)
  have x0 : (w1.alloc (.cells #[.int .i64 0, .slice A1 0 c1] 85)).cell? ⟨w.heap.size, 0, none⟩ = some (.int .i64 0) := by rw [cell_of_row _ _ _ _ 85 (0, 0) r2.out]; rfl
  have x1 : (w1.alloc (.cells #[.int .i64 0, .slice A1 0 c1] 85)).cell? ⟨w.heap.size, 1, none⟩ = some (.slice none 0 0) := by rw [cell_of_row _ _ _ _ 85 (0, 0) r2.out]; rfl
  have f0 := blk_frozen r2.out 0
  have f1 := blk_frozen r2.out 1
  have hne1 : w.heap.size ≠ w1.heap.size := by omega
  have HB2 := Aside0.mk (below_alloc hHB1.out (.cells #[.int .i64 0, .slice A1 0 c1] 85))
  clear hb1 hR1 r0 sz0 q0 q1 hs1 hHB1
  go_wp2
  refine bodyPost_ret (results_ct rfl _ _ w.heap.size 85 #[.int .i64 0, .slice none 0 0] (0, 0) _ rfl (blk_put (blk_put r2.out 0 (.int .i64 0) rfl) 1 (.slice none 0 0) rfl) Tryd.underlying85 rfl (by kernel_rfl)) rfl ?_
  exact ⟨rfl, below_set (below_set HB2.out (Nat.le_refl _)) (Nat.le_refl _)⟩
set_option maxHeartbeats 2000000 in
theorem rs_Next.wrong (ok : Nat → Prop) (b0 p : Nat) (k : Nat) (L : List Int) (x : Int) (hx0 : (x == 0) = false) (hx4 : (x == 4) = false) (hx5 : (x != 0) = true) (v : Value) (w : World) (hG : GT w) (h : RStrm ok b0 p L 0 v w) (hg : remoraref29_Get.f k L 0 = some (0, [], 0, x)) (hb0 : b0 ≤ p) (hp : ∀ k, ok k → k ≠ p) (hbs : b0 ≤ w.heap.size) :
    Calls Tryd.prog 42 #[.pointer (some ⟨p, 0, none⟩)] w fun e w' => e = .returned (.tuple #[.agg #[.int .i64 0, .slice none 0 0], .bool false]) ∧ Below b0 w w' ∧ (∀ j, j < w.heap.size → j ≠ p → w'.heap[j]? = w.heap[j]?) ∧ RStrm ok b0 p L x v w' := by
  obtain ⟨A, c, rfl, hc, hC⟩ := h.slice
  have hlt := blk_lt h.hP
  have HB0 := Aside0.mk (below_alloc (Below.refl _ w) (.cells #[.int .i64 0, .slice none 0 0] 85))
  have q0 : (w.alloc (.cells #[.int .i64 0, .slice none 0 0] 85)).cell? ⟨p, 0, none⟩ = some (.slice A L.length c) := (HB0.out.cell (p := ⟨p, 0, none⟩) hlt).trans (rs_cells h.hP).1
  have q1 : (w.alloc (.cells #[.int .i64 0, .slice none 0 0] 85)).cell? ⟨p, 1, none⟩ = some (.int .i64 0) := (HB0.out.cell (p := ⟨p, 1, none⟩) hlt).trans (rs_cells h.hP).2
  have r0 : (w.alloc (.cells #[.int .i64 0, .slice none 0 0] 85)).heap[w.heap.size]? = some (.cells #[.int .i64 0, .slice none 0 0] 85 (0, 0)) := fr_new w _
  have sz0 := fr_size w (.cells #[.int .i64 0, .slice none 0 0] 85)
  have HG := Aside0.mk (hG.alloc (.cells #[.int .i64 0, .slice none 0 0] 85))
  have HC := Aside0.mk (Kd.C_alloc hC (.cells #[.int .i64 0, .slice none 0 0] 85))
  have HH := Aside0.mk hg
  have Hlt := Aside0.mk hlt
  have HP := Aside0.mk h.hP
  have HR := Aside0.mk h.hR
  have Hb0 := Aside0.mk hb0
  have Hp := Aside0.mk hp
  have Hbs := Aside0.mk hbs
  have hne : ((0 : Int) != 0) = false := rfl
  clear h hG hC hlt hg hb0 hp hbs
  go_enter Tryd.func42, Tryd.ntmps42
  go_wp2_with fail
  refine (remoraref29_Get.calls k A c L 0 0 [] 0 x _ HC.out hc HH.out).mono ?_
  rintro e w1 ⟨v1, rfl, hR1, hb1⟩
  obtain ⟨A1, c1, rfl⟩ := Kd.R_slice hR1
  have r1 := Aside0.mk ((hb1.block w.heap.size (by omega)).trans r0)
  have hs1 := hb1.size
  have hHB1 := Aside0.mk (below_step HB0.out hb1)
  have r2 := Aside0.mk (((below_alloc (Below.refl _ w1) (.cells #[.int .i64 0, .slice A1 0 c1] 85)).block w.heap.size (by omega)).trans r1.out)
  have x0 : (w1.alloc (.cells #[.int .i64 0, .slice A1 0 c1] 85)).cell? ⟨w.heap.size, 0, none⟩ = some (.int .i64 0) := by rw [cell_of_row _ _ _ _ 85 (0, 0) r2.out]; rfl
  have x1 : (w1.alloc (.cells #[.int .i64 0, .slice A1 0 c1] 85)).cell? ⟨w.heap.size, 1, none⟩ = some (.slice none 0 0) := by rw [cell_of_row _ _ _ _ 85 (0, 0) r2.out]; rfl
  have f0 := blk_frozen r2.out 0
  have f1 := blk_frozen r2.out 1
  have hne1 : w.heap.size ≠ w1.heap.size := by omega
  have HB2 := Aside0.mk (below_alloc hHB1.out (.cells #[.int .i64 0, .slice A1 0 c1] 85))
  have p2 := Aside0.mk ((HB2.out.block p Hlt.out).trans HP.out)
  have fp := blk_frozen p2.out 1
  have cp := (rs_cells p2.out).2
  have hpw : p ≠ w.heap.size := by have := Hlt.out; omega
  have hwp : w.heap.size ≠ p := hpw.symm
  have Hpw := Aside0.mk hpw
  clear hb1 hR1 r0 sz0 q0 q1 hs1 hHB1
  go_wp2
  have s2 := blk_far r2.out (p := ⟨p, 1, none⟩) (Ne.symm Hpw.out) (.int .i64 x)
  refine bodyPost_ret (results_ct rfl _ _ w.heap.size 85 #[.int .i64 0, .slice none 0 0] (0, 0) _ rfl (blk_put (blk_put s2 0 (.int .i64 0) rfl) 1 (.slice none 0 0) rfl) Tryd.underlying85 rfl (by kernel_rfl)) rfl ?_
  have hk : ∀ j, j < w.heap.size → j ≠ p → ((((w1.alloc (.cells #[.int .i64 0, .slice A1 0 c1] 85)).setCell ⟨p, 1, none⟩ (.int .i64 x)).setCell ⟨w.heap.size, 0, none⟩ (.int .i64 0)).setCell ⟨w.heap.size, 1, none⟩ (.slice none 0 0)).heap[j]? = w.heap[j]? := fun j hj hjp =>
    (Below.heap_setCell _ ⟨w.heap.size, 1, none⟩ _ j (show j ≠ w.heap.size by omega)).trans ((Below.heap_setCell _ ⟨w.heap.size, 0, none⟩ _ j (show j ≠ w.heap.size by omega)).trans ((Below.heap_setCell _ ⟨p, 1, none⟩ _ j hjp).trans (HB2.out.block j hj)))
  exact ⟨rfl, (((HB2.out.mono Hbs.out).setCell (p := ⟨p, 1, none⟩) Hb0.out _).setCell (p := ⟨w.heap.size, 0, none⟩) Hbs.out _).setCell (p := ⟨w.heap.size, 1, none⟩) Hbs.out _, hk,
    blk_far (blk_far (blk_set p2.out 1 (.int .i64 x)) (p := ⟨w.heap.size, 0, none⟩) Hpw.out (.int .i64 0)) (p := ⟨w.heap.size, 1, none⟩) Hpw.out (.slice none 0 0), Kd.Q_step HR.out (fun k ho hlt => hk k hlt (Hp.out k ho))⟩

set_option maxHeartbeats 4000000 in
theorem rs_Next.got (ok : Nat → Prop) (b0 p : Nat) (k : Nat) (L : List Int) (r1 : Int) (F : List Int) (to_ : Int) (v : Value) (w : World) (hG : GT w) (h : RStrm ok b0 p L 0 v w) (hg : remoraref29_Get.f k L 0 = some (r1, F, to_, 0)) (hto0 : 0 ≤ to_) (hto1 : to_ ≤ (L.length : Int))
    (hb0 : b0 ≤ p) (hp : ∀ k, ok k → k ≠ p) (hf : ∀ k, w.heap.size < k → ok k) (hbs : b0 ≤ w.heap.size) (hl : L.length ≤ 140737488355328) :
    Calls Tryd.prog 42 #[.pointer (some ⟨p, 0, none⟩)] w fun e w' => ∃ v1 v' : Value, e = .returned (.tuple #[.agg #[.int .i64 r1, v1], .bool true]) ∧ (Kd.int .u8).R 5 w' w.heap.size (fun _ => True) v1 F ∧ Below b0 w w' ∧ (∀ j, j < w.heap.size → j ≠ p → w'.heap[j]? = w.heap[j]?) ∧ RStrm ok b0 p (L.drop to_.toNat) 0 v' w' ∧ v'.ownBlock = v.ownBlock := by
  obtain ⟨A, c, rfl, hc, hC⟩ := h.slice
  have hlt := blk_lt h.hP
  have HB0 := Aside0.mk (below_alloc (Below.refl _ w) (.cells #[.int .i64 0, .slice none 0 0] 85))
  have q0 : (w.alloc (.cells #[.int .i64 0, .slice none 0 0] 85)).cell? ⟨p, 0, none⟩ = some (.slice A L.length c) := (HB0.out.cell (p := ⟨p, 0, none⟩) hlt).trans (rs_cells h.hP).1
  have q1 : (w.alloc (.cells #[.int .i64 0, .slice none 0 0] 85)).cell? ⟨p, 1, none⟩ = some (.int .i64 0) := (HB0.out.cell (p := ⟨p, 1, none⟩) hlt).trans (rs_cells h.hP).2
  have r0 : (w.alloc (.cells #[.int .i64 0, .slice none 0 0] 85)).heap[w.heap.size]? = some (.cells #[.int .i64 0, .slice none 0 0] 85 (0, 0)) := fr_new w _
  have sz0 := fr_size w (.cells #[.int .i64 0, .slice none 0 0] 85)
  have HG := Aside0.mk (hG.alloc (.cells #[.int .i64 0, .slice none 0 0] 85))
  have HC := Aside0.mk (Kd.C_alloc hC (.cells #[.int .i64 0, .slice none 0 0] 85))
  have HH := Aside0.mk hg
  have Hlt := Aside0.mk hlt
  have HP := Aside0.mk h.hP
  have HR := Aside0.mk h.hR
  have Hb0 := Aside0.mk hb0
  have Hp := Aside0.mk hp
  have Hf := Aside0.mk hf
  have Hbs := Aside0.mk hbs
  have HL := Aside0.mk hl
  have hne : ((0 : Int) != 0) = false := rfl
  obtain ⟨n3, rfl⟩ : ∃ n3 : Nat, to_ = (n3 : Int) := ⟨to_.toNat, by omega⟩
  have hn3 : n3 ≤ L.length := by omega
  rw [Int.toNat_natCast]
  have HN3 := Aside0.mk hn3
  have HLc := Aside0.mk hc
  have hcut : ∀ W : World, (Instr.slice 32 (.slice A L.length c) (some (.int .i64 (n3 : Int))) none none).run Tryd.prog W = .ok (.slice (if c = n3 then A else A.map (·.add (n3 * 1))) (L.length - n3) (c - n3)) W := fun W => by
    obtain ⟨i0, hi0, _, hsz0, _⟩ := info_parts info5
    exact cut_from (P := Tryd.prog) 32 5 .i64 Tryd.underlying32 hi0 1 hsz0 A L.length c (n3 : Int) (by omega) (by omega) W
  have hQD : (Kd.int .u8).Q 5 w b0 ok (.slice (if c = n3 then A else A.map (·.add (n3 * 1))) (L.length - n3) (c - n3)) (L.drop n3) := Kd.Q_drop HR.out hn3
  have hob : (Value.slice (if c = n3 then A else A.map (·.add (n3 * 1))) (L.length - n3) (c - n3)).ownBlock = (Value.slice A L.length c).ownBlock := by
    have e : ∀ (ad : Addr) (m : Nat), (ad.add m).block = ad.block := fun ad m => by unfold Addr.add; split <;> rfl
    cases A <;> split <;> simp [Value.ownBlock, e]
  generalize (if c = n3 then A else A.map (·.add (n3 * 1))) = B at hcut hQD hob
  generalize L.length - n3 = mb at hcut hQD hob
  generalize c - n3 = cb at hcut hQD hob
  have HQD := Aside0.mk hQD
  have HOB := Aside0.mk hob
  clear h hG hC hlt hg hb0 hp hf hbs hl hto0 hto1 hn3 hQD hob
  go_enter Tryd.func42, Tryd.ntmps42
  go_wp2_with fail
  refine (remoraref29_Get.calls k A c L 0 r1 F (n3 : Int) 0 _ HC.out HLc.out HH.out).mono ?_
  rintro e w1 ⟨v1, rfl, hR1, hb1⟩
  obtain ⟨A1, c1, rfl⟩ := Kd.R_slice hR1
  generalize F.length = m1 at hR1 ⊢
  have hs1 := hb1.size
  have r1' := Aside0.mk ((hb1.block w.heap.size (by omega)).trans r0)
  have hHB1 := Aside0.mk (below_step HB0.out hb1)
  have HB2 := Aside0.mk (below_alloc hHB1.out (.cells #[.int .i64 r1, .slice A1 m1 c1] 85))
  have hb2 := below_alloc (Below.refl _ w1) (.cells #[.int .i64 r1, .slice A1 m1 c1] 85)
  have r2 := Aside0.mk ((hb2.block w.heap.size (by omega)).trans r1'.out)
  have u2 := Aside0.mk (fr_new w1 (.cells #[.int .i64 r1, .slice A1 m1 c1] 85))
  have p2 := Aside0.mk ((HB2.out.block p Hlt.out).trans HP.out)
  have cp := (rs_cells p2.out).1
  have HR2 := Aside0.mk (Kd.R_below hR1 hb2)
  have hsz2 := fr_size w1 (.cells #[.int .i64 r1, .slice A1 m1 c1] 85)
  have hne1 : w.heap.size ≠ w1.heap.size := by omega
  have Hqs := Aside0.mk (show w.heap.size + 1 ≤ w1.heap.size by omega)
  have Hw2 := Aside0.mk hsz2
  clear hb1 hR1 r0 sz0 q0 q1 hs1 hHB1 r1' hb2 hsz2
  have hlt := Hlt.out
  have hqs := Hqs.out
  have hw2 := Hw2.out
  have hpq1 : w1.heap.size ≠ p := by omega
  have hpq2 : w.heap.size ≠ p := by omega
  have fp := blk_frozen p2.out 0
  have u6 := Aside0.mk (blk_far u2.out (p := ⟨p, 0, none⟩) hpq1 (.slice B mb cb))
  have r6 := Aside0.mk (blk_far r2.out (p := ⟨p, 0, none⟩) hpq2 (.slice B mb cb))
  have s0 : ((w1.alloc (.cells #[.int .i64 r1, .slice A1 m1 c1] 85)).setCell ⟨p, 0, none⟩ (.slice B mb cb)).cell? ⟨w1.heap.size, 0, none⟩ = some (.int .i64 r1) := by rw [cell_of_row _ w1.heap.size 0 _ 85 (0, 0) u6.out]; rfl
  have s1 : ((w1.alloc (.cells #[.int .i64 r1, .slice A1 m1 c1] 85)).setCell ⟨p, 0, none⟩ (.slice B mb cb)).cell? ⟨w1.heap.size, 1, none⟩ = some (.slice A1 m1 c1) := by rw [cell_of_row _ w1.heap.size 1 _ 85 (0, 0) u6.out]; rfl
  have t0 : ((w1.alloc (.cells #[.int .i64 r1, .slice A1 m1 c1] 85)).setCell ⟨p, 0, none⟩ (.slice B mb cb)).cell? ⟨w.heap.size, 0, none⟩ = some (.int .i64 0) := by rw [cell_of_row _ w.heap.size 0 _ 85 (0, 0) r6.out]; rfl
  have t1 : ((w1.alloc (.cells #[.int .i64 r1, .slice A1 m1 c1] 85)).setCell ⟨p, 0, none⟩ (.slice B mb cb)).cell? ⟨w.heap.size, 1, none⟩ = some (.slice none 0 0) := by rw [cell_of_row _ w.heap.size 1 _ 85 (0, 0) r6.out]; rfl
  have s2 := blk_frozen r6.out 0
  have s3 := blk_frozen r6.out 1
  clear hlt hqs hw2 hpq1 hpq2
  go_wp2
  have hlt := Hlt.out
  have hqs := Hqs.out
  have hw2 := Hw2.out
  refine bodyPost_ret (results_ct rfl _ _ w.heap.size 85 #[.int .i64 r1, .slice A1 m1 c1] (0, 0) _ rfl (blk_put (blk_put r6.out 0 (.int .i64 r1) rfl) 1 (.slice A1 m1 c1) rfl) Tryd.underlying85 rfl (by kernel_rfl)) rfl ?_
  have hk : ∀ j, j ≠ p → j ≠ w.heap.size → ((((w1.alloc (.cells #[.int .i64 r1, .slice A1 m1 c1] 85)).setCell ⟨p, 0, none⟩ (.slice B mb cb)).setCell ⟨w.heap.size, 0, none⟩ (.int .i64 r1)).setCell ⟨w.heap.size, 1, none⟩ (.slice A1 m1 c1)).heap[j]? = (w1.alloc (.cells #[.int .i64 r1, .slice A1 m1 c1] 85)).heap[j]? := fun j hj hj2 =>
    (Below.heap_setCell _ ⟨w.heap.size, 1, none⟩ _ j hj2).trans ((Below.heap_setCell _ ⟨w.heap.size, 0, none⟩ _ j hj2).trans (Below.heap_setCell _ ⟨p, 0, none⟩ _ j hj))
  refine ⟨.slice A1 m1 c1, .slice B mb cb, rfl, ?_, ?_, fun j hj hjp => (hk j hjp (by omega)).trans (HB2.out.block j hj), ⟨?_, ?_⟩, HOB.out⟩
  · have hsz := fr_size w (.cells #[.int .i64 0, .slice none 0 0] 85)
    have h1 := Kd.R_bound HR2.out
    exact Kd.R_lower (Kd.R_mono (Kd.R_step h1 (fun k hk2 _ => hk k (by omega) (by omega))) (fun _ _ => trivial)) (by omega)
  · exact (((HB2.out.mono Hbs.out).setCell (p := ⟨p, 0, none⟩) Hb0.out _).setCell (p := ⟨w.heap.size, 0, none⟩) Hbs.out _).setCell (p := ⟨w.heap.size, 1, none⟩) Hbs.out _
  · exact blk_far (blk_far (blk_set p2.out 0 (.slice B mb cb)) (p := ⟨w.heap.size, 0, none⟩) (show p ≠ w.heap.size by omega) (.int .i64 r1)) (p := ⟨w.heap.size, 1, none⟩) (show p ≠ w.heap.size by omega) (.slice A1 m1 c1)
  · exact Kd.Q_step HQD.out (fun k hk2 hk3 => (hk k (Hp.out k hk2) (by omega)).trans (HB2.out.block k hk3))
/-- The document's mux in memory: at p its six cells, at g its eight channels, at q its stream; vs: its eighteen rows, which share nothing. -/
def rmCells (g q : Nat) (vs : Nat → Value) (M : Mx) : Array Value := #[.int .i64 M.win, .slice (some ⟨g, 0, none⟩) 8 8, vs 16, .pointer (some ⟨q, 0, none⟩), .int .i64 ((M.last + 1) % 8), .int .i64 M.e]
structure Rm (b0 p g q : Nat) (vs : Nat → Value) (M : Mx) (w : World) : Prop where
  hP : w.heap[p]? = some (.cells (rmCells g q vs M) 81 (0, 0))
  hC : ∃ cs : Array Value, w.heap[g]? = some (.cells cs 84 (0, 0)) ∧ cs.size = 40 ∧ ∀ i, i < 8 → cs[i * 5]? = some (vs i) ∧ cs[i * 5 + 1]? = some (.int .i64 (M.way i)) ∧ cs[i * 5 + 2]? = some (vs (8 + i)) ∧ cs[i * 5 + 3]? = some (.int .i64 (M.back i)) ∧ cs[i * 5 + 4]? = some (.int .i64 (M.owed i))
  hQ : w.heap[q]? = some (.cells #[vs 17, .int .i64 M.x] 102 (0, 0))
  hT : ∀ j, j < 17 → Tb w b0 (vs j) (M.row j)
  hS : Kd.Q (Kd.int .u8) 5 w b0 (fun _ => True) (vs 17) M.L
  apart : ∀ i j, i < 18 → j < 18 → i ≠ j → ∀ k, (vs i).ownBlock = some k → (vs j).ownBlock ≠ some k
  hp0 : b0 ≤ p
  hg0 : b0 ≤ g
  hq0 : b0 ≤ q
theorem Rm.below {b0 p g q : Nat} {vs : Nat → Value} {M : Mx} {w w' : World} (h : Rm b0 p g q vs M w) (hb : Below w.heap.size w w') : Rm b0 p g q vs M w' := by
  obtain ⟨cs, hcs, hrest⟩ := h.hC
  exact ⟨blk_below h.hP hb, ⟨cs, blk_below hcs hb, hrest⟩, blk_below h.hQ hb, fun j hj => (h.hT j hj).kept (fun k hk => hb.block k ((h.hT j hj).lt k hk)), Kd.Q_below h.hS hb, h.apart, h.hp0, h.hg0, h.hq0⟩
theorem Rm.cells {b0 p g q : Nat} {vs : Nat → Value} {M : Mx} {w : World} (h : Rm b0 p g q vs M w) : w.cell? ⟨p, 0, none⟩ = some (.int .i64 M.win) ∧ w.cell? ⟨p, 1, none⟩ = some (.slice (some ⟨g, 0, none⟩) 8 8) ∧ w.cell? ⟨p, 2, none⟩ = some (vs 16) ∧ w.cell? ⟨p, 3, none⟩ = some (.pointer (some ⟨q, 0, none⟩)) ∧ w.cell? ⟨p, 4, none⟩ = some (.int .i64 ((M.last + 1) % 8)) ∧ w.cell? ⟨p, 5, none⟩ = some (.int .i64 M.e) :=
  ⟨blk_cell h.hP 0, blk_cell h.hP 1, blk_cell h.hP 2, blk_cell h.hP 3, blk_cell h.hP 4, blk_cell h.hP 5⟩
theorem Rm.chan {b0 p g q : Nat} {vs : Nat → Value} {M : Mx} {w : World} (h : Rm b0 p g q vs M w) (i : Nat) (hi : i < 8) : w.cell? ⟨g, i * 5, none⟩ = some (vs i) ∧ w.cell? ⟨g, i * 5 + 1, none⟩ = some (.int .i64 (M.way i)) ∧ w.cell? ⟨g, i * 5 + 2, none⟩ = some (vs (8 + i)) ∧ w.cell? ⟨g, i * 5 + 3, none⟩ = some (.int .i64 (M.back i)) ∧ w.cell? ⟨g, i * 5 + 4, none⟩ = some (.int .i64 (M.owed i)) := by
  obtain ⟨cs, hcs, _, h0⟩ := h.hC
  obtain ⟨a, b, c, d, e⟩ := h0 i hi
  exact ⟨(blk_cell hcs _).trans a, (blk_cell hcs _).trans b, (blk_cell hcs _).trans c, (blk_cell hcs _).trans d, (blk_cell hcs _).trans e⟩
/-- Its blocks. -/
def Rf (p g q : Nat) (vs : Nat → Value) (k : Nat) : Prop := k = p ∨ k = g ∨ k = q ∨ ∃ i, i < 18 ∧ (vs i).ownBlock = some k
theorem Rm.foot {b0 p g q : Nat} {vs : Nat → Value} {M : Mx} {w : World} (h : Rm b0 p g q vs M w) (k : Nat) (hk : Rf p g q vs k) : b0 ≤ k ∧ k < w.heap.size := by
  obtain ⟨cs, hcs, _⟩ := h.hC
  rcases hk with rfl | rfl | rfl | ⟨i, hi, hk⟩
  · exact ⟨h.hp0, blk_lt h.hP⟩
  · exact ⟨h.hg0, blk_lt hcs⟩
  · exact ⟨h.hq0, blk_lt h.hQ⟩
  · rcases Nat.lt_or_ge i 17 with h17 | h17
    · exact ⟨(h.hT i h17).base k hk, (h.hT i h17).lt k hk⟩
    · have : i = 17 := by omega
      subst this
      exact ⟨Kd.Q_base h.hS k hk, Kd.Q_lt h.hS k hk⟩
theorem Rm.kept {b0 p g q : Nat} {vs : Nat → Value} {M : Mx} {w w' : World} (h : Rm b0 p g q vs M w) (hb : ∀ k, Rf p g q vs k → w'.heap[k]? = w.heap[k]?) : Rm b0 p g q vs M w' := by
  obtain ⟨cs, hcs, hrest⟩ := h.hC
  refine ⟨(hb p (.inl rfl)).trans h.hP, ⟨cs, (hb g (.inr (.inl rfl))).trans hcs, hrest⟩, (hb q (.inr (.inr (.inl rfl)))).trans h.hQ, fun j hj => (h.hT j hj).kept (fun k hk => hb k (.inr (.inr (.inr ⟨j, by omega, hk⟩)))), ?_, h.apart, h.hp0, h.hg0, h.hq0⟩
  exact Kd.Q_mono (Kd.Q_step (Kd.Q_tight rfl h.hS) (fun k hk _ => hb k (.inr (.inr (.inr ⟨17, by omega, hk.symm⟩))))) (fun _ _ => trivial)
theorem Rm.past {b0 p g q : Nat} {vs : Nat → Value} {M : Mx} {w w' : World} {F G : Nat → Prop} (h : Rm b0 p g q vs M w) (hs : Stp F G w w') (hd : ∀ k, Rf p g q vs k → ¬ F k) : Rm b0 p g q vs M w' := h.kept (fun k hk => hs.block k (h.foot k hk).2 (hd k hk))
theorem Rm.lower {b0 b1 p g q : Nat} {vs : Nat → Value} {M : Mx} {w : World} (h : Rm b1 p g q vs M w) (hb : b0 ≤ b1) : Rm b0 p g q vs M w :=
  ⟨h.hP, h.hC, h.hQ, fun j hj => ⟨(h.hT j hj).1.lower hb, (h.hT j hj).2⟩, Kd.Q_lower h.hS hb, h.apart, Nat.le_trans hb h.hp0, Nat.le_trans hb h.hg0, Nat.le_trans hb h.hq0⟩
theorem Rm.ne {b0 p g q : Nat} {vs : Nat → Value} {M : Mx} {w : World} (h : Rm b0 p g q vs M w) : p ≠ g ∧ p ≠ q ∧ g ≠ q := by
  obtain ⟨cs, hcs, _⟩ := h.hC
  have hp := h.hP
  have hq := h.hQ
  refine ⟨fun e => ?_, fun e => ?_, fun e => ?_⟩
  · subst e
    rw [hp] at hcs
    cases hcs
  · subst e
    rw [hp] at hq
    injection hq with hq
    injection hq with h1 h2 h3
    exact absurd h2 (by decide)
  · subst e
    rw [hcs] at hq
    injection hq with hq
    injection hq with h1 h2 h3
    exact absurd h2 (by decide)
theorem ref_Err.at_ {b0 p g q : Nat} {vs : Nat → Value} {M : Mx} (w : World) (h : Rm b0 p g q vs M w) : Calls Tryd.prog 27 #[.pointer (some ⟨p, 0, none⟩)] w fun e w' => e = .returned (.int .i64 M.e) ∧ w' = w := by
  obtain ⟨_, _, _, _, _, c5⟩ := h.cells
  clear h
  go_enter Tryd.func27, Tryd.ntmps27
  go_wp2
  go_ret
  exact ⟨rfl, rfl⟩
theorem chan_make (W : World) : (Instr.makeSlice 77 (.int .i64 8) (.int .i64 8)).run Tryd.prog W = .ok (.slice (some ⟨W.heap.size, 0, none⟩) 8 8) (W.alloc (.cells (madeCells #[.slice none 0 0, .int .i64 0, .slice none 0 0, .int .i64 0, .int .i64 0] 40) 84)) := by
  have h : (Tryd.prog.info? 84).map (fun i => (i.zero, i.size, decide (i.bytes ≤ 1000))) = some (some (.agg #[.slice none 0 0, .int .i64 0, .slice none 0 0, .int .i64 0, .int .i64 0]), 5, true) := by kernel_rfl
  obtain ⟨i, hi, hz⟩ := Option.map_eq_some_iff.1 h
  simp only [Prod.mk.injEq] at hz
  obtain ⟨h1, h2, h3⟩ := hz
  have h3 := of_decide_eq_true h3
  have := run_makeSlice (P := Tryd.prog) (w := W) 77 84 i _ Tryd.underlying77 hi h1 .i64 .i64 8 8 (by omega) (by omega) (by rw [h2]; decide) (by omega) (by omega)
  rw [h2] at this
  exact this
theorem made_at (z : Array Value) (n i : Nat) (h : i < n) : (madeCells z n)[i]? = some (z[i % z.size]!) := by unfold madeCells; simp [h]
theorem rm_mk (win : Int) (b0 p g q : Nat) (W : World) (hP : W.heap[p]? = some (.cells #[.int .i64 win, .slice (some ⟨g, 0, none⟩) 8 8, .slice none 0 0, .pointer (some ⟨q, 0, none⟩), .int .i64 0, .int .i64 0] 81 (0, 0)))
    (hC : W.heap[g]? = some (.cells (madeCells #[.slice none 0 0, .int .i64 0, .slice none 0 0, .int .i64 0, .int .i64 0] 40) 84 (0, 0)))
    (hQ : W.heap[q]? = some (.cells #[.slice none 0 0, .int .i64 0] 102 (0, 0))) (hp : b0 ≤ p) (hg : b0 ≤ g) (hq : b0 ≤ q) : Rm b0 p g q (fun _ => .slice none 0 0) (Mx.new win) W := by
  refine ⟨hP, ⟨_, hC, size_madeCells _ _, fun i hi => ?_⟩, hQ, fun j hj => ?_, Kd.Q_nil _ _ _ _ _, fun i j _ _ _ k hk => (by cases hk), hp, hg, hq⟩
  · have : i = 0 ∨ i = 1 ∨ i = 2 ∨ i = 3 ∨ i = 4 ∨ i = 5 ∨ i = 6 ∨ i = 7 := by omega
    rcases this with rfl | rfl | rfl | rfl | rfl | rfl | rfl | rfl <;> exact ⟨made_at _ _ _ (by omega), made_at _ _ _ (by omega), made_at _ _ _ (by omega), made_at _ _ _ (by omega), made_at _ _ _ (by omega)⟩
  · have : (Mx.new win).row j = [] := by unfold Mx.row Mx.new; dsimp only; split <;> (try split) <;> rfl
    rw [this]
    exact Tb.nil _ _
theorem three_blocks (w W : World) (hs : W.heap.size = w.heap.size) (a b c : Array Value) (ta tb tc : TypeId) : (((W.alloc (.cells a ta)).alloc (.cells b tb)).alloc (.cells c tc)).heap[w.heap.size]? = some (.cells a ta (0, 0)) ∧ (((W.alloc (.cells a ta)).alloc (.cells b tb)).alloc (.cells c tc)).heap[w.heap.size + 1]? = some (.cells b tb (0, 0)) ∧ (((W.alloc (.cells a ta)).alloc (.cells b tb)).alloc (.cells c tc)).heap[w.heap.size + 1 + 1]? = some (.cells c tc (0, 0)) := by
  have h1 := blk_new W (.cells a ta)
  have h2 := blk_new (W.alloc (.cells a ta)) (.cells b tb)
  have h3 := blk_new ((W.alloc (.cells a ta)).alloc (.cells b tb)) (.cells c tc)
  have s1 : (W.alloc (.cells a ta)).heap.size = w.heap.size + 1 := by simp [hs]
  have s2 : ((W.alloc (.cells a ta)).alloc (.cells b tb)).heap.size = w.heap.size + 1 + 1 := by simp [hs]
  rw [hs] at h1
  rw [s1] at h2
  rw [s2] at h3
  exact ⟨blk_below (blk_below h1 (below_alloc (Below.refl _ _) _)) (below_alloc (Below.refl _ _) _), blk_below h2 (below_alloc (Below.refl _ _) _), h3⟩
set_option maxHeartbeats 4000000 in
set_option maxRecDepth 100000 in
theorem ref31_New.at_ (win : Int) (w : World) (h1 : decide (win < 1) = false) (h2 : decide (win > 65536) = false) : Calls Tryd.prog 21 #[.int .i64 win] w fun e w' => ∃ p g q, e = .returned (.tuple #[.pointer (some ⟨p, 0, none⟩), .int .i64 0]) ∧ Rm w.heap.size p g q (fun _ => .slice none 0 0) (Mx.new win) w' ∧ Below w.heap.size w w' := by
  have h3 : decide (65536 < win) = false := h2
  have hmk := chan_make
  go_enter Tryd.func21, Tryd.ntmps21
  go_wp2_with fail
  go_region_with (refine (ref_New.made _).mono ?_; rintro e w1 ⟨rfl, rfl⟩)
  all_goals go_wp2
  all_goals go_ret2
  · obtain ⟨x1, x2, x3⟩ := three_blocks w w rfl (madeCells #[.slice none 0 0, .int .i64 0, .slice none 0 0, .int .i64 0, .int .i64 0] 40) #[.slice none 0 0, .int .i64 0] #[.int .i64 win, .slice (some ⟨w.heap.size, 0, none⟩) 8 8, .slice none 0 0, .pointer (some ⟨w.heap.size + 1, 0, none⟩), .int .i64 0, .int .i64 0] 84 102 81
    exact ⟨_, _, _, rfl, rm_mk win _ _ _ _ _ x3 x1 x2 (by omega) (by omega) (by omega), below_alloc (below_alloc (below_alloc (below_drew (Below.refl _ _)) _) _) _⟩
  · obtain ⟨x1, x2, x3⟩ := three_blocks w w rfl #[.slice none 0 0, .int .i64 0] (madeCells #[.slice none 0 0, .int .i64 0, .slice none 0 0, .int .i64 0, .int .i64 0] 40) #[.int .i64 win, .slice (some ⟨w.heap.size + 1, 0, none⟩) 8 8, .slice none 0 0, .pointer (some ⟨w.heap.size, 0, none⟩), .int .i64 0, .int .i64 0] 102 84 81
    exact ⟨_, _, _, rfl, rm_mk win _ _ _ _ _ x3 x2 x1 (by omega) (by omega) (by omega), below_alloc (below_alloc (below_alloc (below_drew (Below.refl _ _)) _) _) _⟩
theorem cells_ty {w : World} {a b : Nat} {ca cb : Array Value} {ta tb : TypeId} (ha : w.heap[a]? = some (.cells ca ta (0, 0))) (hb : w.heap[b]? = some (.cells cb tb (0, 0))) (ht : ta ≠ tb) : a ≠ b := by
  rintro rfl
  rw [ha] at hb
  injection hb with hb
  injection hb with _ hb
  exact ht hb
theorem Rm.row_ty {b0 p g q : Nat} {vs : Nat → Value} {M : Mx} {w : World} (h : Rm b0 p g q vs M w) (j : Nat) (hj : j < 18) (k : Nat) (hk : (vs j).ownBlock = some k) : ∃ cs, w.heap[k]? = some (.cells cs 5 (0, 0)) := by
  rcases Nat.lt_or_ge j 17 with h17 | h17
  · exact (h.hT j h17).ty k hk
  · have : j = 17 := by omega
    subst this
    exact Kd.Q_typed h.hS k hk
theorem Rm.row_ne {b0 p g q : Nat} {vs : Nat → Value} {M : Mx} {w : World} (h : Rm b0 p g q vs M w) (j : Nat) (hj : j < 18) (k : Nat) (hk : (vs j).ownBlock = some k) : k ≠ p ∧ k ≠ g ∧ k ≠ q := by
  obtain ⟨cs, hcs⟩ := h.row_ty j hj k hk
  obtain ⟨cg, hcg, _⟩ := h.hC
  exact ⟨cells_ty hcs h.hP (by decide), cells_ty hcs hcg (by decide), cells_ty hcs h.hQ (by decide)⟩
theorem Rm.row_lt {b0 p g q : Nat} {vs : Nat → Value} {M : Mx} {w : World} (h : Rm b0 p g q vs M w) (j : Nat) (hj : j < 18) (k : Nat) (hk : (vs j).ownBlock = some k) : k < w.heap.size := by
  obtain ⟨cs, hcs⟩ := h.row_ty j hj k hk
  exact blk_lt hcs
def Mx.plain (M : Mx) (ch r : Nat) (u : Int) : Mx := if r = 1 then { M with way := upd M.way ch u } else if r = 3 then { M with back := upd M.back ch u } else { M with owed := upd M.owed ch u }
/-- A plain cell of a channel is stored. -/
theorem Rm.putC {b0 p g q : Nat} {vs : Nat → Value} {M : Mx} {w : World} (h : Rm b0 p g q vs M w) (ch : Nat) (hch : ch < 8) (r : Nat) (hr : r = 1 ∨ r = 3 ∨ r = 4) (u : Int) : Rm b0 p g q vs (M.plain ch r u) (w.setCell ⟨g, ch * 5 + r, none⟩ (.int .i64 u)) := by
  obtain ⟨cs, hcs, hsz, hc⟩ := h.hC
  obtain ⟨n1, n2, n3⟩ := h.ne
  have gg : ∀ j, (cs.setIfInBounds (ch * 5 + r) (.int .i64 u))[j]? = if ch * 5 + r = j then some (.int .i64 u) else cs[j]? := fun j => set_get (by omega)
  have far : ∀ k, k ≠ g → (w.setCell ⟨g, ch * 5 + r, none⟩ (.int .i64 u)).heap[k]? = w.heap[k]? := fun k hk => Below.heap_setCell w ⟨g, _, none⟩ _ k hk
  have e : (M.plain ch r u).win = M.win ∧ (M.plain ch r u).last = M.last ∧ (M.plain ch r u).e = M.e ∧ (M.plain ch r u).x = M.x ∧ (M.plain ch r u).L = M.L ∧ (M.plain ch r u).row = M.row := by
    unfold Mx.plain
    split
    · exact ⟨rfl, rfl, rfl, rfl, rfl, rfl⟩
    · split <;> exact ⟨rfl, rfl, rfl, rfl, rfl, rfl⟩
  obtain ⟨e1, e2, e3, e4, e5, e6⟩ := e
  refine ⟨?_, ⟨_, blk_set hcs _ _, by simp [hsz], fun i hi => ?_⟩, ?_, fun j hj => ?_, ?_, h.apart, h.hp0, h.hg0, h.hq0⟩
  · have : rmCells g q vs (M.plain ch r u) = rmCells g q vs M := by unfold rmCells; rw [e1, e2, e3]
    rw [this]
    exact (far p n1).trans h.hP
  · obtain ⟨a, b, c, d, f⟩ := hc i hi
    rcases hr with rfl | rfl | rfl
    · refine ⟨by rw [gg, if_neg (by omega)]; exact a, ?_, by rw [gg, if_neg (by omega)]; exact c, by rw [gg, if_neg (by omega)]; exact d, by rw [gg, if_neg (by omega)]; exact f⟩
      show _ = some (Value.int .i64 (upd M.way ch u i))
      unfold upd
      by_cases hic : i = ch
      · rw [gg, if_pos (by omega), if_pos hic]
      · rw [gg, if_neg (by omega), if_neg hic]; exact b
    · refine ⟨by rw [gg, if_neg (by omega)]; exact a, by rw [gg, if_neg (by omega)]; exact b, by rw [gg, if_neg (by omega)]; exact c, ?_, by rw [gg, if_neg (by omega)]; exact f⟩
      show _ = some (Value.int .i64 (upd M.back ch u i))
      unfold upd
      by_cases hic : i = ch
      · rw [gg, if_pos (by omega), if_pos hic]
      · rw [gg, if_neg (by omega), if_neg hic]; exact d
    · refine ⟨by rw [gg, if_neg (by omega)]; exact a, by rw [gg, if_neg (by omega)]; exact b, by rw [gg, if_neg (by omega)]; exact c, by rw [gg, if_neg (by omega)]; exact d, ?_⟩
      show _ = some (Value.int .i64 (upd M.owed ch u i))
      unfold upd
      by_cases hic : i = ch
      · rw [gg, if_pos (by omega), if_pos hic]
      · rw [gg, if_neg (by omega), if_neg hic]; exact f
  · rw [e4]; exact (far q n3.symm).trans h.hQ
  · rw [e6]; exact (h.hT j hj).kept (fun k hk => far k (h.row_ne j (by omega) k hk).2.1)
  · rw [e5]; exact Kd.Q_mono (Kd.Q_step (Kd.Q_tight rfl h.hS) (fun k hk _ => far k (h.row_ne 17 (by omega) k hk.symm).2.1)) (fun _ _ => trivial)
theorem Rm.putE {b0 p g q : Nat} {vs : Nat → Value} {M : Mx} {w : World} (h : Rm b0 p g q vs M w) (u : Int) : Rm b0 p g q vs { M with e := u } (w.setCell ⟨p, 5, none⟩ (.int .i64 u)) := by
  obtain ⟨cs, hcs, hsz, hc⟩ := h.hC
  obtain ⟨n1, n2, n3⟩ := h.ne
  have far : ∀ k, k ≠ p → (w.setCell ⟨p, 5, none⟩ (.int .i64 u)).heap[k]? = w.heap[k]? := fun k hk => Below.heap_setCell w ⟨p, _, none⟩ _ k hk
  refine ⟨blk_put h.hP 5 (.int .i64 u) rfl, ⟨cs, (far g n1.symm).trans hcs, hsz, hc⟩, (far q n2.symm).trans h.hQ, fun j hj => (h.hT j hj).kept (fun k hk => far k (h.row_ne j (by omega) k hk).1), ?_, h.apart, h.hp0, h.hg0, h.hq0⟩
  exact Kd.Q_mono (Kd.Q_step (Kd.Q_tight rfl h.hS) (fun k hk _ => far k (h.row_ne 17 (by omega) k hk.symm).1)) (fun _ _ => trivial)
def locR (i : Nat) : Nat := if i < 8 then i * 5 else (i - 8) * 5 + 2
/-- A row of a channel is stored. -/
theorem Rm.putRow {b0 p g q : Nat} {vs : Nat → Value} {M : Mx} {w w1 : World} (h : Rm b0 p g q vs M w) (i : Nat) (hi : i < 16) (v1 : Value) (L1 : List Int) (hT : Tb w1 b0 v1 L1) (hg : w.grownBy w1 (vs i).ownBlock) (ho : v1.ownBlock = none ∨ v1.ownBlock = (vs i).ownBlock ∨ ∃ b, v1.ownBlock = some b ∧ w.heap.size ≤ b) :
    Rm b0 p g q (upd vs i v1) (M.putRow i L1) (w1.setCell ⟨g, locR i, none⟩ v1) := by
  obtain ⟨cs, hcs, hsz, hc⟩ := h.hC
  obtain ⟨n1, n2, n3⟩ := h.ne
  have hpo : some p ≠ (vs i).ownBlock := fun e => (h.row_ne i (by omega) p e.symm).1 rfl
  have hgo : some g ≠ (vs i).ownBlock := fun e => (h.row_ne i (by omega) g e.symm).2.1 rfl
  have hqo : some q ≠ (vs i).ownBlock := fun e => (h.row_ne i (by omega) q e.symm).2.2 rfl
  have hcs1 := (hg.block g (blk_lt hcs) hgo).trans hcs
  have hv1 : ∀ k, v1.ownBlock = some k → k ≠ g := fun k hk => by
    rcases ho with ho | ho | ⟨b, hb, hle⟩
    · rw [ho] at hk; cases hk
    · exact (h.row_ne i (by omega) k (by rw [← ho]; exact hk)).2.1
    · rw [hb] at hk
      cases hk
      have := blk_lt hcs
      omega
  have hll : locR i < 40 := by unfold locR; split <;> omega
  have gg : ∀ j, (cs.setIfInBounds (locR i) v1)[j]? = if locR i = j then some v1 else cs[j]? := fun j => set_get (by omega)
  have far : ∀ k, k ≠ g → (w1.setCell ⟨g, locR i, none⟩ v1).heap[k]? = w1.heap[k]? := fun k hk => Below.heap_setCell w1 ⟨g, _, none⟩ _ k hk
  have other : ∀ j, j < 18 → j ≠ i → ∀ k, (vs j).ownBlock = some k → some k ≠ (vs i).ownBlock := fun j hj hjc k hk e => h.apart j i hj (by omega) hjc k hk e.symm
  obtain ⟨p0, p1, p2, p3, p4, p5, p6, p7⟩ := M.putRow_plain i L1
  have hloc1 : ∀ j, j < 8 → j ≠ i → locR i ≠ j * 5 := fun j hj hji => by unfold locR; split <;> omega
  have hloc2 : ∀ j, j < 8 → 8 + j ≠ i → locR i ≠ j * 5 + 2 := fun j hj hji => by unfold locR; split <;> omega
  have hloc3 : ∀ j, j < 8 → locR i ≠ j * 5 + 1 ∧ locR i ≠ j * 5 + 3 ∧ locR i ≠ j * 5 + 4 := fun j hj => by unfold locR; split <;> exact ⟨by omega, by omega, by omega⟩
  have h17 : upd vs i v1 17 = vs 17 := if_neg (by omega)
  have h16 : upd vs i v1 16 = vs 16 := if_neg (by omega)
  refine ⟨?_, ⟨_, blk_set hcs1 _ _, by simp [hsz], fun j hj => ?_⟩, ?_, fun j hj => ?_, ?_, ?_, h.hp0, h.hg0, h.hq0⟩
  · have : rmCells g q (upd vs i v1) (M.putRow i L1) = rmCells g q vs M := by unfold rmCells; rw [p0, p4, p7, h16]
    rw [this]
    exact (far p n1).trans ((hg.block p (blk_lt h.hP) hpo).trans h.hP)
  · obtain ⟨a, b, c, d, f⟩ := hc j hj
    obtain ⟨m1, m2, m3⟩ := hloc3 j hj
    rw [p1, p2, p3]
    refine ⟨?_, by rw [gg, if_neg m1]; exact b, ?_, by rw [gg, if_neg m2]; exact d, by rw [gg, if_neg m3]; exact f⟩
    · by_cases hji : j = i
      · subst hji
        have : locR j = j * 5 := by unfold locR; rw [if_pos hj]
        rw [gg, if_pos this]
        unfold upd
        rw [if_pos rfl]
      · rw [gg, if_neg (hloc1 j hj hji)]
        unfold upd
        rw [if_neg hji]; exact a
    · by_cases hji : 8 + j = i
      · subst hji
        have : locR (8 + j) = j * 5 + 2 := by unfold locR; rw [if_neg (by omega), show 8 + j - 8 = j by omega]
        rw [gg, if_pos this]
        unfold upd
        rw [if_pos rfl]
      · rw [gg, if_neg (hloc2 j hj hji)]
        unfold upd
        rw [if_neg hji]; exact c
  · rw [h17, p6]
    exact (far q n3.symm).trans ((hg.block q (blk_lt h.hQ) hqo).trans h.hQ)
  · by_cases hji : j = i
    · subst hji
      rw [M.putRow_same j hj]
      unfold upd
      rw [if_pos rfl]
      exact hT.kept (fun k hk => far k (hv1 k hk))
    · rw [M.putRow_other i j (by omega) hj L1 hji]
      unfold upd
      rw [if_neg hji]
      exact (h.hT j hj).kept (fun k hk => (far k (h.row_ne j (by omega) k hk).2.1).trans (hg.block k ((h.hT j hj).lt k hk) (other j (by omega) hji k hk)))
  · rw [h17, p5]
    exact Kd.Q_mono (Kd.Q_step (Kd.Q_tight rfl h.hS) (fun k hk hlt => (far k (h.row_ne 17 (by omega) k hk.symm).2.1).trans (hg.block k hlt (other 17 (by omega) (by omega) k hk.symm)))) (fun _ _ => trivial)
  · intro a b ha hb hab k hk
    have fresh : ∀ a, a < 18 → a ≠ i → (vs a).ownBlock = some k → v1.ownBlock ≠ some k := fun a ha hai hk e => by
      rcases ho with ho | ho | ⟨b, hb, hle⟩
      · rw [ho] at e; cases e
      · exact h.apart a i ha (by omega) hai k hk (by rw [← ho]; exact e)
      · rw [hb] at e
        cases e
        have := h.row_lt a ha k hk
        omega
    unfold upd at hk ⊢
    by_cases e1 : a = i
    · rw [if_pos e1] at hk
      rw [if_neg (by omega)]
      intro e2
      exact fresh b hb (by omega) e2 hk
    · rw [if_neg e1] at hk
      by_cases e2 : b = i
      · rw [if_pos e2]; exact fresh a ha e1 hk
      · rw [if_neg e2]; exact h.apart a b ha hb hab k hk
theorem Rf.ofUpd {p g q : Nat} {vs : Nat → Value} {i : Nat} {v : Value} {k : Nat} (h : Rf p g q (upd vs i v) k) : Rf p g q vs k ∨ v.ownBlock = some k := by
  rcases h with h | h | h | ⟨j, hj, h⟩
  · exact .inl (.inl h)
  · exact .inl (.inr (.inl h))
  · exact .inl (.inr (.inr (.inl h)))
  · unfold upd at h
    by_cases e : j = i
    · rw [if_pos e] at h; exact .inr h
    · rw [if_neg e] at h; exact .inl (.inr (.inr (.inr ⟨j, hj, h⟩)))
theorem Rm.rowStp {b0 p g q : Nat} {vs : Nat → Value} {M : Mx} {w w1 : World} (h : Rm b0 p g q vs M w) (i : Nat) (hi : i < 18) (v1 : Value) (hg : w.grownBy w1 (vs i).ownBlock) (ho : v1.ownBlock = none ∨ v1.ownBlock = (vs i).ownBlock ∨ ∃ b, v1.ownBlock = some b ∧ w.heap.size ≤ b) (o : Nat) :
    Stp (Rf p g q vs) (Rf p g q (upd vs i v1)) w (w1.setCell ⟨g, o, none⟩ v1) := by
  have h1 : Stp (Rf p g q vs) (fun k => Rf p g q vs k ∨ w.heap.size ≤ k) w w1 := Stp.grown hg (fun k hk => .inr (.inr (.inr ⟨i, hi, hk⟩))) (fun k hk => hk)
  refine (h1.trans (Stp.set (F := fun k => Rf p g q vs k ∨ w.heap.size ≤ k) ⟨g, o, none⟩ v1 (.inl (.inr (.inl rfl))))).shrink (fun k hk => ?_)
  rcases hk.ofUpd with hk | hk
  · exact .inl hk
  · rcases ho with ho | ho | ⟨b, hb, hle⟩
    · rw [ho] at hk; cases hk
    · exact .inl (.inr (.inr (.inr ⟨i, hi, by rw [← ho]; exact hk⟩)))
    · rw [hb] at hk
      cases hk
      exact .inr hle
theorem Rm.strm {b0 p g q : Nat} {vs : Nat → Value} {M : Mx} {w : World} (h : Rm b0 p g q vs M w) : RStrm (fun k => (vs 17).ownBlock = some k ∨ w.heap.size ≤ k) b0 q M.L M.x (vs 17) w :=
  ⟨h.hQ, Kd.Q_mono (Kd.Q_tight rfl h.hS) (fun k hk => .inl hk.symm)⟩
theorem Rm.strm_q {b0 p g q : Nat} {vs : Nat → Value} {M : Mx} {w : World} (h : Rm b0 p g q vs M w) : ∀ k, ((vs 17).ownBlock = some k ∨ w.heap.size ≤ k) → k ≠ q := by
  rintro k (hk | hk)
  · exact (h.row_ne 17 (by omega) k hk).2.2
  · have := blk_lt h.hQ
    omega
theorem Rm.stream {b0 p g q : Nat} {vs : Nat → Value} {M : Mx} {w w' : World} (h : Rm b0 p g q vs M w) {v' : Value} {L' : List Int} {x' : Int} (hs : RStrm (fun k => (vs 17).ownBlock = some k ∨ w.heap.size ≤ k) b0 q L' x' v' w') (hb : Below b0 w w') (hk : ∀ j, j < w.heap.size → j ≠ q → (vs 17).ownBlock ≠ some j → w'.heap[j]? = w.heap[j]?) :
    Rm b0 p g q (upd vs 17 v') { M with L := L', x := x' } w' ∧ Stp (Rf p g q vs) (Rf p g q (upd vs 17 v')) w w' := by
  obtain ⟨cs, hcs, hsz, hc⟩ := h.hC
  obtain ⟨n1, n2, n3⟩ := h.ne
  have r17 := fun k hk => h.row_ne 17 (by omega) k hk
  have h17 : upd vs 17 v' 17 = v' := if_pos rfl
  have hlow : ∀ j, j < 17 → upd vs 17 v' j = vs j := fun j hj => if_neg (by omega)
  refine ⟨⟨?_, ⟨cs, (hk g (blk_lt hcs) n3 (fun e => (r17 g e).2.1 rfl)).trans hcs, hsz, fun i hi => ?_⟩, by rw [h17]; exact hs.hP, fun j hj => ?_, by rw [h17]; exact Kd.Q_mono hs.hR (fun _ _ => trivial), ?_, h.hp0, h.hg0, h.hq0⟩, ⟨hb.os, hb.tape, hb.output, hb.size, fun j hj hn => hk j hj (fun e => hn (.inr (.inr (.inl e)))) (fun e => hn (.inr (.inr (.inr ⟨17, by omega, e⟩)))), fun k hk2 => ?_⟩⟩
  · have : rmCells g q (upd vs 17 v') { M with L := L', x := x' } = rmCells g q vs M := by unfold rmCells; rw [hlow 16 (by omega)]
    rw [this]
    exact (hk p (blk_lt h.hP) n2 (fun e => (r17 p e).1 rfl)).trans h.hP
  · rw [hlow i (by omega), hlow (8 + i) (by omega)]; exact hc i hi
  · rw [hlow j hj]
    exact (h.hT j hj).kept (fun k hk3 => hk k ((h.hT j hj).lt k hk3) (h.row_ne j (by omega) k hk3).2.2 (fun e => h.apart j 17 (by omega) (by omega) (by omega) k hk3 e))
  · intro i j hi hj hij k hki
    have fresh : ∀ i, i < 17 → (vs i).ownBlock = some k → v'.ownBlock ≠ some k := fun i hi hki e => by
      rcases hs.hR.1 k e with e2 | e2
      · exact h.apart i 17 (by omega) (by omega) (by omega) k hki e2
      · have := (h.hT i hi).lt k hki
        omega
    unfold upd at hki ⊢
    by_cases e1 : i = 17
    · rw [if_pos e1] at hki
      rw [if_neg (by omega)]
      intro e2
      exact fresh j (by omega) e2 hki
    · rw [if_neg e1] at hki
      by_cases e2 : j = 17
      · rw [if_pos e2]; exact fresh i (by omega) hki
      · rw [if_neg e2]; exact h.apart i j hi hj hij k hki
  · rcases hk2.ofUpd with hk3 | hk3
    · exact .inl hk3
    · rcases hs.hR.1 k hk3 with e2 | e2
      · exact .inl (.inr (.inr (.inr ⟨17, by omega, e2⟩)))
      · exact .inr e2
open Go.Proofs.YthehhbfiaaadgaaDoor.Num Go.Proofs.YthehhbfiaaadgaaDoor.Pure
set_option maxHeartbeats 8000000 in
set_option maxRecDepth 100000 in
theorem ref_come.kind {b0 p g q : Nat} {vs : Nat → Value} {M : Mx} (kind : Int) (hk : ¬ kind < 16) (A : Option Addr) (n c : Nat) (w : World) (h : Rm b0 p g q vs M w) :
    Calls Tryd.prog 44 #[.pointer (some ⟨p, 0, none⟩), .agg #[.int .i64 kind, .slice A n c]] w fun e w' => e = .returned (.int .i64 17) ∧ Below w.heap.size w w' := by
  have hb := below_alloc (Below.refl _ w) (.cells #[.int .i64 kind, .slice A n c] 85)
  have hbn := blk_new w (.cells #[.int .i64 kind, .slice A n c] 85)
  have e0 := blk_cell hbn 0
  have k1 : decide (kind > 15) = true := decide_eq_true (by omega)
  have k1' : decide (15 < kind) = true := k1
  have HB := Aside0.mk hb
  clear h hk hb hbn
  go_enter Tryd.func44, Tryd.ntmps44
  go_wp2
  go_ret
  exact ⟨rfl, HB.out⟩
set_option maxHeartbeats 8000000 in
set_option maxRecDepth 100000 in
theorem ref_come.full {b0 p g q : Nat} {vs : Nat → Value} {M : Mx} (ch : Nat) (hch : ch < 8) (A : Option Addr) (n c : Nat) (w : World) (h : Rm b0 p g q vs M w) (hf : decide (wrap64 (M.owed ch + (n : Int)) > M.win) = true) :
    Calls Tryd.prog 44 #[.pointer (some ⟨p, 0, none⟩), .agg #[.int .i64 ch, .slice A n c]] w fun e w' => e = .returned (.int .i64 8) ∧ Below w.heap.size w w' := by
  have hb := below_alloc (Below.refl _ w) (.cells #[.int .i64 ch, .slice A n c] 85)
  have hbn := blk_new w (.cells #[.int .i64 ch, .slice A n c] 85)
  have e0 := blk_cell hbn 0
  have e1 := blk_cell hbn 1
  have hM := h.below hb
  obtain ⟨c0, c1, _⟩ := hM.cells
  obtain ⟨_, _, _, _, d4⟩ := hM.chan ch hch
  have k1 : decide ((ch : Int) > 15) = false := decide_eq_false (by omega)
  have k1' : decide (15 < (ch : Int)) = false := k1
  have k1n : decide (15 < ch) = false := decide_eq_false (by omega)
  have k1p : (15 < ch) = False := eq_false (by omega)
  have k5 : decide ((ch : Int) < 8) = true := decide_eq_true (by omega)
  have k2 : (0 ≤ (ch : Int)) = True := eq_true (by omega)
  have k3 : (ch < 8) = True := eq_true hch
  have k4 : ((ch : Int) < 8) = True := eq_true (by omega)
  have kt : (ch : Int).tmod 8 = ch := by rw [Int.tmod_eq_emod_of_nonneg (by omega)]; omega
  have hf' : decide (M.win < wrap64 (M.owed ch + (n : Int))) = true := hf
  have HB := Aside0.mk hb
  clear h hM hch hb hbn
  go_enter Tryd.func44, Tryd.ntmps44
  go_wp2
  go_quiet (fail)
  go_wp2
  go_ret
  refine ⟨rfl, ?_⟩
  repeat (first | exact HB.out | apply pw_below_drewN)
open Go.Proofs.YthehhbfiaaadgaaDoor.Num Go.Proofs.YthehhbfiaaadgaaDoor.Pure
theorem rrow_facts {b0 p g q : Nat} {vs : Nat → Value} {M : Mx} {w w1 : World} (h : Rm b0 p g q vs M w) (i : Nat) (hi : i < 8) (hg : w.grownBy w1 (vs (8 + i)).ownBlock) : w1.cell? ⟨g, i * 5 + 2, none⟩ = some (vs (8 + i)) ∧ w1.frozen? ⟨g, i * 5 + 2, none⟩ = false ∧ w1.cell? ⟨p, 1, none⟩ = some (.slice (some ⟨g, 0, none⟩) 8 8) := by
  obtain ⟨cs, hcs, _, hc⟩ := h.hC
  have hg1 := (hg.block g (blk_lt hcs) (fun e => (h.row_ne (8 + i) (by omega) g e.symm).2.1 rfl)).trans hcs
  have hp1 := (hg.block p (blk_lt h.hP) (fun e => (h.row_ne (8 + i) (by omega) p e.symm).1 rfl)).trans h.hP
  exact ⟨(blk_cell hg1 _).trans (hc i hi).2.2.1, blk_frozen hg1 _, (blk_cell hp1 1).trans rfl⟩
theorem C_past2 {w w' : World} {A : Option Addr} {n : Nat} {L : List Int} (h : Kd.C (Kd.int .u8) w A n L) (hA : ∀ ad, A = some ad → 0 < n → w'.heap[ad.block]? = w.heap[ad.block]?) : Kd.C (Kd.int .u8) w' A n L := by
  by_cases hn : 0 < n
  · exact C_moved h (fun ad e => hA ad e hn)
  · exact ⟨h.1, h.2.1, fun h2 => absurd h2 hn⟩
theorem locR_held (ch : Nat) : locR (8 + ch) = ch * 5 + 2 := by unfold locR; rw [if_neg (by omega), show 8 + ch - 8 = ch by omega]
theorem Rm.held_row (M : Mx) (ch : Nat) (hch : ch < 8) : M.row (8 + ch) = M.held ch := by
  unfold Mx.row
  rw [if_neg (by omega), if_pos (by omega), show 8 + ch - 8 = ch by omega]
set_option maxHeartbeats 8000000 in
set_option maxRecDepth 100000 in
theorem ref_come.data {b0 p g q : Nat} {vs : Nat → Value} {M : Mx} (ch : Nat) (hch : ch < 8) (A : Option Addr) (n c : Nat) (N : List Int) (w : World) (h : Rm b0 p g q vs M w) (hC : Kd.C (Kd.int .u8) w A n N) (hf : decide (wrap64 (M.owed ch + (n : Int)) > M.win) = false) (hl : (M.held ch).length + n ≤ 140737488355328) (hb0 : b0 ≤ w.heap.size) (hA : ∀ ad, A = some ad → ad.block ≠ g) :
    Calls Tryd.prog 44 #[.pointer (some ⟨p, 0, none⟩), .agg #[.int .i64 ch, .slice A n c]] w fun e w' => e = .returned (.int .i64 0) ∧ ∃ vs', Rm b0 p g q vs' { M with held := upd M.held ch (M.held ch ++ N), owed := upd M.owed ch (wrap64 (M.owed ch + (n : Nat))) } w' ∧ Stp (Rf p g q vs) (Rf p g q vs') w w' := by
  have hb := below_alloc (Below.refl _ w) (.cells #[.int .i64 ch, .slice A n c] 85)
  have hbn := blk_new w (.cells #[.int .i64 ch, .slice A n c] 85)
  have e0 := blk_cell hbn 0
  have e1 := blk_cell hbn 1
  have hM := h.below hb
  obtain ⟨c0, c1, _⟩ := hM.cells
  obtain ⟨_, _, _, _, d4⟩ := hM.chan ch hch
  have k1 : decide ((ch : Int) > 15) = false := decide_eq_false (by omega)
  have k1' : decide (15 < (ch : Int)) = false := k1
  have k1n : decide (15 < ch) = false := decide_eq_false (by omega)
  have k1p : (15 < ch) = False := eq_false (by omega)
  have k5 : decide ((ch : Int) < 8) = true := decide_eq_true (by omega)
  have k2 : (0 ≤ (ch : Int)) = True := eq_true (by omega)
  have k3 : (ch < 8) = True := eq_true hch
  have k4 : ((ch : Int) < 8) = True := eq_true (by omega)
  have kt : (ch : Int).tmod 8 = ch := by rw [Int.tmod_eq_emod_of_nonneg (by omega)]; omega
  have hf' : decide (M.win < wrap64 (M.owed ch + (n : Int))) = false := hf
  have HB := Aside0.mk hb
  have HBN := Aside0.mk hbn
  have HM := Aside0.mk hM
  have HC := Aside0.mk (Kd.C_below hC hb)
  have HX := Aside0.mk (And.intro hch (And.intro hl (And.intro hb0 hA)))
  have HF := Aside0.mk (fun k => h.foot k)
  clear h hM hch hb hbn hC hl hb0 hA
  go_enter Tryd.func44, Tryd.ntmps44
  go_wp2
  generalize w.alloc (.cells #[.int .i64 ch, .slice A n c] 85) = W at *
  go_quiet (fail)
  generalize nq = m1
  go_wp2
  have hbd := pw_below_drewN (Below.refl W.heap.size W) m1
  have HM2 := Aside0.mk (HM.out.below hbd)
  have HB2 := Aside0.mk (below_then HB.out HB.out.size hbd)
  have hbn2 := blk_below HBN.out hbd
  have HC2 := Aside0.mk (Kd.C_below HC.out hbd)
  have HBN2 := Aside0.mk hbn2
  clear e0 e1 c0 c1 d4 HM HBN HC hbd HB
  generalize W.drewN m1 = W2 at *
  have e1 := blk_cell hbn2 1
  have c1 := HM2.out.cells.2.1
  have d4 := (HM2.out.chan ch HX.out.1).2.2.2.2
  obtain ⟨cg, hcg, _⟩ := HM2.out.hC
  have f4 := blk_frozen hcg (ch * 5 + 4)
  clear hbn2 hcg
  go_region
  have HMb : Aside0 (Rm b0 p g q vs (M.plain ch 4 (wrap64 (M.owed ch + (n : Nat)))) ((W2.setCell ⟨g, ch * 5 + 4, none⟩ (.int .i64 (wrap64 (M.owed ch + (n : Nat))))).drew)) := ⟨(HM2.out.putC ch HX.out.1 4 (.inr (.inr rfl)) _).below (below_drew (Below.refl _ _))⟩
  have HSb : Aside0 (Stp (Rf p g q vs) (Rf p g q vs) w ((W2.setCell ⟨g, ch * 5 + 4, none⟩ (.int .i64 (wrap64 (M.owed ch + (n : Nat))))).drew)) := ⟨((Stp.of_below HB2.out).trans (Stp.set (F := Rf p g q vs) _ _ (.inr (.inl rfl)))).trans (Stp.of_below (below_drew (Below.refl _ _)))⟩
  have HLW : Aside0 (w.heap.size ≠ g) := ⟨by have := (HF.out g (.inr (.inl rfl))).2; omega⟩
  have HBNb : Aside0 (((W2.setCell ⟨g, ch * 5 + 4, none⟩ (.int .i64 (wrap64 (M.owed ch + (n : Nat))))).drew).heap[w.heap.size]? = _) := ⟨blk_below (blk_far HBN2.out (p := ⟨g, ch * 5 + 4, none⟩) HLW.out _) (below_drew (Below.refl _ _))⟩
  have HCb : Aside0 (Kd.C (Kd.int .u8) ((W2.setCell ⟨g, ch * 5 + 4, none⟩ (.int .i64 (wrap64 (M.owed ch + (n : Nat))))).drew) A n N) := ⟨Kd.C_drew (C_past2 HC2.out (fun ad e _ => Below.heap_setCell _ ⟨g, ch * 5 + 4, none⟩ _ ad.block (HX.out.2.2.2 ad e)))⟩
  clear e1 c1 d4 f4
  generalize (W2.setCell ⟨g, ch * 5 + 4, none⟩ (.int .i64 (wrap64 (M.owed ch + (n : Nat))))).drew = W3 at *
  clear HM2 HB2 HC2 HBN2
  have hT := HMb.out.hT (8 + ch) (by have := HX.out.1; omega)
  rw [Rm.held_row _ _ HX.out.1, show (M.plain ch 4 (wrap64 (M.owed ch + (n : Nat)))).held = M.held from rfl] at hT
  obtain ⟨A0, c00, hv⟩ := hT.slice
  have HV := Aside0.mk hv
  obtain ⟨m, hm⟩ : ∃ m, (M.held ch).length = m := ⟨_, rfl⟩
  rw [hm] at hv
  have HMd := Aside0.mk (HMb.out.below (below_drew (Below.refl _ _)))
  have HCd := Aside0.mk (Kd.C_drew HCb.out)
  have HBNd := Aside0.mk (blk_below HBNb.out (below_drew (Below.refl _ _)))
  have HSd := Aside0.mk (HSb.out.trans (Stp.of_below (below_drew (Below.refl _ _))))
  have HXX := Aside0.mk (show b0 ≤ W3.drew.heap.size from Nat.le_trans HX.out.2.2.1 HSd.out.size)
  have HTy := Aside0.mk (fun k hk => HMd.out.row_ty (8 + ch) (by have := HX.out.1; omega) k hk)
  have hr := HMd.out.chan ch HX.out.1
  have d2 : W3.drew.cell? ⟨g, ch * 5 + 2, none⟩ = some (.slice A0 m c00) := by rw [← hv]; exact hr.2.2.1
  have e1 : W3.drew.cell? ⟨w.heap.size, 1, none⟩ = some (.slice A n c) := blk_cell HBNd.out 1
  have c1 : W3.drew.cell? ⟨p, 1, none⟩ = some (.slice (some ⟨g, 0, none⟩) 8 8) := HMd.out.cells.2.1
  rw [hv] at hT
  have HTd := Aside0.mk ((hT.kept (w' := W3.drew) (fun k hk => rfl)))
  replace HV := Aside0.mk hv
  clear hr hT hv hm
  go_wp2
  refine start_ (n := 19) (S := fun w' => w'.cell? ⟨p, 1, none⟩ = some (.slice (some ⟨g, 0, none⟩) 8 8) ∧ w'.cell? ⟨g, ch * 5 + 2, none⟩ = some (.slice A0 m c00) ∧ w'.cell? ⟨w.heap.size, 1, none⟩ = some (.slice A n c)) (ds := [18]) #[false, false, false, false, false, false, false, false, false, false, false, false, false, false, false, false, false, false, false] (by kernel_rfl) rfl rfl ⟨c1, d2, e1⟩ (fun hHeld => ?_)
  refine pure_ (i := 0) (N := some 49) (v := ?_) (a' := ?_) #[true, false, false, false, false, false, false, false, false, false, false, false, false, false, false, false, false, false, false] rfl rfl (by kernel_rfl) (fun _ _ _ h => h) (Or.inl ⟨by rfl, ?_⟩) ?_ ?_
  rotate_left
  · intro w'
    go_simp
    with_reducible rfl
  rotate_left
  · simp only [Act.put, List.setIfInBounds_toArray, List.set_cons_zero, List.set_cons_succ, i64_w, i32_w]
    rfl
  refine pure_ (i := 1) (N := some 50) (v := ?_) (a' := ?_) #[true, true, false, false, false, false, false, false, false, false, false, false, false, false, false, false, false, false, false] rfl rfl (by kernel_rfl) (fun _ _ _ h => h) (Or.inl ⟨by rfl, ?_⟩) ?_ ?_
  rotate_left
  · intro w'
    go_simp
    with_reducible rfl
  rotate_left
  · simp only [Act.put, List.setIfInBounds_toArray, List.set_cons_zero, List.set_cons_succ, i64_w, i32_w]
    rfl
  refine pure_ (i := 2) (N := some 51) (v := ?_) (a' := ?_) #[true, true, true, false, false, false, false, false, false, false, false, false, false, false, false, false, false, false, false] rfl rfl (by kernel_rfl) (fun _ _ _ h => h) (Or.inl ⟨by rfl, ?_⟩) ?_ ?_
  rotate_left
  · intro w'
    go_simp
    with_reducible rfl
  rotate_left
  · simp only [Act.put, List.setIfInBounds_toArray, List.set_cons_zero, List.set_cons_succ, i64_w, i32_w]
    rfl
  refine pure_ (i := 4) (N := some 53) (v := ?_) (a' := ?_) #[true, true, true, false, true, false, false, false, false, false, false, false, false, false, false, false, false, false, false] rfl rfl (by kernel_rfl) (fun _ _ _ h => h) (Or.inl ⟨by rfl, ?_⟩) ?_ ?_
  rotate_left
  · intro w'
    go_simp
    with_reducible rfl
  rotate_left
  · simp only [Act.put, List.setIfInBounds_toArray, List.set_cons_zero, List.set_cons_succ, i64_w, i32_w]
    rfl
  refine pure_ (i := 5) (N := some 54) (v := ?_) (a' := ?_) #[true, true, true, false, true, true, false, false, false, false, false, false, false, false, false, false, false, false, false] rfl rfl (by kernel_rfl) (fun _ _ _ h => h) (Or.inl ⟨by rfl, ?_⟩) ?_ ?_
  rotate_left
  · intro w'
    go_simp
    with_reducible rfl
  rotate_left
  · simp only [Act.put, List.setIfInBounds_toArray, List.set_cons_zero, List.set_cons_succ, i64_w, i32_w]
    rfl
  refine pure_ (i := 6) (N := some 55) (v := ?_) (a' := ?_) #[true, true, true, false, true, true, true, false, false, false, false, false, false, false, false, false, false, false, false] rfl rfl (by kernel_rfl) (fun _ _ _ h => h) (Or.inl ⟨by rfl, ?_⟩) ?_ ?_
  rotate_left
  · intro w'
    go_simp
    with_reducible rfl
  rotate_left
  · simp only [Act.put, List.setIfInBounds_toArray, List.set_cons_zero, List.set_cons_succ, i64_w, i32_w]
    rfl
  refine pure_ (i := 7) (N := some 56) (v := ?_) (a' := ?_) #[true, true, true, false, true, true, true, true, false, false, false, false, false, false, false, false, false, false, false] rfl rfl (by kernel_rfl) (fun _ _ _ h => h) (Or.inl ⟨by rfl, ?_⟩) ?_ ?_
  rotate_left
  · intro w'
    go_simp
    with_reducible rfl
  rotate_left
  · simp only [Act.put, List.setIfInBounds_toArray, List.set_cons_zero, List.set_cons_succ, i64_w, i32_w]
    rfl
  refine pure_ (i := 9) (N := some 58) (v := ?_) (a' := ?_) #[true, true, true, false, true, true, true, true, false, true, false, false, false, false, false, false, false, false, false] rfl rfl (by kernel_rfl) (fun _ _ _ h => h) (Or.inl ⟨by rfl, ?_⟩) ?_ ?_
  rotate_left
  · intro w'
    go_simp
    with_reducible rfl
  rotate_left
  · simp only [Act.put, List.setIfInBounds_toArray, List.set_cons_zero, List.set_cons_succ, i64_w, i32_w]
    rfl
  refine pure_ (i := 13) (N := some 62) (v := ?_) (a' := ?_) #[true, true, true, false, true, true, true, true, false, true, false, false, false, true, false, false, false, false, false] rfl rfl (by kernel_rfl) (fun _ _ _ h => h) (Or.inl ⟨by rfl, ?_⟩) ?_ ?_
  rotate_left
  · intro w'
    go_simp
    with_reducible rfl
  rotate_left
  · simp only [Act.put, List.setIfInBounds_toArray, List.set_cons_zero, List.set_cons_succ, i64_w, i32_w]
    rfl
  refine take_ (i := 3) (N := some 52) (v := ?_) (a' := ?_) #[true, true, true, true, true, true, true, true, false, true, false, false, false, true, false, false, false, false, false] rfl rfl (by kernel_rfl) (fun _ _ _ h => h) (Or.inl ⟨by rfl, ?_⟩) hHeld ?_ ?_
  rotate_left
  · rintro w' ⟨s0, s1, s2⟩
    go_simp
    with_reducible rfl
  rotate_left
  · simp only [Act.put, List.setIfInBounds_toArray, List.set_cons_zero, List.set_cons_succ, i64_w, i32_w]
    rfl
  refine take_ (i := 8) (N := some 57) (v := ?_) (a' := ?_) #[true, true, true, true, true, true, true, true, true, true, false, false, false, true, false, false, false, false, false] rfl rfl (by kernel_rfl) (fun _ _ _ h => h) (Or.inl ⟨by rfl, ?_⟩) hHeld ?_ ?_
  rotate_left
  · rintro w' ⟨s0, s1, s2⟩
    go_simp
    with_reducible rfl
  rotate_left
  · simp only [Act.put, List.setIfInBounds_toArray, List.set_cons_zero, List.set_cons_succ, i64_w, i32_w]
    rfl
  refine pure_ (i := 10) (N := some 59) (v := ?_) (a' := ?_) #[true, true, true, true, true, true, true, true, true, true, true, false, false, true, false, false, false, false, false] rfl rfl (by kernel_rfl) (fun _ _ _ h => h) (Or.inl ⟨by rfl, ?_⟩) ?_ ?_
  rotate_left
  · intro w'
    go_simp
    with_reducible rfl
  rotate_left
  · simp only [Act.put, List.setIfInBounds_toArray, List.set_cons_zero, List.set_cons_succ, i64_w, i32_w]
    rfl
  refine pure_ (i := 11) (N := some 60) (v := ?_) (a' := ?_) #[true, true, true, true, true, true, true, true, true, true, true, true, false, true, false, false, false, false, false] rfl rfl (by kernel_rfl) (fun _ _ _ h => h) (Or.inl ⟨by rfl, ?_⟩) ?_ ?_
  rotate_left
  · intro w'
    go_simp
    with_reducible rfl
  rotate_left
  · simp only [Act.put, List.setIfInBounds_toArray, List.set_cons_zero, List.set_cons_succ, i64_w, i32_w]
    rfl
  refine take_ (i := 12) (N := some 61) (v := ?_) (a' := ?_) #[true, true, true, true, true, true, true, true, true, true, true, true, true, true, false, false, false, false, false] rfl rfl (by kernel_rfl) (fun _ _ _ h => h) (Or.inl ⟨by rfl, ?_⟩) hHeld ?_ ?_
  rotate_left
  · rintro w' ⟨s0, s1, s2⟩
    go_simp
    with_reducible rfl
  rotate_left
  · simp only [Act.put, List.setIfInBounds_toArray, List.set_cons_zero, List.set_cons_succ, i64_w, i32_w]
    rfl
  refine take_ (i := 14) (N := some 63) (v := ?_) (a' := ?_) #[true, true, true, true, true, true, true, true, true, true, true, true, true, true, true, false, false, false, false] rfl rfl (by kernel_rfl) (fun _ _ _ h => h) (Or.inl ⟨by rfl, ?_⟩) hHeld ?_ ?_
  rotate_left
  · rintro w' ⟨s0, s1, s2⟩
    go_simp
    with_reducible rfl
  rotate_left
  · simp only [Act.put, List.setIfInBounds_toArray, List.set_cons_zero, List.set_cons_succ, i64_w, i32_w]
    rfl
  refine one_ (i := 15) (N := some 64) #[true, true, true, true, true, true, true, true, true, true, true, true, true, true, true, true, false, false, false] rfl rfl (by kernel_rfl) (by decide) (fun K hK => ?_)
  refine tb_append_step (W := W3.drew) b0 (by rfl) (.tmp 61) (.tmp 63) rfl (.slice A0 m c00) (M.held ch) A n c N rfl rfl HTd.out HCd.out HX.out.2.1 HXX.out ?_
  intro v1 w3 hT3 hg3 ho3
  rw [← HV.out] at hg3 ho3
  obtain ⟨A1, c1', hv1⟩ := hT3.slice
  obtain ⟨n1, hn1⟩ : ∃ n, (M.held ch ++ N).length = n := ⟨_, rfl⟩
  rw [hn1] at hv1
  subst hv1
  clear hn1
  have HA := Aside0.mk (HMd.out.putRow (8 + ch) (by have := HX.out.1; omega) (.slice A1 n1 c1') _ hT3 hg3 (.inr ho3))
  have HST := Aside0.mk (HMd.out.rowStp (8 + ch) (by have := HX.out.1; omega) (.slice A1 n1 c1') hg3 (.inr ho3) (locR (8 + ch)))
  have zz := rrow_facts HMd.out ch HX.out.1 hg3
  have hloc := locR_held ch
  rw [hloc] at HA HST
  rw [HV.out] at zz
  have z1 := zz.1
  have z2 := zz.2.1
  have z3 := zz.2.2
  have HBN4 := Aside0.mk (blk_grown HBNd.out hg3 (by intro e; have := HTy.out _ e.symm; obtain ⟨cs, hcs⟩ := this; rw [HBNd.out] at hcs; injection hcs with hcs; injection hcs with _ hcs; exact absurd hcs (by decide)))
  clear hT3 hg3 ho3 hloc
  refine hK.out _ _ ⟨zz.2.2, zz.1, (blk_cell HBN4.out 1)⟩ (fun hHeld => ?_)
  clear hK K
  refine norm_ (a' := ?_) ?_ ?_
  rotate_left
  · show Act.put _ (some 64) _ = _
    simp only [Act.put, List.setIfInBounds_toArray, List.set_cons_zero, List.set_cons_succ, i64_w, i32_w]
    rfl
  refine pure_ (i := 16) (N := some 65) (v := ?_) (a' := ?_) #[true, true, true, true, true, true, true, true, true, true, true, true, true, true, true, true, true, false, false] rfl rfl (by kernel_rfl) (fun _ _ _ h => h) (Or.inl ⟨by rfl, ?_⟩) ?_ ?_
  rotate_left
  · intro w'
    go_simp
    with_reducible rfl
  rotate_left
  · simp only [Act.put, List.setIfInBounds_toArray, List.set_cons_zero, List.set_cons_succ, i64_w, i32_w]
    rfl
  refine pure_ (i := 17) (N := some 66) (v := ?_) (a' := ?_) #[true, true, true, true, true, true, true, true, true, true, true, true, true, true, true, true, true, true, false] rfl rfl (by kernel_rfl) (fun _ _ _ h => h) (Or.inl ⟨by rfl, ?_⟩) ?_ ?_
  rotate_left
  · intro w'
    go_simp
    with_reducible rfl
  rotate_left
  · simp only [Act.put, List.setIfInBounds_toArray, List.set_cons_zero, List.set_cons_succ, i64_w, i32_w]
    rfl
  refine last_ (i := 18) (N := none) #[true, true, true, true, true, true, true, true, true, true, true, true, true, true, true, true, true, true, true] rfl rfl (by kernel_rfl) (by decide) (fun K hK => ?_)
  refine skip_ (w1 := ?_) (by rfl) rfl ?_ ?_
  rotate_left
  · go_simp
    rfl
  refine hK.out _ _ ?_
  clear hK K
  refine done_ (by kernel_rfl) ?_
  go_wp2
  go_ret
  have hA := HA.out
  rw [putRow_held _ _ HX.out.1] at hA
  exact ⟨rfl, _, hA, HSd.out.trans HST.out⟩
open Go.Proofs.YthehhbfiaaadgaaDoor.Num Go.Proofs.YthehhbfiaaadgaaDoor.Pure
theorem Mx.plain_way (M : Mx) (ch : Nat) (u : Int) : M.plain ch 1 u = { M with way := upd M.way ch u } := rfl
set_option maxHeartbeats 8000000 in
set_option maxRecDepth 100000 in
theorem ref_come.given {b0 p g q : Nat} {vs : Nat → Value} {M : Mx} (kind : Int) (ch : Nat) (hk : kind = 8 + (ch : Int)) (hch : ch < 8) (A : Option Addr) (n c : Nat) (N : List Int) (w : World) (h : Rm b0 p g q vs M w) (hC : Kd.C (Kd.int .u8) w A n N) (hnc : n ≤ c) (k : Nat) (r1 r2 r3 : Int) (hg : remoraref01_Get.f k N 0 = some (r1, r2, r3)) :
    Calls Tryd.prog 44 #[.pointer (some ⟨p, 0, none⟩), .agg #[.int .i64 kind, .slice A n c]] w fun e w' => e = .returned (.int .i64 (M.backS ch n (r1, r2, r3)).2) ∧ Rm b0 p g q vs (M.backS ch n (r1, r2, r3)).1 w' ∧ Stp (Rf p g q vs) (Rf p g q vs) w w' := by
  have hb := below_alloc (Below.refl _ w) (.cells #[.int .i64 kind, .slice A n c] 85)
  have hbn := blk_new w (.cells #[.int .i64 kind, .slice A n c] 85)
  have e0 := blk_cell hbn 0
  have e1 := blk_cell hbn 1
  have hM := h.below hb
  have k1 : decide (kind > 15) = false := decide_eq_false (by omega)
  have k1' : decide (15 < kind) = false := k1
  have k5 : decide (kind < 8) = false := decide_eq_false (by omega)
  have kt : kind.tmod 8 = ch := by rw [Int.tmod_eq_emod_of_nonneg (by omega)]; omega
  have k2 : (0 ≤ (ch : Int)) = True := eq_true (by omega)
  have k3 : (ch < 8) = True := eq_true hch
  have k4 : ((ch : Int) < 8) = True := eq_true (by omega)
  have HB := Aside0.mk hb
  have HBN := Aside0.mk hbn
  have HM := Aside0.mk hM
  have HC := Aside0.mk (Kd.C_below hC hb)
  have HX := Aside0.mk (And.intro hch hnc)
  have HG := Aside0.mk hg
  have HN := Aside0.mk hC.1
  have hcall := remoraref01_Get.calls k A c N 0 r1 r2 r3 _ (by rw [HN.out]; exact HC.out) (by rw [HN.out]; exact HX.out.2) HG.out
  rw [HN.out] at hcall
  have HCL := Aside0.mk hcall
  clear h hM hch hb hbn hC hnc hg hk hcall
  go_enter Tryd.func44, Tryd.ntmps44
  go_wp2_with fail
  refine HCL.out.mono ?_
  rintro e w3 ⟨rfl, nd, rfl⟩
  generalize w.alloc (.cells #[.int .i64 kind, .slice A n c] 85) = W2 at *
  have hbd := pw_below_drewN (Below.refl W2.heap.size W2) nd
  have HM3 := Aside0.mk (HM.out.below hbd)
  have HS3 := Aside0.mk (Stp.of_below (F := Rf p g q vs) (below_then HB.out HB.out.size hbd))
  have e1 := blk_cell (blk_below HBN.out hbd) 1
  have c1 := HM3.out.cells.2.1
  have d1 := (HM3.out.chan ch HX.out.1).2.1
  obtain ⟨cp, hcp, _⟩ := HM3.out.hC
  have f1 := blk_frozen hcp (ch * 5 + 1)
  clear hcp hbd e0 HCL
  generalize W2.drewN nd = W3 at *
  by_cases c1' : r3 = 0
  · have HC1 := Aside0.mk c1'
    have j1 : (r3 != 0) = false := by rw [c1']; rfl
    clear c1'
    by_cases c2 : r2 < (n : Int)
    · have HE : Aside0 (M.backS ch n (r1, r2, r3) = (M, 5)) := ⟨by unfold Mx.backS; dsimp only; rw [if_neg (fun h => h HC1.out), if_pos c2]⟩
      have j2 : decide (r2 < (n : Int)) = true := decide_eq_true c2
      clear c2
      go_wp2
      go_ret
      rw [HE.out]
      exact ⟨rfl, HM3.out, HS3.out⟩
    · have HC2' := Aside0.mk c2
      have j2 : decide (r2 < (n : Int)) = false := decide_eq_false c2
      clear c2
      by_cases c3 : M.way ch < r1
      · have HE : Aside0 (M.backS ch n (r1, r2, r3) = (M, 3)) := ⟨by unfold Mx.backS; dsimp only; rw [if_neg (fun h => h HC1.out), if_neg HC2'.out, if_pos c3]⟩
        have j3 : decide (M.way ch < r1) = true := decide_eq_true c3
        have j3' : decide (r1 > M.way ch) = true := decide_eq_true c3
        clear c3
        go_wp2
        go_ret
        rw [HE.out]
        exact ⟨rfl, HM3.out, HS3.out⟩
      · have HE : Aside0 (M.backS ch n (r1, r2, r3) = ({ M with way := upd M.way ch (wrap64 (M.way ch - r1)) }, 0)) := ⟨by unfold Mx.backS; dsimp only; rw [if_neg (fun h => h HC1.out), if_neg HC2'.out, if_neg c3]⟩
        have j3 : decide (M.way ch < r1) = false := decide_eq_false c3
        have j3' : decide (r1 > M.way ch) = false := decide_eq_false c3
        clear c3
        go_wp2
        go_region
        go_wp2
        go_ret
        rw [HE.out]
        exact ⟨rfl, (HM3.out.putC ch HX.out.1 1 (.inl rfl) _).below (below_drew (Below.refl _ _)), (HS3.out.trans (Stp.set _ _ (.inr (.inl rfl)))).trans (Stp.of_below (below_drew (Below.refl _ _)))⟩
  · have HE : Aside0 (M.backS ch n (r1, r2, r3) = (M, r3)) := ⟨by unfold Mx.backS; dsimp only; rw [if_pos c1']⟩
    have j1 : (r3 != 0) = true := bne_iff_ne.mpr c1'
    clear c1'
    go_wp2
    go_ret
    rw [HE.out]
    exact ⟨rfl, HM3.out, HS3.out⟩
/-- A frame that came. -/
theorem ref_come.at_ {b0 p g q : Nat} {vs : Nat → Value} {M : Mx} (kind : Int) (h0 : 0 ≤ kind) (A : Option Addr) (n c : Nat) (N : List Int) (w : World) (h : Rm b0 p g q vs M w) (hf : M.Fit) (hC : Kd.C (Kd.int .u8) w A n N) (hnc : n ≤ c) (hB : Byt N) (hl : n ≤ 1000000000) (hb0 : b0 ≤ w.heap.size) (hA : ∀ ad, A = some ad → ad.block ≠ g) :
    Calls Tryd.prog 44 #[.pointer (some ⟨p, 0, none⟩), .agg #[.int .i64 kind, .slice A n c]] w fun e w' => e = .returned (.int .i64 (M.come kind N).2) ∧ ∃ vs', Rm b0 p g q vs' (M.come kind N).1 w' ∧ Stp (Rf p g q vs) (Rf p g q vs') w w' := by
  have hN := hC.1
  by_cases c1 : kind < 8
  · obtain ⟨ch, rfl⟩ : ∃ ch : Nat, kind = ch := ⟨kind.toNat, by omega⟩
    have hch : ch < 8 := by omega
    have ho := hf.owed ch hch
    have hb := hf.back ch hch
    have hw := hf.win
    have hh := hf.heldLen ch hch
    have e1 : wrap64 (M.win - M.owed ch) = M.win - M.owed ch := by unfold wrap64; omega
    have e2 : wrap64 (M.owed ch + (n : Int)) = M.owed ch + (n : Int) := by unfold wrap64; omega
    by_cases c2 : (n : Int) > M.win - M.owed ch
    · have HE : M.come (ch : Int) N = (M, 8) := by unfold Mx.come; rw [if_pos c1, Int.toNat_natCast, hN, e1, if_pos c2]
      rw [HE]
      refine (ref_come.full ch hch A n c w h (by rw [e2]; exact decide_eq_true (by omega))).mono ?_
      rintro e w' ⟨rfl, hb⟩
      exact ⟨rfl, vs, h.below hb, .of_below hb⟩
    · have HE : M.come (ch : Int) N = ({ M with held := upd M.held ch (M.held ch ++ N), owed := upd M.owed ch (wrap64 (M.owed ch + (n : Nat))) }, 0) := by unfold Mx.come; rw [if_pos c1, Int.toNat_natCast, hN, e1, if_neg c2]
      rw [HE]
      exact ref_come.data ch hch A n c N w h hC (by rw [e2]; exact decide_eq_false (by omega)) (by omega) hb0 hA
  · by_cases c2 : kind < 16
    · obtain ⟨ch, hk⟩ : ∃ ch : Nat, kind = 8 + (ch : Int) := ⟨kind.toNat - 8, by omega⟩
      have hch : ch < 8 := by omega
      have hg := refGet_f 30 N 0 (Nat.le_refl _) hB (by omega)
      obtain ⟨⟨r1, r2, r3⟩, hr⟩ : ∃ r, getS N 0 = r := ⟨_, rfl⟩
      rw [hr] at hg
      have HE : M.come kind N = M.backS ch n (r1, r2, r3) := by unfold Mx.come; rw [if_neg c1, if_pos c2, hN, hr, show kind.toNat - 8 = ch by omega]
      rw [HE]
      refine (ref_come.given kind ch hk hch A n c N w h hC hnc 30 r1 r2 r3 hg).mono ?_
      rintro e w' ⟨rfl, hM, hS⟩
      exact ⟨rfl, vs, hM, hS⟩
    · have HE : M.come kind N = (M, 17) := by unfold Mx.come; rw [if_neg c1, if_neg c2]
      rw [HE]
      refine (ref_come.kind kind c2 A n c w h).mono ?_
      rintro e w' ⟨rfl, hb⟩
      exact ⟨rfl, vs, h.below hb, .of_below hb⟩
open Go.Proofs.YthehhbfiaaadgaaDoor.Crc Go.Proofs.YthehhbfiaaadgaaDoor.Num Go.Proofs.YthehhbfiaaadgaaDoor.Pure
theorem gets_eq (l : List Int) (hb : Byte l) (hl : l.length ≤ 140737488351232) (a : Int) (k : Nat) (hk : 2000000 ≤ k) : ∃ x, frame_Get.f (k + 1) l a = some x ∧ remoraref29_Get.f (k + 1) l a = some x := by
  unfold frame_Get.f remoraref29_Get.f
  by_cases h1 : a < 0
  · rw [if_pos (.inl h1), if_pos h1]
    exact ⟨_, rfl, by simp only [remoraref29_Get.j0]; rfl⟩
  rw [if_neg h1]
  simp only [remoraref29_Get.j0]
  by_cases h2 : (l.length : Int) < a
  · rw [if_pos (.inr h2), if_pos (decide_eq_true h2)]
    exact ⟨_, rfl, rfl⟩
  have e2 : decide (a > (l.length : Int)) = false := decide_eq_false h2
  rw [if_neg (fun h => h.elim h1 h2), e2, if_neg (show ¬ (false = true) by simp)]
  by_cases h3 : a = (l.length : Int)
  · rw [if_pos h3, if_pos h3]
    exact ⟨_, rfl, rfl⟩
  rw [if_neg h3, if_neg h3, w64' (n := a + 1) (by omega) (by omega), get_f (k + 1) l (a + 1) (by omega) hb (by omega), refGet_f k l (a + 1) (by omega) hb (by omega), Option.bind_some, Option.bind_some]
  rcases getS_range l (a + 1) hb with ⟨hw, _⟩ | ⟨hw, x, hn, hx, _, hf, hfl, _⟩
  · rw [if_neg hw, if_neg hw]
    exact ⟨_, rfl, rfl⟩
  rw [if_pos hw, if_pos hw]
  have hp := enc_pos x
  have h9 := enc_len9 (n := x) (by omega)
  generalize hfr : (getS l (a + 1)).2.1 = fr at hf ⊢
  generalize hnn : (getS l (a + 1)).1 = n at hn ⊢
  clear hfr hnn hw
  have hfr2 : a + 1 ≤ fr ∧ fr ≤ (l.length : Int) ∧ fr ≤ a + 10 := by omega
  clear hf hfl
  by_cases h4 : n ≤ 524288
  rotate_left
  · rw [if_neg h4, if_pos (show n > 524288 by omega)]
    exact ⟨_, rfl, rfl⟩
  rw [if_pos h4, if_neg (show ¬ n > 524288 by omega), w64' (n := n + 4) (by omega) (by omega), w64' (n := (l.length : Int) - fr) (by omega) (by omega)]
  by_cases h5 : n + 4 ≤ (l.length : Int) - fr
  rotate_left
  · rw [if_neg h5, if_pos (show n + 4 > (l.length : Int) - fr by omega)]
    exact ⟨_, rfl, rfl⟩
  rw [if_pos h5, if_neg (show ¬ (n + 4 > (l.length : Int) - fr) by omega), w64' (n := fr + n) (by omega) (by omega), w64' (n := fr + n + 4) (by omega) (by omega), if_pos ⟨by omega, by omega, by omega, by omega, by omega, by omega⟩]
  have hLO : ((l.take (fr + n + 4).toNat).drop a.toNat).length = (fr + n + 4 - a).toNat := by rw [List.length_drop, List.length_take]; omega
  have hLOb : Byte ((l.take (fr + n + 4).toNat).drop a.toNat) := fun y hy => hb y (List.mem_of_mem_take (List.mem_of_mem_drop hy))
  obtain ⟨o1, o2, ho, ho2⟩ := open_cases ((l.take (fr + n + 4).toNat).drop a.toNat) (by rw [hLO]; omega) (by rw [hLO]; omega)
  rw [if_pos (show 0 ≤ a by omega), if_pos (show a ≤ fr + n + 4 by omega), if_pos (show fr + n + 4 ≤ (l.length : Int) by omega), refOpen_f k _ hLOb (by rw [hLO]; omega) (by rw [hLO]; omega), ho, Option.bind_some, Option.bind_some]
  dsimp only
  have hB : ((l.take (fr + n).toNat).drop fr.toNat).length = n.toNat := by rw [List.length_drop, List.length_take]; omega
  rcases ho2 with rfl | rfl
  · rw [if_pos rfl, if_pos rfl, if_pos (show a < (l.length : Int) by omega), if_pos (show 0 ≤ fr by omega), if_pos (show fr ≤ fr + n by omega), if_pos (show fr + n ≤ (l.length : Int) by omega), if_pos (by rw [hB]; simp only [List.length_nil]; omega)]
    exact ⟨_, rfl, by rw [List.nil_append]⟩
  · rw [if_neg (show ¬ ((6 : Int) = 0) by decide), if_neg (show ¬ ((6 : Int) = 0) by decide)]
    exact ⟨_, rfl, rfl⟩
/-- What the document's Get tells at the head. -/
theorem refGetH (L : List Int) (hb : Byt L) (hl : L.length ≤ 140737488351232) (hg : frame_Get.f 2000001 L 0 = some (getH L)) : remoraref29_Get.f 2000001 L 0 = some (getH L) := by
  obtain ⟨x, h1, h2⟩ := gets_eq L hb hl 0 2000000 (Nat.le_refl _)
  rw [show (2000000 : Nat) + 1 = 2000001 from rfl] at h1 h2
  rw [hg] at h1
  injection h1 with h1
  rw [h2, h1]
open Go.Proofs.YthehhbfiaaadgaaDoor.Num Go.Proofs.YthehhbfiaaadgaaDoor.Pure
theorem Mx.Fit.cutL {M : Mx} (h : M.Fit) {L' : List Int} (hL : Byt L') {x' : Int} (hx : x' = 0 := by rfl) : Mx.Fit { M with L := L', x := x' } := ⟨h.win, h.way, h.owed, h.back, h.last, h.sent, h.held, h.out, hL, fun _ => hx⟩
theorem ref31_Take.bad {b0 p g q : Nat} {vs : Nat → Value} {M : Mx} (A : Option Addr) (m c : Nat) (w : World) (h : Rm b0 p g q vs M w) (he : M.e ≠ 0) : Calls Tryd.prog 28 #[.pointer (some ⟨p, 0, none⟩), .slice A m c] w fun e w' => e = .returned (.int .i64 M.e) ∧ w' = w := by
  have HE := Aside0.mk (ref_Err.at_ w h)
  have hne : (M.e != 0) = true := bne_iff_ne.mpr he
  clear h he
  go_enter Tryd.func28, Tryd.ntmps28
  go_wp2_with fail
  refine HE.out.mono ?_
  rintro e w1 ⟨rfl, rfl⟩
  go_wp2
  go_ret
  exact ⟨rfl, rfl⟩
set_option maxHeartbeats 8000000 in
set_option maxRecDepth 100000 in
theorem ref31_Take.at_ {b0 p g q : Nat} {vs : Nat → Value} {M : Mx} (A : Option Addr) (m c : Nat) (N : List Int) (w : World) (h : Rm b0 p g q vs M w) (hG : GT w) (hb0 : 0 < b0) (hbw : b0 ≤ w.heap.size) (hC : Kd.C (Kd.int .u8) w A m N) (hN : Byt N) (he : M.e = 0) (hf : M.Fit) (hl : M.L.length + m ≤ 1000000000) :
    Calls Tryd.prog 28 #[.pointer (some ⟨p, 0, none⟩), .slice A m c] w fun e w' => e = .returned (.int .i64 (Mx.takes (M.L.length + m + 1) { M with L := M.L ++ N }).e) ∧ ∃ vs', Rm b0 p g q vs' (Mx.takes (M.L.length + m + 1) { M with L := M.L ++ N }) w' ∧ Stp (Rf p g q vs) (Rf p g q vs') w w' := by
  obtain ⟨_, _, _, c3, _, c4⟩ := h.cells
  rw [he] at c4
  have hx := hf.x he
  have hs := h.strm
  rw [hx] at hs
  have hfd := rs_Feed.on _ b0 q M.L N (vs 17) A c w hs h.strm_q (fun k hk => .inr hk) h.hq0 (by rw [hC.1]; exact hC) (by rw [hC.1]; omega)
  rw [hC.1] at hfd
  have HFD := Aside0.mk hfd
  have hER := ref_Err.at_ w h
  rw [he] at hER
  have HER0 := Aside0.mk hER
  have HM := Aside0.mk h
  have HG := Aside0.mk hG
  have Hb := Aside0.mk (And.intro hb0 hbw)
  have HX := Aside0.mk (And.intro hN (And.intro he (And.intro hf (And.intro hl hC.1))))
  clear h hG hb0 hbw hC hN he hf hl hx hs hfd hER
  go_enter Tryd.func28, Tryd.ntmps28
  go_wp2_with fail
  refine HER0.out.mono ?_
  rintro e w0 ⟨rfl, hw0⟩
  have hw0 := hw0.symm
  subst hw0
  go_wp2_with fail
  refine HFD.out.mono ?_
  rintro e w1 ⟨rfl, hb1, hk1, v1, hs1, _⟩
  obtain ⟨hM1, hS1⟩ := HM.out.stream hs1 hb1 hk1
  have HM1 := Aside0.mk hM1
  have HS1 := Aside0.mk hS1
  clear hb1 hk1 hs1 hM1 hS1 c3 c4 HFD
  obtain ⟨MT, hMT⟩ : ∃ MT, Mx.takes (M.L.length + m + 1) { M with L := M.L ++ N } = MT := ⟨_, rfl⟩
  have HMT := Aside0.mk hMT
  have hM0 : ({ M with L := M.L ++ N, x := 0 } : Mx) = { M with L := M.L ++ N } := by rw [← HX.out.2.2.1.x HX.out.2.1]
  rw [hM0] at HM1
  have HF1 : Aside0 (Mx.Fit { M with L := M.L ++ N }) := ⟨⟨HX.out.2.2.1.win, HX.out.2.2.1.way, HX.out.2.2.1.owed, HX.out.2.2.1.back, HX.out.2.2.1.last, HX.out.2.2.1.sent, HX.out.2.2.1.held, HX.out.2.2.1.out, HX.out.2.2.1.L.append HX.out.1, HX.out.2.2.1.x⟩⟩
  have HL1 : Aside0 ((M.L ++ N).length < M.L.length + m + 1 ∧ (M.L ++ N).length ≤ 1000000000) := ⟨by have := HX.out.2.2.2; rw [List.length_append]; omega⟩
  clear hM0 hMT
  go_upto_block 0 with (fail)
  go_cut [6, 7] (fun s6 s7 wx => ∃ vs1, Aside0 (Rm b0 p g q vs1 MT wx) ∧ Aside0 (Stp (Rf p g q vs) (Rf p g q vs1) w wx))
  case first =>
    go_wp2_with fail
    go_loopg [6, 7] (M.L.length + m + 1) (fun gg v6 v7 w' => ∃ M1 vs1, Aside0 (M1.L.length < gg ∧ M1.L.length ≤ 1000000000) ∧ Aside0 M1.Fit ∧ Aside0 (Mx.takes gg M1 = MT) ∧ Aside0 (Rm b0 p g q vs1 M1 w') ∧ Aside0 (Stp (Rf p g q vs) (Rf p g q vs1) w w'))
    case atStart => exact ⟨_, _, HL1, HF1, HMT, HM1, HS1⟩
    case round =>
      clear HM1 HS1 HF1 HL1
      obtain ⟨M1, vs1, HL, HF, HT, HM1, HS1⟩ := hrel
      obtain ⟨_, _, _, c3, _, c4⟩ := HM1.out.cells
      by_cases he : M1.e = 0
      · rw [he] at c4
        have HE := Aside0.mk he
        have hx := HF.out.x he
        have hs := HM1.out.strm
        rw [hx] at hs
        have HX1 := Aside0.mk hx
        obtain ⟨hget, hgf⟩ := getH_f M1.L HF.out.L (by have := HL.out; omega)
        have hget := refGetH M1.L HF.out.L (by have := HL.out; omega) hget
        obtain ⟨gx, hg⟩ : ∃ g, getH M1.L = g := ⟨_, rfl⟩
        rw [hg] at hget hgf
        obtain ⟨kind, body, to_, er⟩ := gx
        dsimp only at hgf
        have HGE := Aside0.mk hg
        have hG1 : GT wr := HG.out.past (HS1.out.below b0 (fun k hk => (HM.out.foot k hk).1) Hb.out.2) Hb.out.1
        have hbs : b0 ≤ wr.heap.size := Nat.le_trans Hb.out.2 HS1.out.size
        have hlL : M1.L.length ≤ 140737488355328 := by have := HL.out; omega
        by_cases er0 : er = 0
        · subst er0
          rcases hgf with ⟨_, hk0, hk1, hbb, hbl, ht0, ht1⟩ | ⟨hgf, _⟩
          rotate_left
          · exact absurd rfl hgf
          have HNX := Aside0.mk (rs_Next.got _ b0 q 2000001 M1.L kind body to_ (vs1 17) wr hG1 hs hget (Int.le_of_lt ht0) ht1 HM1.out.hq0 HM1.out.strm_q (fun k hk => .inr (Nat.le_of_lt hk)) hbs hlL)
          have HBB := Aside0.mk (And.intro hbb (And.intro hbl (And.intro hk0 ht0)))
          have HBS := Aside0.mk hbs
          have k0 : ((0 : Int) == 0) = true := rfl
          clear he hx hs hget hg hG1 hbs hlL hk0 hk1 hbb hbl ht0 ht1
          go_wp2_with fail
          refine HNX.out.mono ?_
          rintro e w2 ⟨vb, v2, rfl, hR, hb2, hk2, hs2, _⟩
          obtain ⟨hM2, hS2⟩ := HM1.out.stream hs2 (hb2) (fun j hj hjq _ => hk2 j hj hjq)
          obtain ⟨A2, c2, rfl⟩ := Kd.R_slice hR
          obtain ⟨_, hcb, hCb⟩ := Kd.R_reads' hR
          obtain ⟨nb, hnb⟩ : ∃ nb, body.length = nb := ⟨_, rfl⟩
          rw [hnb] at hCb hcb ⊢
          have hb3 := below_alloc (Below.refl _ w2) (.cells #[.int .i64 kind, .slice A2 nb c2] 85)
          have hM3 := hM2.below hb3
          have HS3 := Aside0.mk (HS1.out.trans (hS2.trans (Stp.of_below hb3)))
          have hn3 := blk_new w2 (.cells #[.int .i64 kind, .slice A2 nb c2] 85)
          have e0 := blk_cell hn3 0
          have e1 := blk_cell hn3 1
          have hAg : ∀ ad, A2 = some ad → ad.block ≠ g := fun ad e => by
            subst e
            have h1 := Kd.R_base hR ad.block rfl
            have h2 := (HM1.out.foot g (.inr (.inl rfl))).2
            omega
          have HFR := Aside0.mk (ref_come.at_ kind HBB.out.2.2.1 A2 nb c2 body _ hM3 (Mx.Fit.cutL HF.out (L' := M1.L.drop to_.toNat) (HF.out.L.drop _)) (Kd.C_below hCb hb3) hcb HBB.out.1 (by have h2 := HBB.out.2.1; have h3 := HL.out.2; omega) (Nat.le_trans HBS.out (Nat.le_trans hb2.size hb3.size)) hAg)
          clear hR hb2 hk2 hs2 hM2 hS2 hCb hcb hnb hb3 hM3 hn3 HNX c3 c4 hAg
          go_wp2_with fail
          refine HFR.out.mono ?_
          rintro e w4 ⟨rfl, vs4, hM4, hS4⟩
          have HM4 := Aside0.mk hM4
          have HS4 := Aside0.mk (HS3.out.trans hS4)
          have hcp := hM4.hP
          have f44 := blk_frozen hcp 5
          have c44 := (hM4.cells).2.2.2.2.2
          clear hM4 hS4 hcp e0 e1 HFR
          go_wp2
          go_roundg (gk - 1)
          case measure => have := HL.out; omega
          case rel =>
            have hL := HL.out
            have hx1 := HX1.out
            have hstep : M1.step = { (Mx.come { M1 with L := M1.L.drop to_.toNat, x := 0 } kind body).1 with e := (Mx.come { M1 with L := M1.L.drop to_.toNat, x := 0 } kind body).2 } := by
              unfold Mx.step
              rw [HGE.out]
              dsimp only
              rw [show ({ M1 with L := M1.L.drop to_.toNat, x := 0 } : Mx) = { M1 with L := M1.L.drop to_.toNat } by rw [← hx1]]
            obtain ⟨hfit, hlt⟩ := Mx.step_fit HF.out HE.out hL.2 (by rw [HGE.out])
            refine ⟨M1.step, vs4, ⟨by omega⟩, ⟨hfit⟩, ⟨?_⟩, ⟨by rw [hstep]; exact HM4.out.putE _⟩, ⟨HS4.out.trans (Stp.set _ _ (.inl rfl))⟩⟩
            rw [← HT.out]
            obtain ⟨g', rfl⟩ : ∃ g', gk = g' + 1 := ⟨gk - 1, by omega⟩
            rw [Mx.takes_eq, if_pos HE.out, if_pos (by rw [HGE.out])]
            rfl
        · by_cases er4 : er = 4
          · subst er4
            rcases hgf with ⟨hgf, _⟩ | ⟨_, hgf⟩
            · exact absurd hgf (by decide)
            cases hgf
            have HNX := Aside0.mk (rs_Next.short _ b0 q 2000001 M1.L (vs1 17) wr hG1 hs hget)
            clear he hx hs hget hg hG1 hbs hlL er0
            go_wp2_with fail
            refine HNX.out.mono ?_
            rintro e w2 ⟨rfl, hb2⟩
            have hb3 := below_alloc (Below.refl _ w2) (.cells #[.int .i64 0, .slice none 0 0] 85)
            have hM3 := (HM1.out.below hb2).below hb3
            have HM3 := Aside0.mk hM3
            have HS3 := Aside0.mk (HS1.out.trans ((Stp.of_below hb2).trans (Stp.of_below hb3)))
            have c3 := (hM3.cells).2.2.2.1
            have q1 := (rs_cells hM3.hQ).2
            rw [HX1.out] at q1
            have hcp := hM3.hP
            have f44 := blk_frozen hcp 5
            have c44 := (hM3.cells).2.2.2.2.2
            have HER := Aside0.mk (rs_Err.at_ q 0 _ q1)
            clear hb2 hb3 hM3 hcp HNX c4
            go_wp2_with fail
            refine HER.out.mono ?_
            rintro e w5 ⟨rfl, rfl⟩
            go_wp2
            go_meet
            refine ⟨vs1, ⟨?_⟩, ⟨HS3.out.trans (Stp.set _ _ (.inl rfl))⟩⟩
            have h5 := HM3.out.putE 0
            rw [show ({ M1 with e := 0 } : Mx) = M1 by rw [← HE.out]] at h5
            rw [← HT.out, Mx.takes_stop _ _ (.inr (by rw [HGE.out]))]
            exact h5
          · rcases hgf with ⟨hgf, _⟩ | ⟨_, hgf⟩
            · exact absurd hgf er0
            cases hgf
            have HNX := Aside0.mk (rs_Next.wrong _ b0 q 2000001 M1.L er (beq_eq_false_iff_ne.mpr er0) (beq_eq_false_iff_ne.mpr er4) (bne_iff_ne.mpr er0) (vs1 17) wr hG1 hs hget HM1.out.hq0 HM1.out.strm_q hbs)
            have HER4 := Aside0.mk (And.intro er0 er4)
            clear he hx hs hget hg hG1 hbs hlL er0 er4
            go_wp2_with fail
            refine HNX.out.mono ?_
            rintro e w2 ⟨rfl, hb2, hk2, hs2⟩
            obtain ⟨hM2, hS2⟩ := HM1.out.stream hs2 hb2 (fun j hj hjq _ => hk2 j hj hjq)
            have hb3 := below_alloc (Below.refl _ w2) (.cells #[.int .i64 0, .slice none 0 0] 85)
            have hM3 := hM2.below hb3
            have HM3 := Aside0.mk hM3
            have HS3 := Aside0.mk (HS1.out.trans (hS2.trans (Stp.of_below hb3)))
            have c3 := (hM3.cells).2.2.2.1
            have q1 := (rs_cells hM3.hQ).2
            have hcp := hM3.hP
            have f44 := blk_frozen hcp 5
            have c44 := (hM3.cells).2.2.2.2.2
            have HER := Aside0.mk (rs_Err.at_ q er _ q1)
            clear hb2 hk2 hs2 hM2 hS2 hb3 hM3 hcp HNX c4
            go_wp2_with fail
            refine HER.out.mono ?_
            rintro e w5 ⟨rfl, rfl⟩
            go_wp2
            go_meet
            refine ⟨_, ⟨?_⟩, ⟨HS3.out.trans (Stp.set _ _ (.inl rfl))⟩⟩
            have hL := HL.out
            obtain ⟨g', rfl⟩ : ∃ g', gk = g' + 1 := ⟨gk - 1, by omega⟩
            rw [← HT.out, Mx.takes_eq, if_pos HE.out, HGE.out, if_neg HER4.out.1, if_neg HER4.out.2]
            exact HM3.out.putE er
      · have k1 : (M1.e == 0) = false := beq_eq_false_iff_ne.mpr he
        have HE := Aside0.mk he
        clear he
        go_wp2
        go_meet
        exact ⟨vs1, ⟨by rw [← HT.out, Mx.takes_stop _ _ (.inl HE.out)]; exact HM1.out⟩, HS1⟩
  obtain ⟨vs1, HMc, HSc⟩ := hcut
  obtain ⟨_, _, _, _, _, c4⟩ := HMc.out.cells
  go_wp2
  go_ret
  rw [HMT.out]
  exact ⟨rfl, vs1, HMc.out, HSc.out⟩
end Go.Proofs.YthehhbfiaaadgaaDoor.P
