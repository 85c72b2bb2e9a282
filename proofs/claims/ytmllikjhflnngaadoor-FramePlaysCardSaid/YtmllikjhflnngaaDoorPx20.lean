-- Written by a program of the session (wip/tool/mk.py) out of the translation; Lean checks it.
import Derived.Test.YtmllikjhflnngaaDoorPx0
import Derived.Test.YtmllikjhflnngaaDoorPx8
import Derived.Test.YtmllikjhflnngaaDoorPx9
import Derived.Test.YtmllikjhflnngaaDoorPx12
import Derived.Test.YtmllikjhflnngaaDoorPx13
namespace Go.Proofs.YtmllikjhflnngaaDoor.P
open Go.RowKit Go.Proofs.YtmllikjhflnngaaDoorW.PrintWords Go.Proofs.YtmllikjhflnngaaDoorW.PrintLast Go.Proofs.YtmllikjhflnngaaDoorW.PrintMore
attribute [local go_sem] max2_int min2_int max_two min_two max_three min_three max_four min_four   -- for this text's walks alone
set_option linter.unusedVariables false
set_option linter.unusedSimpArgs false

/-! ### remoralaw29_FramePlays: function 7, a contract of my own -/
theorem u8_M {w : World} {base : Nat} {ok : Nat → Prop} {x : Int} {cs : List Value} : (Kd.int .u8).M w base ok x cs ↔ cs = [.int .u8 x] := Iff.rfl
theorem u8_K {w : World} {x : Int} {cs : List Value} : (Kd.int .u8).K w x cs ↔ cs = [.int .u8 x] := Iff.rfl
theorem u8_reps {R : Int → List Value → Prop} (hR : ∀ x cs, R x cs → cs = [.int .u8 x]) {xs : List Int} {cs : List Value} (h : Reps R 1 xs cs) : cs = xs.map (Value.int .u8) := by
  obtain ⟨h1, h2⟩ := h
  apply List.ext_getElem?
  intro j
  rw [List.getElem?_map]
  by_cases hj : j < xs.length
  · have h3 := hR _ _ (h2 j xs[j] (List.getElem?_eq_getElem hj))
    have h4 : ((cs.drop (j * 1)).take 1)[0]? = some (.int .u8 xs[j]) := by rw [h3]; rfl
    rw [Nat.mul_one, List.getElem?_take, if_pos (by omega), List.getElem?_drop] at h4
    rw [List.getElem?_eq_getElem hj]
    simpa using h4
  · rw [List.getElem?_eq_none (by omega), List.getElem?_eq_none (by omega)]
    rfl
theorem u8_reps_mk {R : Int → List Value → Prop} (hR : ∀ x, R x [.int .u8 x]) (xs : List Int) : Reps R 1 xs (xs.map (Value.int .u8)) := by
  refine ⟨by simp, fun j p hj => ?_⟩
  obtain ⟨h1, rfl⟩ := List.getElem?_eq_some_iff.1 hj
  have e : ((xs.map (Value.int .u8)).drop (j * 1)).take 1 = [.int .u8 xs[j]] := by
    rw [Nat.mul_one, List.drop_eq_getElem_cons (by simpa using h1)]
    simp
  rw [e]
  exact hR _
/-- Bytes behind a row that may begin inside its block. -/
theorem Qrows_run {W : World} (base : Nat) (ty : TypeId) (v : Value) (xs ys : List Int) (A : Option Addr) (m c : Nat) (ok : Nat → Prop) (HO : (Kd.int .u8).Q 5 W base ok v xs) (HC : Kd.C (Kd.int .u8) W A m ys) (hfresh : ∀ k, W.heap.size ≤ k → ok k) (hbase : base ≤ W.heap.size) (hl : xs.length + m ≤ 140737488355328) :
    ∃ v1 w1, (Builtin.append_ #[22, 22] ty #[v, .slice A m c]).run Tryd.prog W = .ok v1 w1 ∧ (Kd.int .u8).Q 5 w1 base ok v1 (xs ++ ys) ∧ W.grownBy w1 v.ownBlock ∧ (v1.ownBlock = v.ownBlock ∨ ∃ b, v1.ownBlock = some b ∧ W.heap.size ≤ b) := by
  obtain ⟨i0, hi, hzz⟩ := Option.map_eq_some_iff.1 info5
  simp only [Prod.mk.injEq] at hzz
  obtain ⟨hz0, hz1, hz2⟩ := hzz
  have hm : ys.length = m := HC.1
  obtain ⟨h0, inner, hown, hr⟩ := HO
  by_cases hm0 : m = 0
  · subst hm0
    obtain rfl : ys = [] := List.eq_nil_of_length_eq_zero hm
    refine ⟨v, W, ?_, by rw [List.append_nil]; exact ⟨h0, inner, hown, hr⟩, World.grownBy.refl W _, .inl rfl⟩
    rcases hown.2 with ⟨hn, A', rfl, _⟩ | ⟨g, off, cap, cur, rfl, _, _, hnc, _⟩
    · cases A <;> cases A' <;> simp [Builtin.append_, run_underlying Tryd.underlying22, sizeOf, typeInfo, hi, Builtin.lenOf, Builtin.firstCells, storeCells, loadCells, loadCellsFrom]
    · cases A <;> simp [Builtin.append_, run_underlying Tryd.underlying22, sizeOf, typeInfo, hi, Builtin.lenOf, Builtin.firstCells, hnc, storeCells, loadCells, loadCellsFrom]
  · obtain ⟨ad, rfl, _⟩ := HC.2.2 (by omega)
    obtain ⟨news, hnr, hnc⟩ := ReadsRow.inner_ HC
    have en : news = ys.map (Value.int .u8) := u8_reps (fun x cs h => h) hnr
    have ei : inner = xs.map (Value.int .u8) := u8_reps (fun x cs h => h) hr
    subst en ei
    obtain ⟨v1, w1, hrun, hq1, hg, hat⟩ := q_append (P := Tryd.prog) W base 22 ty 5 i0 (.int .u8 0) 1 1 Tryd.underlying22 hi hz0 hz1 hz2 rfl (by decide) v xs.length _ hown ad m c _ (by simp [hm]) hnc (fun u hu => by obtain ⟨q, _, rfl⟩ := List.mem_map.1 hu; rfl) (by omega) (by simp only [maxLen]; omega) (by omega) hbase
    refine ⟨v1, w1, hrun, ⟨fun k hk => ?_, (xs ++ ys).map (Value.int .u8), ?_, u8_reps_mk (R := (Kd.int .u8).M w1 base fun k => ok k ∧ some k ≠ v1.ownBlock) (fun x => rfl) _⟩, hg, hat⟩
    · rcases hat with hat | ⟨b, hb, hle⟩
      · exact h0 k (hat ▸ hk)
      · rw [hb] at hk
        injection hk with hk
        exact hfresh k (by omega)
    · rw [List.map_append, List.length_append, hm]
      exact hq1
section
variable {ops : Array Oper} {rest : List Oper} {o : Oper} {a : Act} {Q' : Exit → Act → World → Prop}
theorem Qrows_append {w0 W : World} (base : Nat) (hgd : o.guard = none) (s x : Operand) (ho : o.op = .call { callee := .builtin .append, args := #[s, x], argTypes := #[22, 22] }) (v : Value) (xs ys : List Int) (A : Option Addr) (m c : Nat) (ok : Nat → Prop) (hs : a.eval s = v) (hx : a.eval x = .slice A m c)
    (HO : (Kd.int .u8).Q 5 W base ok v xs) (HC : Kd.C (Kd.int .u8) W A m ys) (hfresh : ∀ k, W.heap.size ≤ k → ok k) (HB : Below base w0 W) (hbase : base ≤ W.heap.size) (hl : xs.length + m ≤ 140737488355328)
    (h : ∀ v1 w1, (Kd.int .u8).Q 5 w1 base ok v1 (xs ++ ys) → Below base w0 w1 → W.grownBy w1 v.ownBlock → (v1.ownBlock = v.ownBlock ∨ ∃ b, v1.ownBlock = some b ∧ W.heap.size ≤ b) → wpList Tryd.prog ops Q' rest (a.put o.dst v1) w1) : wpList Tryd.prog ops Q' (o :: rest) a W := by
  obtain ⟨v1, w1, hr, h1, h3, h4⟩ := Qrows_run base o.type v xs ys A m c ok HO HC hfresh hbase hl
  refine wpList_plain hgd fun K hK => ?_
  unfold Oper.wp execOp
  simp only [ho, resolve, invoke, builtin, Sem.run_bind, Sem.run_pure, Result.andThen_ok, List.map_toArray, List.map_cons, List.map_nil, hs, hx, hr]
  exact hK _ _ (h v1 w1 h1 (HB.grown h3 hbase (fun k hk => Kd.Q_base HO k hk)) h3 h4)
end

theorem rs_cells {w : World} {p : Nat} {v : Value} {e : Int} (h : w.heap[p]? = some (.cells #[v, .int .i64 e] 76 (0, 0))) :
    w.cell? ⟨p, 0, none⟩ = some v ∧ w.cell? ⟨p, 1, none⟩ = some (.int .i64 e) := by
  constructor <;> (rw [cell_of_row w p _ _ 76 (0, 0) h]; rfl)
theorem ref_New.made (w : World) : Calls Tryd.prog 23 #[] w fun e w' => e = .returned (.pointer (some ⟨w.heap.size, 0, none⟩)) ∧ w' = w.alloc (.cells #[.slice none 0 0, .int .i64 0] 76) := by
  go_enter Tryd.func23, Tryd.ntmps23
  go_wp2
  go_ret
  exact ⟨rfl, rfl⟩
theorem rs_Left.at_ (p : Nat) (A : Option Addr) (m c : Nat) (w : World) (h : w.cell? ⟨p, 0, none⟩ = some (.slice A m c)) : Calls Tryd.prog 26 #[.pointer (some ⟨p, 0, none⟩)] w fun e w' => e = .returned (.int .i64 m) ∧ w' = w := by
  go_enter Tryd.func26, Tryd.ntmps26
  go_wp2
  go_ret
  exact ⟨rfl, rfl⟩
theorem rs_Err.at_ (p : Nat) (x : Int) (w : World) (h : w.cell? ⟨p, 1, none⟩ = some (.int .i64 x)) : Calls Tryd.prog 27 #[.pointer (some ⟨p, 0, none⟩)] w fun e w' => e = .returned (.int .i64 x) ∧ w' = w := by
  go_enter Tryd.func27, Tryd.ntmps27
  go_wp2
  go_ret
  exact ⟨rfl, rfl⟩
theorem rs_Feed.off (p : Nat) (x : Int) (B : Option Addr) (n cb : Nat) (w : World) (h : w.cell? ⟨p, 1, none⟩ = some (.int .i64 x)) (hx : (x == 0) = false) :
    Calls Tryd.prog 24 #[.pointer (some ⟨p, 0, none⟩), .slice B n cb] w fun e w' => e = .returned (.tuple #[]) ∧ Below w.heap.size w w' := by
  go_enter Tryd.func24, Tryd.ntmps24
  go_wp2
  all_goals (try go_region)
  all_goals (try go_wp2)
  all_goals refine bodyPost_end (results_none rfl _ _ _) rfl ?_
  all_goals exact ⟨rfl, by first | exact Below.refl _ _ | exact below_drew (Below.refl _ _)⟩

/-- The document's stream in memory: its row may begin inside its block. -/
structure RStrm (ok : Nat → Prop) (b0 p : Nat) (L : List Int) (x : Int) (v : Value) (w : World) : Prop where
  hP : w.heap[p]? = some (.cells #[v, .int .i64 x] 76 (0, 0))
  hR : (Kd.int .u8).Q 5 w b0 ok v L
theorem RStrm.slice {ok : Nat → Prop} {b0 p : Nat} {L : List Int} {x : Int} {v : Value} {w : World} (h : RStrm ok b0 p L x v w) : ∃ A c, v = .slice A L.length c ∧ L.length ≤ c ∧ Kd.C (Kd.int .u8) w A L.length L := Kd.Q_reads h.hR
theorem RStrm.below {ok : Nat → Prop} {b0 p : Nat} {L : List Int} {x : Int} {v : Value} {w w' : World} (h : RStrm ok b0 p L x v w) (hb : Below w.heap.size w w') : RStrm ok b0 p L x v w' :=
  ⟨(hb.block p (blk_lt h.hP)).trans h.hP, Kd.Q_below h.hR hb⟩

set_option maxHeartbeats 2000000 in
theorem rs_Feed.on (ok : Nat → Prop) (b0 p : Nat) (L M : List Int) (v : Value) (B : Option Addr) (cb : Nat) (w : World) (h : RStrm ok b0 p L 0 v w) (hp : ∀ k, ok k → k ≠ p) (hf : ∀ k, w.heap.size ≤ k → ok k) (hb0 : b0 ≤ p) (hC : Kd.C (Kd.int .u8) w B M.length M) (hl : L.length + M.length ≤ 140737488355328) :
    Calls Tryd.prog 24 #[.pointer (some ⟨p, 0, none⟩), .slice B M.length cb] w fun e w' => e = .returned (.tuple #[]) ∧ Below b0 w w' ∧ (∀ j, j < w.heap.size → j ≠ p → v.ownBlock ≠ some j → w'.heap[j]? = w.heap[j]?) ∧ ∃ v', RStrm ok b0 p (L ++ M) 0 v' w' ∧ (v'.ownBlock = v.ownBlock ∨ ∃ b, v'.ownBlock = some b ∧ w.heap.size ≤ b) := by
  obtain ⟨A, c, rfl, _, _⟩ := h.slice
  have HP := Aside0.mk h.hP
  have HR := Aside0.mk h.hR
  have q0 := (rs_cells h.hP).1
  have q1 := (rs_cells h.hP).2
  have hne : p ≠ p → False := fun h => h rfl
  have hlt := blk_lt h.hP
  have Hlt := Aside0.mk hlt
  have HC := Aside0.mk hC
  have HL := Aside0.mk hl
  have Hp := Aside0.mk hp
  have Hf := Aside0.mk hf
  have Hb0 := Aside0.mk hb0
  clear h hC hl hp hf hne hlt hb0
  go_enter Tryd.func24, Tryd.ntmps24
  go_wp2_with ((with_reducible refine gate_builtin (b := .append) (xs := #[.tmp 17, .tmp 18]) rfl ?_); (try (refine gate_guard (by rfl) ?_; dsimp only)); at_builtin; refine Qrows_append (w0 := w) b0 rfl (.tmp 17) (.tmp 18) rfl (.slice A L.length c) L M B M.length cb ok rfl rfl ?aO ?aR ?aF ?aB ?aS ?aL ?_; (case aR => exact HC.out); (case aB => exact Below.refl _ _); (case aF => exact Hf.out); (case aO => exact HR.out); (case aS => exact Nat.le_of_lt (Nat.lt_of_le_of_lt Hb0.out Hlt.out)); (case aL => have := HL.out; omega); intro v5 w5 ho hb5 hg hat; obtain ⟨A5, c5, rfl, _⟩ := Kd.Q_slice ho; have HAT := Aside0.mk hat; clear hat; generalize hm5 : (L ++ M).length = m5 at ho HAT ⊢; replace hm5 := Aside0.mk hm5; have HO5 := Aside0.mk ho; have HB5 := Aside0.mk hb5; have HG5 := Aside0.mk hg; have hP5 := Aside0.mk ((hg.block p Hlt.out (fun e => Hp.out p (HR.out.1 p e.symm) rfl)).trans HP.out); have f7 := blk_frozen hP5.out 0; have q5 := (rs_cells hP5.out).1; have q6 := (rs_cells hP5.out).2; clear ho hb5 hg q0 q1)
  refine bodyPost_end (results_none rfl _ _ _) rfl ?_
  refine ⟨rfl, HB5.out.setCell (p := ⟨p, 0, none⟩) Hb0.out _, fun j hj hjp hjo => (Below.heap_setCell w5 ⟨p, 0, none⟩ _ j hjp).trans (HG5.out.block j hj (fun e => hjo e.symm)), .slice A5 m5 c5, ⟨blk_set hP5.out 0 _, Kd.Q_far HO5.out (p := ⟨p, 0, none⟩) Hp.out _⟩, HAT.out⟩

theorem rs_Next.off (p : Nat) (x : Int) (w : World) (h : w.cell? ⟨p, 1, none⟩ = some (.int .i64 x)) (hx : (x != 0) = true) :
    Calls Tryd.prog 25 #[.pointer (some ⟨p, 0, none⟩)] w fun e w' => e = .returned (.tuple #[.agg #[.int .i64 0, .slice none 0 0], .bool false]) ∧ Below w.heap.size w w' := by
  have hlt := World.block_lt_of_cell? w _ h
  have h1 : (w.alloc (.cells #[.int .i64 0, .slice none 0 0] 29)).cell? ⟨p, 1, none⟩ = some (.int .i64 x) := ((below_alloc (Below.refl _ w) _).cell (p := ⟨p, 1, none⟩) hlt).trans h
  go_enter Tryd.func25, Tryd.ntmps25
  go_wp2
  all_goals (try go_region)
  all_goals (try go_wp2)
  all_goals (try (refine bodyPost_ret (by simp [results, Tryd.results25, go_sem]; try rfl) rfl ?_))
  all_goals exact ⟨rfl, by first | exact below_alloc (Below.refl _ w) _ | exact below_drew (below_alloc (Below.refl _ w) _)⟩
set_option maxHeartbeats 2000000 in
theorem rs_Next.short (ok : Nat → Prop) (b0 p : Nat) (k : Nat) (L : List Int) (v : Value) (w : World) (hG : GT w) (h : RStrm ok b0 p L 0 v w) (hg : remoraref29_Get.f k L 0 = some (0, [], 0, 4)) :
    Calls Tryd.prog 25 #[.pointer (some ⟨p, 0, none⟩)] w fun e w' => e = .returned (.tuple #[.agg #[.int .i64 0, .slice none 0 0], .bool false]) ∧ Below w.heap.size w w' := by
  obtain ⟨A, c, rfl, hc, hC⟩ := h.slice
  have hlt := blk_lt h.hP
  have HB0 := Aside0.mk (below_alloc (Below.refl _ w) (.cells #[.int .i64 0, .slice none 0 0] 29))
  have q0 : (w.alloc (.cells #[.int .i64 0, .slice none 0 0] 29)).cell? ⟨p, 0, none⟩ = some (.slice A L.length c) := (HB0.out.cell (p := ⟨p, 0, none⟩) hlt).trans (rs_cells h.hP).1
  have q1 : (w.alloc (.cells #[.int .i64 0, .slice none 0 0] 29)).cell? ⟨p, 1, none⟩ = some (.int .i64 0) := (HB0.out.cell (p := ⟨p, 1, none⟩) hlt).trans (rs_cells h.hP).2
  have r0 : (w.alloc (.cells #[.int .i64 0, .slice none 0 0] 29)).heap[w.heap.size]? = some (.cells #[.int .i64 0, .slice none 0 0] 29 (0, 0)) := fr_new w _
  have sz0 := fr_size w (.cells #[.int .i64 0, .slice none 0 0] 29)
  have HG := Aside0.mk (hG.alloc (.cells #[.int .i64 0, .slice none 0 0] 29))
  have HC := Aside0.mk (Kd.C_alloc hC (.cells #[.int .i64 0, .slice none 0 0] 29))
  have HH := Aside0.mk hg
  have Hlt := Aside0.mk hlt
  have hne : ((0 : Int) != 0) = false := rfl
  clear h hG hC hlt hg
  go_enter Tryd.func25, Tryd.ntmps25
  go_wp2_with fail
  refine (remoraref29_Get.calls k A c L 0 0 [] 0 4 _ HC.out hc HH.out).mono ?_
  rintro e w1 ⟨v1, rfl, hR1, hb1⟩
  obtain ⟨A1, c1, rfl⟩ := Kd.R_slice hR1
  have r1 := Aside0.mk ((hb1.block w.heap.size (by omega)).trans r0)
  have hs1 := hb1.size
  have hHB1 := Aside0.mk (below_step HB0.out hb1)
  have r2 := Aside0.mk (((below_alloc (Below.refl _ w1) (.cells #[.int .i64 0, .slice A1 0 c1] 29)).block w.heap.size (by omega)).trans r1.out)
  have x0 : (w1.alloc (.cells #[.int .i64 0, .slice A1 0 c1] 29)).cell? ⟨w.heap.size, 0, none⟩ = some (.int .i64 0) := by rw [cell_of_row _ _ _ _ 29 (0, 0) r2.out]; rfl
  have x1 : (w1.alloc (.cells #[.int .i64 0, .slice A1 0 c1] 29)).cell? ⟨w.heap.size, 1, none⟩ = some (.slice none 0 0) := by rw [cell_of_row _ _ _ _ 29 (0, 0) r2.out]; rfl
  have f0 := blk_frozen r2.out 0
  have f1 := blk_frozen r2.out 1
  have hne1 : w.heap.size ≠ w1.heap.size := by omega
  have HB2 := Aside0.mk (below_alloc hHB1.out (.cells #[.int .i64 0, .slice A1 0 c1] 29))
  clear hb1 hR1 r0 sz0 q0 q1 hs1 hHB1
  go_wp2
  refine bodyPost_ret (results_ct rfl _ _ w.heap.size 29 #[.int .i64 0, .slice none 0 0] (0, 0) _ rfl (blk_put (blk_put r2.out 0 (.int .i64 0) rfl) 1 (.slice none 0 0) rfl) Tryd.underlying29 rfl (by kernel_rfl)) rfl ?_
  exact ⟨rfl, below_set (below_set HB2.out (Nat.le_refl _)) (Nat.le_refl _)⟩
set_option maxHeartbeats 2000000 in
theorem rs_Next.wrong (ok : Nat → Prop) (b0 p : Nat) (k : Nat) (L : List Int) (x : Int) (hx0 : (x == 0) = false) (hx4 : (x == 4) = false) (hx5 : (x != 0) = true) (v : Value) (w : World) (hG : GT w) (h : RStrm ok b0 p L 0 v w) (hg : remoraref29_Get.f k L 0 = some (0, [], 0, x)) (hb0 : b0 ≤ p) (hp : ∀ k, ok k → k ≠ p) (hbs : b0 ≤ w.heap.size) :
    Calls Tryd.prog 25 #[.pointer (some ⟨p, 0, none⟩)] w fun e w' => e = .returned (.tuple #[.agg #[.int .i64 0, .slice none 0 0], .bool false]) ∧ Below b0 w w' ∧ (∀ j, j < w.heap.size → j ≠ p → w'.heap[j]? = w.heap[j]?) ∧ RStrm ok b0 p L x v w' := by
  obtain ⟨A, c, rfl, hc, hC⟩ := h.slice
  have hlt := blk_lt h.hP
  have HB0 := Aside0.mk (below_alloc (Below.refl _ w) (.cells #[.int .i64 0, .slice none 0 0] 29))
  have q0 : (w.alloc (.cells #[.int .i64 0, .slice none 0 0] 29)).cell? ⟨p, 0, none⟩ = some (.slice A L.length c) := (HB0.out.cell (p := ⟨p, 0, none⟩) hlt).trans (rs_cells h.hP).1
  have q1 : (w.alloc (.cells #[.int .i64 0, .slice none 0 0] 29)).cell? ⟨p, 1, none⟩ = some (.int .i64 0) := (HB0.out.cell (p := ⟨p, 1, none⟩) hlt).trans (rs_cells h.hP).2
  have r0 : (w.alloc (.cells #[.int .i64 0, .slice none 0 0] 29)).heap[w.heap.size]? = some (.cells #[.int .i64 0, .slice none 0 0] 29 (0, 0)) := fr_new w _
  have sz0 := fr_size w (.cells #[.int .i64 0, .slice none 0 0] 29)
  have HG := Aside0.mk (hG.alloc (.cells #[.int .i64 0, .slice none 0 0] 29))
  have HC := Aside0.mk (Kd.C_alloc hC (.cells #[.int .i64 0, .slice none 0 0] 29))
  have HH := Aside0.mk hg
  have Hlt := Aside0.mk hlt
  have HP := Aside0.mk h.hP
  have HR := Aside0.mk h.hR
  have Hb0 := Aside0.mk hb0
  have Hp := Aside0.mk hp
  have Hbs := Aside0.mk hbs
  have hne : ((0 : Int) != 0) = false := rfl
  clear h hG hC hlt hg hb0 hp hbs
  go_enter Tryd.func25, Tryd.ntmps25
  go_wp2_with fail
  refine (remoraref29_Get.calls k A c L 0 0 [] 0 x _ HC.out hc HH.out).mono ?_
  rintro e w1 ⟨v1, rfl, hR1, hb1⟩
  obtain ⟨A1, c1, rfl⟩ := Kd.R_slice hR1
  have r1 := Aside0.mk ((hb1.block w.heap.size (by omega)).trans r0)
  have hs1 := hb1.size
  have hHB1 := Aside0.mk (below_step HB0.out hb1)
  have r2 := Aside0.mk (((below_alloc (Below.refl _ w1) (.cells #[.int .i64 0, .slice A1 0 c1] 29)).block w.heap.size (by omega)).trans r1.out)
  have x0 : (w1.alloc (.cells #[.int .i64 0, .slice A1 0 c1] 29)).cell? ⟨w.heap.size, 0, none⟩ = some (.int .i64 0) := by rw [cell_of_row _ _ _ _ 29 (0, 0) r2.out]; rfl
  have x1 : (w1.alloc (.cells #[.int .i64 0, .slice A1 0 c1] 29)).cell? ⟨w.heap.size, 1, none⟩ = some (.slice none 0 0) := by rw [cell_of_row _ _ _ _ 29 (0, 0) r2.out]; rfl
  have f0 := blk_frozen r2.out 0
  have f1 := blk_frozen r2.out 1
  have hne1 : w.heap.size ≠ w1.heap.size := by omega
  have HB2 := Aside0.mk (below_alloc hHB1.out (.cells #[.int .i64 0, .slice A1 0 c1] 29))
  have p2 := Aside0.mk ((HB2.out.block p Hlt.out).trans HP.out)
  have fp := blk_frozen p2.out 1
  have cp := (rs_cells p2.out).2
  have hpw : p ≠ w.heap.size := by have := Hlt.out; omega
  have hwp : w.heap.size ≠ p := hpw.symm
  have Hpw := Aside0.mk hpw
  clear hb1 hR1 r0 sz0 q0 q1 hs1 hHB1
  go_wp2
  have s2 := blk_far r2.out (p := ⟨p, 1, none⟩) (Ne.symm Hpw.out) (.int .i64 x)
  refine bodyPost_ret (results_ct rfl _ _ w.heap.size 29 #[.int .i64 0, .slice none 0 0] (0, 0) _ rfl (blk_put (blk_put s2 0 (.int .i64 0) rfl) 1 (.slice none 0 0) rfl) Tryd.underlying29 rfl (by kernel_rfl)) rfl ?_
  have hk : ∀ j, j < w.heap.size → j ≠ p → ((((w1.alloc (.cells #[.int .i64 0, .slice A1 0 c1] 29)).setCell ⟨p, 1, none⟩ (.int .i64 x)).setCell ⟨w.heap.size, 0, none⟩ (.int .i64 0)).setCell ⟨w.heap.size, 1, none⟩ (.slice none 0 0)).heap[j]? = w.heap[j]? := fun j hj hjp =>
    (Below.heap_setCell _ ⟨w.heap.size, 1, none⟩ _ j (show j ≠ w.heap.size by omega)).trans ((Below.heap_setCell _ ⟨w.heap.size, 0, none⟩ _ j (show j ≠ w.heap.size by omega)).trans ((Below.heap_setCell _ ⟨p, 1, none⟩ _ j hjp).trans (HB2.out.block j hj)))
  exact ⟨rfl, (((HB2.out.mono Hbs.out).setCell (p := ⟨p, 1, none⟩) Hb0.out _).setCell (p := ⟨w.heap.size, 0, none⟩) Hbs.out _).setCell (p := ⟨w.heap.size, 1, none⟩) Hbs.out _, hk,
    blk_far (blk_far (blk_set p2.out 1 (.int .i64 x)) (p := ⟨w.heap.size, 0, none⟩) Hpw.out (.int .i64 0)) (p := ⟨w.heap.size, 1, none⟩) Hpw.out (.slice none 0 0), Kd.Q_step HR.out (fun k ho hlt => hk k hlt (Hp.out k ho))⟩

set_option maxHeartbeats 4000000 in
theorem rs_Next.got (ok : Nat → Prop) (b0 p : Nat) (k : Nat) (L : List Int) (r1 : Int) (F : List Int) (to_ : Int) (v : Value) (w : World) (hG : GT w) (h : RStrm ok b0 p L 0 v w) (hg : remoraref29_Get.f k L 0 = some (r1, F, to_, 0)) (hto0 : 0 ≤ to_) (hto1 : to_ ≤ (L.length : Int))
    (hb0 : b0 ≤ p) (hp : ∀ k, ok k → k ≠ p) (hf : ∀ k, w.heap.size < k → ok k) (hbs : b0 ≤ w.heap.size) (hl : L.length ≤ 140737488355328) :
    Calls Tryd.prog 25 #[.pointer (some ⟨p, 0, none⟩)] w fun e w' => ∃ v1 v' : Value, e = .returned (.tuple #[.agg #[.int .i64 r1, v1], .bool true]) ∧ (Kd.int .u8).R 5 w' w.heap.size (fun _ => True) v1 F ∧ Below b0 w w' ∧ (∀ j, j < w.heap.size → j ≠ p → w'.heap[j]? = w.heap[j]?) ∧ RStrm ok b0 p (L.drop to_.toNat) 0 v' w' ∧ v'.ownBlock = v.ownBlock := by
  obtain ⟨A, c, rfl, hc, hC⟩ := h.slice
  have hlt := blk_lt h.hP
  have HB0 := Aside0.mk (below_alloc (Below.refl _ w) (.cells #[.int .i64 0, .slice none 0 0] 29))
  have q0 : (w.alloc (.cells #[.int .i64 0, .slice none 0 0] 29)).cell? ⟨p, 0, none⟩ = some (.slice A L.length c) := (HB0.out.cell (p := ⟨p, 0, none⟩) hlt).trans (rs_cells h.hP).1
  have q1 : (w.alloc (.cells #[.int .i64 0, .slice none 0 0] 29)).cell? ⟨p, 1, none⟩ = some (.int .i64 0) := (HB0.out.cell (p := ⟨p, 1, none⟩) hlt).trans (rs_cells h.hP).2
  have r0 : (w.alloc (.cells #[.int .i64 0, .slice none 0 0] 29)).heap[w.heap.size]? = some (.cells #[.int .i64 0, .slice none 0 0] 29 (0, 0)) := fr_new w _
  have sz0 := fr_size w (.cells #[.int .i64 0, .slice none 0 0] 29)
  have HG := Aside0.mk (hG.alloc (.cells #[.int .i64 0, .slice none 0 0] 29))
  have HC := Aside0.mk (Kd.C_alloc hC (.cells #[.int .i64 0, .slice none 0 0] 29))
  have HH := Aside0.mk hg
  have Hlt := Aside0.mk hlt
  have HP := Aside0.mk h.hP
  have HR := Aside0.mk h.hR
  have Hb0 := Aside0.mk hb0
  have Hp := Aside0.mk hp
  have Hf := Aside0.mk hf
  have Hbs := Aside0.mk hbs
  have HL := Aside0.mk hl
  have hne : ((0 : Int) != 0) = false := rfl
  obtain ⟨n3, rfl⟩ : ∃ n3 : Nat, to_ = (n3 : Int) := ⟨to_.toNat, by omega⟩
  have hn3 : n3 ≤ L.length := by omega
  rw [Int.toNat_natCast]
  have HN3 := Aside0.mk hn3
  have HLc := Aside0.mk hc
  have hcut : ∀ W : World, (Instr.slice 22 (.slice A L.length c) (some (.int .i64 (n3 : Int))) none none).run Tryd.prog W = .ok (.slice (if c = n3 then A else A.map (·.add (n3 * 1))) (L.length - n3) (c - n3)) W := fun W => by
    obtain ⟨i0, hi0, _, hsz0, _⟩ := info_parts info5
    exact cut_from (P := Tryd.prog) 22 5 .i64 Tryd.underlying22 hi0 1 hsz0 A L.length c (n3 : Int) (by omega) (by omega) W
  have hQD : (Kd.int .u8).Q 5 w b0 ok (.slice (if c = n3 then A else A.map (·.add (n3 * 1))) (L.length - n3) (c - n3)) (L.drop n3) := Kd.Q_drop HR.out hn3
  have hob : (Value.slice (if c = n3 then A else A.map (·.add (n3 * 1))) (L.length - n3) (c - n3)).ownBlock = (Value.slice A L.length c).ownBlock := by
    have e : ∀ (ad : Addr) (m : Nat), (ad.add m).block = ad.block := fun ad m => by unfold Addr.add; split <;> rfl
    cases A <;> split <;> simp [Value.ownBlock, e]
  generalize (if c = n3 then A else A.map (·.add (n3 * 1))) = B at hcut hQD hob
  generalize L.length - n3 = mb at hcut hQD hob
  generalize c - n3 = cb at hcut hQD hob
  have HQD := Aside0.mk hQD
  have HOB := Aside0.mk hob
  clear h hG hC hlt hg hb0 hp hf hbs hl hto0 hto1 hn3 hQD hob
  go_enter Tryd.func25, Tryd.ntmps25
  go_wp2_with fail
  refine (remoraref29_Get.calls k A c L 0 r1 F (n3 : Int) 0 _ HC.out HLc.out HH.out).mono ?_
  rintro e w1 ⟨v1, rfl, hR1, hb1⟩
  obtain ⟨A1, c1, rfl⟩ := Kd.R_slice hR1
  generalize F.length = m1 at hR1 ⊢
  have hs1 := hb1.size
  have r1' := Aside0.mk ((hb1.block w.heap.size (by omega)).trans r0)
  have hHB1 := Aside0.mk (below_step HB0.out hb1)
  have HB2 := Aside0.mk (below_alloc hHB1.out (.cells #[.int .i64 r1, .slice A1 m1 c1] 29))
  have hb2 := below_alloc (Below.refl _ w1) (.cells #[.int .i64 r1, .slice A1 m1 c1] 29)
  have r2 := Aside0.mk ((hb2.block w.heap.size (by omega)).trans r1'.out)
  have u2 := Aside0.mk (fr_new w1 (.cells #[.int .i64 r1, .slice A1 m1 c1] 29))
  have p2 := Aside0.mk ((HB2.out.block p Hlt.out).trans HP.out)
  have cp := (rs_cells p2.out).1
  have HR2 := Aside0.mk (Kd.R_below hR1 hb2)
  have hsz2 := fr_size w1 (.cells #[.int .i64 r1, .slice A1 m1 c1] 29)
  have hne1 : w.heap.size ≠ w1.heap.size := by omega
  have Hqs := Aside0.mk (show w.heap.size + 1 ≤ w1.heap.size by omega)
  have Hw2 := Aside0.mk hsz2
  clear hb1 hR1 r0 sz0 q0 q1 hs1 hHB1 r1' hb2 hsz2
  have hlt := Hlt.out
  have hqs := Hqs.out
  have hw2 := Hw2.out
  have hpq1 : w1.heap.size ≠ p := by omega
  have hpq2 : w.heap.size ≠ p := by omega
  have fp := blk_frozen p2.out 0
  have u6 := Aside0.mk (blk_far u2.out (p := ⟨p, 0, none⟩) hpq1 (.slice B mb cb))
  have r6 := Aside0.mk (blk_far r2.out (p := ⟨p, 0, none⟩) hpq2 (.slice B mb cb))
  have s0 : ((w1.alloc (.cells #[.int .i64 r1, .slice A1 m1 c1] 29)).setCell ⟨p, 0, none⟩ (.slice B mb cb)).cell? ⟨w1.heap.size, 0, none⟩ = some (.int .i64 r1) := by rw [cell_of_row _ w1.heap.size 0 _ 29 (0, 0) u6.out]; rfl
  have s1 : ((w1.alloc (.cells #[.int .i64 r1, .slice A1 m1 c1] 29)).setCell ⟨p, 0, none⟩ (.slice B mb cb)).cell? ⟨w1.heap.size, 1, none⟩ = some (.slice A1 m1 c1) := by rw [cell_of_row _ w1.heap.size 1 _ 29 (0, 0) u6.out]; rfl
  have t0 : ((w1.alloc (.cells #[.int .i64 r1, .slice A1 m1 c1] 29)).setCell ⟨p, 0, none⟩ (.slice B mb cb)).cell? ⟨w.heap.size, 0, none⟩ = some (.int .i64 0) := by rw [cell_of_row _ w.heap.size 0 _ 29 (0, 0) r6.out]; rfl
  have t1 : ((w1.alloc (.cells #[.int .i64 r1, .slice A1 m1 c1] 29)).setCell ⟨p, 0, none⟩ (.slice B mb cb)).cell? ⟨w.heap.size, 1, none⟩ = some (.slice none 0 0) := by rw [cell_of_row _ w.heap.size 1 _ 29 (0, 0) r6.out]; rfl
  have s2 := blk_frozen r6.out 0
  have s3 := blk_frozen r6.out 1
  clear hlt hqs hw2 hpq1 hpq2
  go_wp2
  have hlt := Hlt.out
  have hqs := Hqs.out
  have hw2 := Hw2.out
  refine bodyPost_ret (results_ct rfl _ _ w.heap.size 29 #[.int .i64 r1, .slice A1 m1 c1] (0, 0) _ rfl (blk_put (blk_put r6.out 0 (.int .i64 r1) rfl) 1 (.slice A1 m1 c1) rfl) Tryd.underlying29 rfl (by kernel_rfl)) rfl ?_
  have hk : ∀ j, j ≠ p → j ≠ w.heap.size → ((((w1.alloc (.cells #[.int .i64 r1, .slice A1 m1 c1] 29)).setCell ⟨p, 0, none⟩ (.slice B mb cb)).setCell ⟨w.heap.size, 0, none⟩ (.int .i64 r1)).setCell ⟨w.heap.size, 1, none⟩ (.slice A1 m1 c1)).heap[j]? = (w1.alloc (.cells #[.int .i64 r1, .slice A1 m1 c1] 29)).heap[j]? := fun j hj hj2 =>
    (Below.heap_setCell _ ⟨w.heap.size, 1, none⟩ _ j hj2).trans ((Below.heap_setCell _ ⟨w.heap.size, 0, none⟩ _ j hj2).trans (Below.heap_setCell _ ⟨p, 0, none⟩ _ j hj))
  refine ⟨.slice A1 m1 c1, .slice B mb cb, rfl, ?_, ?_, fun j hj hjp => (hk j hjp (by omega)).trans (HB2.out.block j hj), ⟨?_, ?_⟩, HOB.out⟩
  · have hsz := fr_size w (.cells #[.int .i64 0, .slice none 0 0] 29)
    have h1 := Kd.R_bound HR2.out
    exact Kd.R_lower (Kd.R_mono (Kd.R_step h1 (fun k hk2 _ => hk k (by omega) (by omega))) (fun _ _ => trivial)) (by omega)
  · exact (((HB2.out.mono Hbs.out).setCell (p := ⟨p, 0, none⟩) Hb0.out _).setCell (p := ⟨w.heap.size, 0, none⟩) Hbs.out _).setCell (p := ⟨w.heap.size, 1, none⟩) Hbs.out _
  · exact blk_far (blk_far (blk_set p2.out 0 (.slice B mb cb)) (p := ⟨w.heap.size, 0, none⟩) (show p ≠ w.heap.size by omega) (.int .i64 r1)) (p := ⟨w.heap.size, 1, none⟩) (show p ≠ w.heap.size by omega) (.slice A1 m1 c1)
  · exact Kd.Q_step HQD.out (fun k hk2 hk3 => (hk k (Hp.out k hk2) (by omega)).trans (HB2.out.block k hk3))

/-- Both streams in memory: the program's at p, the document's at q. -/
structure PSt (w0 : World) (p q : Nat) (L M : List Int) (x y : Int) (v u : Value) (W : World) : Prop where
  hB : Below w0.heap.size w0 W
  hp : w0.heap.size ≤ p
  hpq : p < q
  hS : Strm (fun k => k ≠ p ∧ k ≠ q ∧ some k ≠ u.ownBlock) w0.heap.size p L x v W
  hU : RStrm (fun k => k ≠ p ∧ k ≠ q) w0.heap.size q M y u W
section
variable {w0 : World} {p q : Nat} {L M : List Int} {x y : Int} {v u : Value} {W W' : World}
theorem PSt.below (h : PSt w0 p q L M x y v u W) (hb : Below W.heap.size W W') : PSt w0 p q L M x y v u W' := ⟨below_step h.hB hb, h.hp, h.hpq, h.hS.below hb, h.hU.below hb⟩
theorem Strm.keep {ok ok' : Nat → Prop} {b : Nat} (h : Strm ok b p L x v W) (hp : W'.heap[p]? = W.heap[p]?) (hv : ∀ k, v.ownBlock = some k → W'.heap[k]? = W.heap[k]?) (hok : ∀ k, v.ownBlock = some k → ok' k) : Strm ok' b p L x v W' :=
  ⟨hp.trans h.hP, Kd.R_mono (Kd.R_step (Kd.R_tight rfl h.hR) (fun k hk _ => hv k hk.symm)) (fun k hk => hok k hk.symm)⟩
theorem RStrm.keep {ok : Nat → Prop} {b : Nat} (h : RStrm ok b q M y u W) (hq : W'.heap[q]? = W.heap[q]?) (hu : ∀ k, u.ownBlock = some k → W'.heap[k]? = W.heap[k]?) : RStrm ok b q M y u W' :=
  ⟨hq.trans h.hP, Kd.Q_mono (Kd.Q_step (Kd.Q_tight rfl h.hR) (fun k hk _ => hu k hk.symm)) (fun k hk => h.hR.1 k hk.symm)⟩
theorem PSt.fresh (h : PSt w0 p q L M x y v u W) (k : Nat) (hk : W.heap.size ≤ k) : k ≠ p ∧ k ≠ q ∧ some k ≠ u.ownBlock :=
  ⟨by have := blk_lt h.hS.hP; omega, by have := blk_lt h.hU.hP; omega, fun e => by have := Kd.Q_lt h.hU.hR k e.symm; omega⟩
theorem PSt.feed (h : PSt w0 p q L M 0 y v u W) (Bs : List Int) (A : Option Addr) (n c : Nat) (hn : Bs.length = n) (hC : Kd.C (Kd.int .u8) W A n Bs) (hl : L.length + Bs.length ≤ 140737488355328) :
    Calls Tryd.prog 18 #[.pointer (some ⟨p, 0, none⟩), .slice A n c] W fun e w' => e = .returned (.tuple #[]) ∧ ∃ v', PSt w0 p q (L ++ Bs) M 0 y v' u w' ∧ Below w0.heap.size W w' := by
  refine (st_Feed.at_ _ w0.heap.size p L Bs v A n c W hn h.hS (fun k hk => hk.1) (fun k hk => h.fresh k hk) h.hp hC hl).mono ?_
  rintro e w' ⟨rfl, hb, hk, v', hS'⟩
  have hpl := blk_lt h.hS.hP
  have hql := blk_lt h.hU.hP
  have hpq := h.hpq
  exact ⟨rfl, v', ⟨h.hB.trans hb, h.hp, h.hpq, hS', h.hU.keep (hk q hql (by omega) (fun e => (h.hS.hR.1 q e).2.1 rfl)) (fun k hk2 => hk k (Kd.Q_lt h.hU.hR k hk2) (h.hU.hR.1 k hk2).1 (fun e => (h.hS.hR.1 k e).2.2 hk2.symm))⟩, hb⟩
theorem PSt.rfeed (h : PSt w0 p q L M x 0 v u W) (Bs : List Int) (A : Option Addr) (n c : Nat) (hn : Bs.length = n) (hC : Kd.C (Kd.int .u8) W A n Bs) (hl : M.length + Bs.length ≤ 140737488355328) :
    Calls Tryd.prog 24 #[.pointer (some ⟨q, 0, none⟩), .slice A n c] W fun e w' => e = .returned (.tuple #[]) ∧ ∃ u', PSt w0 p q L (M ++ Bs) x 0 v u' w' ∧ Below w0.heap.size W w' := by
  subst hn
  have hpq := h.hpq
  have hp := h.hp
  refine (rs_Feed.on _ w0.heap.size q M Bs u A c W h.hU (fun k hk => hk.2) (fun k hk => ⟨(h.fresh k hk).1, (h.fresh k hk).2.1⟩) (by omega) hC hl).mono ?_
  rintro e w' ⟨rfl, hb, hk, u', hU', hat⟩
  have hpl := blk_lt h.hS.hP
  refine ⟨rfl, u', ⟨h.hB.trans hb, h.hp, h.hpq, h.hS.keep (hk p hpl (by omega) (fun e => (h.hU.hR.1 p e).1 rfl)) (fun k hk2 => hk k (Kd.R_lt h.hS.hR k hk2) (h.hS.hR.1 k hk2).2.1 (fun e => (h.hS.hR.1 k hk2).2.2 e.symm)) (fun k hk2 => ⟨(h.hS.hR.1 k hk2).1, (h.hS.hR.1 k hk2).2.1, fun e => ?_⟩), hU'⟩, hb⟩
  rcases hat with hat | ⟨b, hb2, hle⟩
  · exact (h.hS.hR.1 k hk2).2.2 (e.trans hat)
  · rw [hb2] at e
    injection e with e
    have := Kd.R_lt h.hS.hR k hk2
    omega
/-- The program's Next: a frame. -/
theorem PSt.got (h : PSt w0 p q L M 0 y v u W) (hG : GT W) (k : Nat) (r1 : Int) (F : List Int) (to_ : Int) (hg : frame_Get.f k L 0 = some (r1, F, to_, 0)) (hto0 : 0 ≤ to_) (hto1 : to_ ≤ (L.length : Int)) (hl : L.length ≤ 140737488355328) :
    Calls Tryd.prog 19 #[.pointer (some ⟨p, 0, none⟩)] W fun e w' => ∃ v1 v' : Value, e = .returned (.tuple #[.agg #[.int .i64 r1, v1], .bool true]) ∧ (Kd.int .u8).R 5 w' W.heap.size (fun _ => True) v1 F ∧ PSt w0 p q (L.drop to_.toNat) M 0 y v' u w' ∧ Below w0.heap.size W w' := by
  have hql := blk_lt h.hU.hP
  have hpq := h.hpq
  refine (st_Next.got _ w0.heap.size p k L r1 F to_ v W hG h.hS hg hto0 hto1 h.hp (fun k hk => hk.1) (fun k hk => h.fresh k (by omega)) h.hB.size hl).mono ?_
  rintro e w' ⟨v1, v', rfl, hR, hb, hk, hS'⟩
  exact ⟨v1, v', rfl, hR, ⟨h.hB.trans hb, h.hp, h.hpq, hS', h.hU.keep (hk q hql (by omega)) (fun k hk2 => hk k (Kd.Q_lt h.hU.hR k hk2) (h.hU.hR.1 k hk2).1)⟩, hb⟩
theorem PSt.wrong (h : PSt w0 p q L M 0 y v u W) (hG : GT W) (k : Nat) (z : Int) (hg : frame_Get.f k L 0 = some (0, [], 0, z)) (h0 : (z == 0) = false) (h4 : (z == 4) = false) :
    Calls Tryd.prog 19 #[.pointer (some ⟨p, 0, none⟩)] W fun e w' => e = .returned (.tuple #[.agg #[.int .i64 0, .slice none 0 0], .bool false]) ∧ PSt w0 p q L M z y v u w' ∧ Below w0.heap.size W w' := by
  have hql := blk_lt h.hU.hP
  have hpq := h.hpq
  refine (st_Next.wrong _ w0.heap.size p k L z h0 h4 v W hG h.hS hg h.hp (fun k hk => hk.1) h.hB.size).mono ?_
  rintro e w' ⟨rfl, hb, hk, hS'⟩
  exact ⟨rfl, ⟨h.hB.trans hb, h.hp, h.hpq, hS', h.hU.keep (hk q hql (by omega)) (fun k hk2 => hk k (Kd.Q_lt h.hU.hR k hk2) (h.hU.hR.1 k hk2).1)⟩, hb⟩
/-- The document's Next: a frame. -/
theorem PSt.rgot (h : PSt w0 p q L M x 0 v u W) (hG : GT W) (k : Nat) (r1 : Int) (F : List Int) (to_ : Int) (hg : remoraref29_Get.f k M 0 = some (r1, F, to_, 0)) (hto0 : 0 ≤ to_) (hto1 : to_ ≤ (M.length : Int)) (hl : M.length ≤ 140737488355328) :
    Calls Tryd.prog 25 #[.pointer (some ⟨q, 0, none⟩)] W fun e w' => ∃ v1 u' : Value, e = .returned (.tuple #[.agg #[.int .i64 r1, v1], .bool true]) ∧ (Kd.int .u8).R 5 w' W.heap.size (fun _ => True) v1 F ∧ PSt w0 p q L (M.drop to_.toNat) x 0 v u' w' ∧ (∀ j, j < W.heap.size → j ≠ q → w'.heap[j]? = W.heap[j]?) ∧ Below w0.heap.size W w' := by
  have hpl := blk_lt h.hS.hP
  have hpq := h.hpq
  have hp := h.hp
  refine (rs_Next.got _ w0.heap.size q k M r1 F to_ u W hG h.hU hg hto0 hto1 (by omega) (fun k hk => hk.2) (fun k hk => ⟨(h.fresh k (by omega)).1, (h.fresh k (by omega)).2.1⟩) h.hB.size hl).mono ?_
  rintro e w' ⟨v1, u', rfl, hR, hb, hk, hU', hat⟩
  exact ⟨v1, u', rfl, hR, ⟨h.hB.trans hb, h.hp, h.hpq, h.hS.keep (hk p hpl (by omega)) (fun k hk2 => hk k (Kd.R_lt h.hS.hR k hk2) (h.hS.hR.1 k hk2).2.1) (fun k hk2 => ⟨(h.hS.hR.1 k hk2).1, (h.hS.hR.1 k hk2).2.1, by rw [hat]; exact (h.hS.hR.1 k hk2).2.2⟩), hU'⟩, hk, hb⟩
theorem PSt.rwrong (h : PSt w0 p q L M x 0 v u W) (hG : GT W) (k : Nat) (z : Int) (hg : remoraref29_Get.f k M 0 = some (0, [], 0, z)) (h0 : (z == 0) = false) (h4 : (z == 4) = false) (h5 : (z != 0) = true) :
    Calls Tryd.prog 25 #[.pointer (some ⟨q, 0, none⟩)] W fun e w' => e = .returned (.tuple #[.agg #[.int .i64 0, .slice none 0 0], .bool false]) ∧ PSt w0 p q L M x z v u w' ∧ (∀ j, j < W.heap.size → j ≠ q → w'.heap[j]? = W.heap[j]?) ∧ Below w0.heap.size W w' := by
  have hpl := blk_lt h.hS.hP
  have hpq := h.hpq
  have hp := h.hp
  refine (rs_Next.wrong _ w0.heap.size q k M z h0 h4 h5 u W hG h.hU hg (by omega) (fun k hk => hk.2) h.hB.size).mono ?_
  rintro e w' ⟨rfl, hb, hk, hU'⟩
  exact ⟨rfl, ⟨h.hB.trans hb, h.hp, h.hpq, h.hS.keep (hk p hpl (by omega)) (fun k hk2 => hk k (Kd.R_lt h.hS.hR k hk2) (h.hS.hR.1 k hk2).2.1) (fun k hk2 => h.hS.hR.1 k hk2), hU'⟩, hk, hb⟩
end

theorem PSt.start (w : World) : PSt w w.heap.size (w.heap.size + 1) [] [] 0 0 (.slice none 0 0) (.slice none 0 0) ((w.alloc (.cells #[.slice none 0 0, .int .i64 0] 74)).alloc (.cells #[.slice none 0 0, .int .i64 0] 76)) := by
  have s1 := fr_size w (.cells #[.slice none 0 0, .int .i64 0] 74)
  have n1 := fr_new w (.cells #[.slice none 0 0, .int .i64 0] 74)
  have n2 := fr_new (w.alloc (.cells #[.slice none 0 0, .int .i64 0] 74)) (.cells #[.slice none 0 0, .int .i64 0] 76)
  have b2 := below_alloc (Below.refl _ (w.alloc (.cells #[.slice none 0 0, .int .i64 0] 74))) (.cells #[.slice none 0 0, .int .i64 0] 76)
  refine ⟨below_alloc (below_alloc (Below.refl _ w) _) _, Nat.le_refl _, by omega, ⟨(b2.block _ (by omega)).trans n1, Kd.R_nil _ _ _ _ _⟩, ⟨by rw [← s1]; exact n2, Kd.Q_nil _ _ _ _ _⟩⟩
theorem fp_sl {w : World} {b0 : Nat} {ok : Nat → Prop} {v : Value} {l : List Int} {e : Nat} (h : (Kd.int .u8).R e w b0 ok v l) : ∃ A c, v = .slice A l.length c ∧ l.length ≤ c ∧ Kd.C (Kd.int .u8) w A l.length l := by
  obtain ⟨A, c, rfl⟩ := Kd.R_slice h
  obtain ⟨_, h2, h3⟩ := Kd.R_reads' h
  exact ⟨A, c, rfl, h2, h3⟩
theorem same_nil (w : World) : Calls Tryd.prog 15 #[.agg #[.int .i64 0, .slice none 0 0], .agg #[.int .i64 0, .slice none 0 0]] w fun e w' => e = .returned (.bool true) ∧ Below w.heap.size w w' :=
  remoralaw29_same.calls 0 none 0 [] 0 none 0 [] true w (Kd.C_nil _ w) (Nat.le_refl _) (Kd.C_nil _ w) (Nat.le_refl _) (by simp [remoralaw29_same.f])
/-- What Get tells of bytes, by the program and by the document. -/
def fpGet (k : Nat) : Prop := ∀ L : List Int, (∀ z ∈ L, 0 ≤ z ∧ z ≤ 255) → L.length ≤ 200000 → ∃ (r1 : Int) (F : List Int) (r3 r4 : Int), frame_Get.f k L 0 = some (r1, F, r3, r4) ∧ remoraref29_Get.f k L 0 = some (r1, F, r3, r4) ∧ ((r4 = 0 ∧ 0 ≤ r3 ∧ r3 ≤ (L.length : Int)) ∨ (r4 ≠ 0 ∧ r1 = 0 ∧ F = [] ∧ r3 = 0))
set_option maxHeartbeats 16000000 in
set_option maxRecDepth 100000 in
theorem plays_true (k : Nat) (A : Option Addr) (c : Nat) (l : List S54) (w : World) (hG : GT w) (hC : Kd.C k54 w A l.length l) (hc : l.length ≤ c) (hl60 : l.length ≤ 60) (hby : ∀ i : Nat, i < l.length → ∀ z ∈ (rd_T54 l i).f1, 0 ≤ z ∧ z ≤ 255) (hget : fpGet k) :
    Calls Tryd.prog 7 #[.slice A l.length c] w fun e w' => e = .returned (.bool true) ∧ Below w.heap.size w w' := by
  have HG := Aside0.mk hG
  have HC := Aside0.mk hC
  have HBYS := Aside0.mk hby
  have HGET := Aside0.mk hget
  have HL60 := Aside0.mk hl60
  have l1 : decide (60 < (l.length : Int)) = false := decide_eq_false (by omega)
  have l2 : decide (60 < l.length) = false := decide_eq_false (by omega)
  clear hG hC hby hget
  go_enter Tryd.func7, Tryd.ntmps7
  go_wp2_with fail
  refine (frame_New.made _).mono ?_
  rintro r w1 ⟨rfl, rfl⟩
  go_wp2_with fail
  refine (ref_New.made _).mono ?_
  rintro r w2 ⟨rfl, rfl⟩
  have s1 := fr_size w (.cells #[.slice none 0 0, .int .i64 0] 74)
  have HS0 := Aside0.mk (PSt.start w)
  rw [s1]
  obtain ⟨p, hp⟩ : ∃ p, w.heap.size = p := ⟨_, rfl⟩
  obtain ⟨q, hq⟩ : ∃ q, w.heap.size + 1 = q := ⟨_, rfl⟩
  rw [hq]
  rw [hq] at HS0
  generalize (w.alloc (.cells #[.slice none 0 0, .int .i64 0] 74)).alloc (.cells #[.slice none 0 0, .int .i64 0] 76) = w2 at HS0 ⊢
  have HS0' : Aside0 (PSt w p q [] [] 0 0 (.slice none 0 0) (.slice none 0 0) w2) := by rw [← hp]; exact HS0
  have Hp := Aside0.mk hp
  rw [hp]
  clear HS0 s1 hp hq
  go_wp2_with fail
  go_loopg [5] l.length (fun g v5 w' => ∃ (i : Nat) (L : List Int) (x : Int) (v u : Value), i ≤ l.length ∧ g = l.length - i ∧ v5 = .int .i64 i ∧ Aside0 (PSt w p q L L x x v u w') ∧ Aside0 (L.length ≤ 3000 * i) ∧ Aside0 (∀ z ∈ L, 0 ≤ z ∧ z ≤ 255))
  case atStart => exact ⟨0, [], 0, _, _, Nat.zero_le _, rfl, rfl, HS0', ⟨Nat.zero_le _⟩, ⟨fun z hz => by cases hz⟩⟩
  case round =>
    clear HS0'
    obtain ⟨i, L, x, v, u, hi, rfl, rfl, HS, HLL, HLB⟩ := hrel
    by_cases hlt : i < l.length
    · have e1 : decide ((i : Int) < (l.length : Int)) = true := decide_eq_true (by omega)
      have e2 : decide (i < l.length) = true := decide_eq_true hlt
      have hq0 : (0 ≤ (i : Int)) = True := eq_true (by omega)
      have hq1 : ((i : Int) < (l.length : Int)) = True := eq_true (by omega)
      have hq2 : (i < l.length) = True := eq_true hlt
      have HLT := Aside0.mk hlt
      obtain ⟨ad, A1, c1, rfl, hx0w, hx1w, hl1, hi1⟩ := at_T54 HC.out (i : Int) (by omega) (by omega)
      have hbb := HBYS.out i hlt
      rw [Int.toNat_natCast] at hx0w hx1w
      generalize (rd_T54 l (i : Int)).f0 = d0 at hx0w
      generalize (rd_T54 l (i : Int)).f1 = Bs at hx1w hl1 hi1 hbb
      have HX0 := Aside0.mk hx0w
      have HX1 := Aside0.mk hx1w
      have HI1 := Aside0.mk hi1
      have HBB := Aside0.mk hbb
      clear hx0w hx1w hi1 hbb hlt
      have hx0 := pw_cell_below HS.out.hB HX0.out
      have hx1 := pw_cell_below HS.out.hB HX1.out
      by_cases hb3 : 3000 < Bs.length
      · have b1 : decide (3000 < (Bs.length : Int)) = true := decide_eq_true (by omega)
        have b2 : decide (3000 < Bs.length) = true := decide_eq_true hb3
        clear hb3
        go_wp2_with fail
        refine (remoralaw29_awake.calls true _ (HG.out.below HS.out.hB) rfl).mono ?_
        rintro r w3 ⟨rfl, hb⟩
        have HBE := Aside0.mk (below_step HS.out.hB hb)
        clear hb
        go_wp2
        go_ret
        exact ⟨rfl, HBE.out⟩
      have b1 : decide (3000 < (Bs.length : Int)) = false := decide_eq_false (by omega)
      have b2 : decide (3000 < Bs.length) = false := decide_eq_false hb3
      have HBL := Aside0.mk (show Bs.length ≤ 3000 by omega)
      clear hb3
      by_cases hk0 : d0 = 0
      · have k0 : (d0 == 0) = true := by simpa using hk0
        have k1 : (d0 == 1) = false := by rw [hk0]; rfl
        clear hk0
        by_cases hx : x = 0
        · subst hx
          go_wp2_with fail
          refine (HS.out.feed Bs A1 _ c1 rfl (Kd.C_below HI1.out HS.out.hB) (by have h1 := HLL.out; have h2 := HBL.out; have h3 := HLT.out; have h4 := HL60.out; omega)).mono ?_
          rintro r w5 ⟨rfl, v5, hS5, _⟩
          replace HS := Aside0.mk hS5
          clear hS5 hx0 hx1
          have hx0 := pw_cell_below HS.out.hB HX0.out
          have hx1 := pw_cell_below HS.out.hB HX1.out
          go_wp2_with fail
          refine (HS.out.rfeed Bs A1 _ c1 rfl (Kd.C_below HI1.out HS.out.hB) (by have h1 := HLL.out; have h2 := HBL.out; have h3 := HLT.out; have h4 := HL60.out; omega)).mono ?_
          rintro r w6 ⟨rfl, u6, hS6, _⟩
          replace HS := Aside0.mk hS6
          clear hS6 hx0 hx1
          have hx0 := pw_cell_below HS.out.hB HX0.out
          have hx1 := pw_cell_below HS.out.hB HX1.out
          obtain ⟨Ae, ce, rfl, _, _⟩ := HS.out.hS.slice
          obtain ⟨Af, cf, rfl, _, _⟩ := HS.out.hU.slice
          have q1 := (st_cells HS.out.hS.hP).1
          have q2 := (st_cells HS.out.hS.hP).2
          have q3 := (rs_cells HS.out.hU.hP).1
          have q4 := (rs_cells HS.out.hU.hP).2
          have xx : (0 != 0) = false := by simp
          go_wp2_with fail
          refine (st_Left.at_ p Ae _ ce _ q1).mono ?_
          rintro r y1 ⟨rfl, hy1⟩
          subst hy1
          go_wp2_with fail
          refine (rs_Left.at_ q Af _ cf _ q3).mono ?_
          rintro r y2 ⟨rfl, hy2⟩
          subst hy2
          go_wp2_with fail
          refine (st_Err.at_ p 0 _ q2).mono ?_
          rintro r y3 ⟨rfl, hy3⟩
          subst hy3
          go_wp2_with fail
          refine (rs_Err.at_ q 0 _ q4).mono ?_
          rintro r y4 ⟨rfl, hy4⟩
          subst hy4
          go_wp2
          go_roundg (l.length - (i + 1))
          case measure => have := HLT.out; omega
          case rel => exact ⟨i + 1, L ++ Bs, 0, _, _, by have := HLT.out; omega, rfl, by simp, HS, ⟨by rw [List.length_append]; have h1 := HLL.out; have h2 := HBL.out; omega⟩, ⟨fun z hz => (List.mem_append.1 hz).elim (HLB.out z) (HBB.out z)⟩⟩
        · have x0 : (x == 0) = false := by simpa using hx
          clear hx
          go_wp2_with fail
          refine (st_Feed.off p x A1 _ c1 _ (st_cells HS.out.hS.hP).2 x0).mono ?_
          rintro r w5 ⟨rfl, hb5⟩
          replace HS := Aside0.mk (HS.out.below hb5)
          clear hb5 hx0 hx1
          have hx0 := pw_cell_below HS.out.hB HX0.out
          have hx1 := pw_cell_below HS.out.hB HX1.out
          go_wp2_with fail
          refine (rs_Feed.off q x A1 _ c1 _ (rs_cells HS.out.hU.hP).2 x0).mono ?_
          rintro r w6 ⟨rfl, hb6⟩
          replace HS := Aside0.mk (HS.out.below hb6)
          clear hb6 hx0 hx1
          have hx0 := pw_cell_below HS.out.hB HX0.out
          have hx1 := pw_cell_below HS.out.hB HX1.out
          obtain ⟨Ae, ce, rfl, _, _⟩ := HS.out.hS.slice
          obtain ⟨Af, cf, rfl, _, _⟩ := HS.out.hU.slice
          have q1 := (st_cells HS.out.hS.hP).1
          have q2 := (st_cells HS.out.hS.hP).2
          have q3 := (rs_cells HS.out.hU.hP).1
          have q4 := (rs_cells HS.out.hU.hP).2
          have xx : (x != x) = false := by simp
          go_wp2_with fail
          refine (st_Left.at_ p Ae _ ce _ q1).mono ?_
          rintro r y1 ⟨rfl, hy1⟩
          subst hy1
          go_wp2_with fail
          refine (rs_Left.at_ q Af _ cf _ q3).mono ?_
          rintro r y2 ⟨rfl, hy2⟩
          subst hy2
          go_wp2_with fail
          refine (st_Err.at_ p x _ q2).mono ?_
          rintro r y3 ⟨rfl, hy3⟩
          subst hy3
          go_wp2_with fail
          refine (rs_Err.at_ q x _ q4).mono ?_
          rintro r y4 ⟨rfl, hy4⟩
          subst hy4
          go_wp2
          go_roundg (l.length - (i + 1))
          case measure => have := HLT.out; omega
          case rel => exact ⟨i + 1, L, x, _, _, by have := HLT.out; omega, rfl, by simp, HS, ⟨by have h1 := HLL.out; omega⟩, HLB⟩
      by_cases hk1 : d0 = 1
      · have k0 : (d0 == 0) = false := by rw [hk1]; rfl
        have k1 : (d0 == 1) = true := by simpa using hk1
        clear hk1 hk0
        by_cases hx : x = 0
        · subst hx
          have HGT := Aside0.mk (HG.out.below HS.out.hB)
          obtain ⟨r1, F, r3, r4, hg1, hg2, hcase⟩ := HGET.out L HLB.out (by have h1 := HLL.out; have h3 := HLT.out; have h4 := HL60.out; omega)
          rcases hcase with ⟨rfl, hr0, hr1⟩ | ⟨hr4, rfl, rfl, rfl⟩
          · have HG1 := Aside0.mk hg1
            have HG2 := Aside0.mk hg2
            clear hg1 hg2
            go_wp2_with fail
            refine (HS.out.got HGT.out k r1 F r3 HG1.out hr0 hr1 (by have h1 := HLL.out; have h3 := HLT.out; have h4 := HL60.out; omega)).mono ?_
            rintro r w5 ⟨v1, v5, rfl, hR5, hS5, _⟩
            have hql := blk_lt HS.out.hU.hP
            obtain ⟨A5, c5, rfl⟩ := Kd.R_slice hR5
            have hb5 := below_alloc (Below.refl _ w5) (.cells #[.int .i64 r1, .slice A5 F.length c5] 27)
            have u5 := fr_new w5 (.cells #[.int .i64 r1, .slice A5 F.length c5] 27)
            have hR5a := Kd.R_bound (Kd.R_below hR5 hb5)
            have hqw := blk_lt hS5.hU.hP
            replace HS := Aside0.mk (PSt.below hS5 hb5)
            clear hR5 hS5
            go_wp2_with fail
            refine (HS.out.rgot (HG.out.below HS.out.hB) k r1 F r3 HG2.out hr0 hr1 (by have h1 := HLL.out; have h3 := HLT.out; have h4 := HL60.out; omega)).mono ?_
            rintro r w6 ⟨v1, u6_, rfl, hR6, hS6, hk6, hb6w⟩
            obtain ⟨A6, c6, rfl, hc6, hC6⟩ := fp_sl hR6
            have hb6 := below_alloc (Below.refl _ w6) (.cells #[.int .i64 r1, .slice A6 F.length c6] 29)
            have u6 := fr_new w6 (.cells #[.int .i64 r1, .slice A6 F.length c6] 29)
            have hR5b := Kd.R_below (Kd.R_step hR5a (fun j hj hlt => hk6 j hlt (by omega))) hb6
            obtain ⟨_, hc5, hC5⟩ := Kd.R_reads' hR5b
            have u5' := Aside0.mk (show (w6.alloc (.cells #[.int .i64 r1, .slice A6 F.length c6] 29)).heap[w5.heap.size]? = some (.cells #[.int .i64 r1, .slice A5 F.length c5] 27) from (hb6.block _ (by have := hb6w.size; have := blk_lt u5; omega)).trans ((hk6 _ (blk_lt u5) (by omega)).trans u5))
            replace HS := Aside0.mk (PSt.below hS6 hb6)
            have g0 := cell_of_row _ _ 0 _ 27 (0, 0) u5'.out
            have g1 := cell_of_row _ _ 1 _ 27 (0, 0) u5'.out
            have g2 := cell_of_row _ _ 0 _ 29 (0, 0) u6
            have g3 := cell_of_row _ _ 1 _ 29 (0, 0) u6
            simp only [List.getElem?_toArray, List.getElem?_cons_zero, List.getElem?_cons_succ] at g0 g1 g2 g3
            have HC5 := Aside0.mk hC5
            have HC6 := Aside0.mk (Kd.C_below hC6 hb6)
            clear hb5 u5 hb6 u6 hR5a hR5b hR6 hC5 hC6 hk6 hb6w hS6 hqw hql
            go_wp2_with fail
            refine (remoralaw29_same.calls r1 A5 c5 F r1 A6 c6 F true _ HC5.out hc5 HC6.out hc6 (by simp [remoralaw29_same.f])).mono ?_
            rintro r w7 ⟨rfl, hb7⟩
            replace HS := Aside0.mk (HS.out.below hb7)
            clear hb7 g0 g1 g2 g3 hx0 hx1
            obtain ⟨Ae, ce, rfl, _, _⟩ := HS.out.hS.slice
            obtain ⟨Af, cf, rfl, _, _⟩ := HS.out.hU.slice
            have q1 := (st_cells HS.out.hS.hP).1
            have q2 := (st_cells HS.out.hS.hP).2
            have q3 := (rs_cells HS.out.hU.hP).1
            have q4 := (rs_cells HS.out.hU.hP).2
            have xx : (0 != 0) = false := by simp
            go_wp2_with fail
            refine (st_Left.at_ p Ae _ ce _ q1).mono ?_
            rintro r y1 ⟨rfl, hy1⟩
            subst hy1
            go_wp2_with fail
            refine (rs_Left.at_ q Af _ cf _ q3).mono ?_
            rintro r y2 ⟨rfl, hy2⟩
            subst hy2
            go_wp2_with fail
            refine (st_Err.at_ p 0 _ q2).mono ?_
            rintro r y3 ⟨rfl, hy3⟩
            subst hy3
            go_wp2_with fail
            refine (rs_Err.at_ q 0 _ q4).mono ?_
            rintro r y4 ⟨rfl, hy4⟩
            subst hy4
            go_wp2
            go_roundg (l.length - (i + 1))
            case measure => have := HLT.out; omega
            case rel => exact ⟨i + 1, L.drop r3.toNat, 0, _, _, by have := HLT.out; omega, rfl, by simp, HS, ⟨by have h1 := HLL.out; rw [List.length_drop]; omega⟩, ⟨fun z hz => HLB.out z (List.mem_of_mem_drop hz)⟩⟩
          · by_cases h4 : r4 = 4
            · subst h4
              have HG1 := Aside0.mk hg1
              have HG2 := Aside0.mk hg2
              clear hg1 hg2 hr4
              go_wp2_with fail
              refine (st_Next.short _ w.heap.size p k L v _ HGT.out HS.out.hS HG1.out).mono ?_
              rintro r w5 ⟨rfl, h5⟩
              have hb5 := below_alloc (Below.refl _ w5) (.cells #[.int .i64 0, .slice none 0 0] 27)
              have u5 := fr_new w5 (.cells #[.int .i64 0, .slice none 0 0] 27)
              replace HS := Aside0.mk (PSt.below (HS.out.below h5) hb5)
              clear h5
              go_wp2_with fail
              refine (rs_Next.short _ w.heap.size q k L u _ (HG.out.below HS.out.hB) HS.out.hU HG2.out).mono ?_
              rintro r w6 ⟨rfl, h6⟩
              have hb6 := below_alloc (Below.refl _ w6) (.cells #[.int .i64 0, .slice none 0 0] 29)
              have u6 := fr_new w6 (.cells #[.int .i64 0, .slice none 0 0] 29)
              have u5' := Aside0.mk (show (w6.alloc (.cells #[.int .i64 0, .slice none 0 0] 29)).heap[w5.heap.size]? = some (.cells #[.int .i64 0, .slice none 0 0] 27) from (hb6.block _ (by have := h6.size; have := hb5.size; have := blk_lt u5; omega)).trans ((h6.block _ (blk_lt u5)).trans u5))
              replace HS := Aside0.mk (PSt.below (HS.out.below h6) hb6)
              have g0 : (w6.alloc (.cells #[.int .i64 0, .slice none 0 0] 29)).cell? ⟨w5.heap.size, 0, none⟩ = some (.int .i64 0) := by rw [cell_of_row _ _ _ _ 27 (0, 0) u5'.out]; rfl
              have g1 : (w6.alloc (.cells #[.int .i64 0, .slice none 0 0] 29)).cell? ⟨w5.heap.size, 1, none⟩ = some (.slice none 0 0) := by rw [cell_of_row _ _ _ _ 27 (0, 0) u5'.out]; rfl
              have g2 : (w6.alloc (.cells #[.int .i64 0, .slice none 0 0] 29)).cell? ⟨w6.heap.size, 0, none⟩ = some (.int .i64 0) := by rw [cell_of_row _ _ _ _ 29 (0, 0) u6]; rfl
              have g3 : (w6.alloc (.cells #[.int .i64 0, .slice none 0 0] 29)).cell? ⟨w6.heap.size, 1, none⟩ = some (.slice none 0 0) := by rw [cell_of_row _ _ _ _ 29 (0, 0) u6]; rfl
              clear hb5 u5 hb6 u6 h6
              go_wp2_with fail
              refine (same_nil _).mono ?_
              rintro r w7 ⟨rfl, hb7⟩
              replace HS := Aside0.mk (HS.out.below hb7)
              clear hb7 g0 g1 g2 g3 hx0 hx1
              obtain ⟨Ae, ce, rfl, _, _⟩ := HS.out.hS.slice
              obtain ⟨Af, cf, rfl, _, _⟩ := HS.out.hU.slice
              have q1 := (st_cells HS.out.hS.hP).1
              have q2 := (st_cells HS.out.hS.hP).2
              have q3 := (rs_cells HS.out.hU.hP).1
              have q4 := (rs_cells HS.out.hU.hP).2
              have xx : (0 != 0) = false := by simp
              go_wp2_with fail
              refine (st_Left.at_ p Ae _ ce _ q1).mono ?_
              rintro r y1 ⟨rfl, hy1⟩
              subst hy1
              go_wp2_with fail
              refine (rs_Left.at_ q Af _ cf _ q3).mono ?_
              rintro r y2 ⟨rfl, hy2⟩
              subst hy2
              go_wp2_with fail
              refine (st_Err.at_ p 0 _ q2).mono ?_
              rintro r y3 ⟨rfl, hy3⟩
              subst hy3
              go_wp2_with fail
              refine (rs_Err.at_ q 0 _ q4).mono ?_
              rintro r y4 ⟨rfl, hy4⟩
              subst hy4
              go_wp2
              go_roundg (l.length - (i + 1))
              case measure => have := HLT.out; omega
              case rel => exact ⟨i + 1, L, 0, _, _, by have := HLT.out; omega, rfl, by simp, HS, ⟨by have h1 := HLL.out; omega⟩, HLB⟩
            · have z0 : (r4 == 0) = false := by simpa using hr4
              have z4 : (r4 == 4) = false := by simpa using h4
              have z5 : (r4 != 0) = true := by simpa using hr4
              have HG1 := Aside0.mk hg1
              have HG2 := Aside0.mk hg2
              clear hg1 hg2 hr4 h4
              go_wp2_with fail
              refine (HS.out.wrong HGT.out k r4 HG1.out z0 z4).mono ?_
              rintro r w5 ⟨rfl, h5, _⟩
              have hb5 := below_alloc (Below.refl _ w5) (.cells #[.int .i64 0, .slice none 0 0] 27)
              have u5 := fr_new w5 (.cells #[.int .i64 0, .slice none 0 0] 27)
              replace HS := Aside0.mk (PSt.below (h5) hb5)
              have hqw := blk_lt h5.hU.hP
              clear h5
              go_wp2_with fail
              refine (HS.out.rwrong (HG.out.below HS.out.hB) k r4 HG2.out z0 z4 z5).mono ?_
              rintro r w6 ⟨rfl, h6, hk6, h6b⟩
              have hb6 := below_alloc (Below.refl _ w6) (.cells #[.int .i64 0, .slice none 0 0] 29)
              have u6 := fr_new w6 (.cells #[.int .i64 0, .slice none 0 0] 29)
              have u5' := Aside0.mk (show (w6.alloc (.cells #[.int .i64 0, .slice none 0 0] 29)).heap[w5.heap.size]? = some (.cells #[.int .i64 0, .slice none 0 0] 27) from (hb6.block _ (by have := h6b.size; have := blk_lt u5; omega)).trans ((hk6 _ (blk_lt u5) (by omega)).trans u5))
              replace HS := Aside0.mk (PSt.below (h6) hb6)
              have g0 : (w6.alloc (.cells #[.int .i64 0, .slice none 0 0] 29)).cell? ⟨w5.heap.size, 0, none⟩ = some (.int .i64 0) := by rw [cell_of_row _ _ _ _ 27 (0, 0) u5'.out]; rfl
              have g1 : (w6.alloc (.cells #[.int .i64 0, .slice none 0 0] 29)).cell? ⟨w5.heap.size, 1, none⟩ = some (.slice none 0 0) := by rw [cell_of_row _ _ _ _ 27 (0, 0) u5'.out]; rfl
              have g2 : (w6.alloc (.cells #[.int .i64 0, .slice none 0 0] 29)).cell? ⟨w6.heap.size, 0, none⟩ = some (.int .i64 0) := by rw [cell_of_row _ _ _ _ 29 (0, 0) u6]; rfl
              have g3 : (w6.alloc (.cells #[.int .i64 0, .slice none 0 0] 29)).cell? ⟨w6.heap.size, 1, none⟩ = some (.slice none 0 0) := by rw [cell_of_row _ _ _ _ 29 (0, 0) u6]; rfl
              clear hb5 u5 hb6 u6 h6 h6b hk6 hqw
              go_wp2_with fail
              refine (same_nil _).mono ?_
              rintro r w7 ⟨rfl, hb7⟩
              replace HS := Aside0.mk (HS.out.below hb7)
              clear hb7 g0 g1 g2 g3 hx0 hx1
              obtain ⟨Ae, ce, rfl, _, _⟩ := HS.out.hS.slice
              obtain ⟨Af, cf, rfl, _, _⟩ := HS.out.hU.slice
              have q1 := (st_cells HS.out.hS.hP).1
              have q2 := (st_cells HS.out.hS.hP).2
              have q3 := (rs_cells HS.out.hU.hP).1
              have q4 := (rs_cells HS.out.hU.hP).2
              have xx : (r4 != r4) = false := by simp
              go_wp2_with fail
              refine (st_Left.at_ p Ae _ ce _ q1).mono ?_
              rintro r y1 ⟨rfl, hy1⟩
              subst hy1
              go_wp2_with fail
              refine (rs_Left.at_ q Af _ cf _ q3).mono ?_
              rintro r y2 ⟨rfl, hy2⟩
              subst hy2
              go_wp2_with fail
              refine (st_Err.at_ p r4 _ q2).mono ?_
              rintro r y3 ⟨rfl, hy3⟩
              subst hy3
              go_wp2_with fail
              refine (rs_Err.at_ q r4 _ q4).mono ?_
              rintro r y4 ⟨rfl, hy4⟩
              subst hy4
              go_wp2
              go_roundg (l.length - (i + 1))
              case measure => have := HLT.out; omega
              case rel => exact ⟨i + 1, L, r4, _, _, by have := HLT.out; omega, rfl, by simp, HS, ⟨by have h1 := HLL.out; omega⟩, HLB⟩
        · have x0 : (x != 0) = true := by simpa using hx
          have x1 : (x == 0) = false := by simpa using hx
          clear hx
          go_wp2_with fail
          refine (st_Next.off p x _ (st_cells HS.out.hS.hP).2 x0).mono ?_
          rintro r w5 ⟨rfl, h5⟩
          have hb5 := below_alloc (Below.refl _ w5) (.cells #[.int .i64 0, .slice none 0 0] 27)
          have u5 := fr_new w5 (.cells #[.int .i64 0, .slice none 0 0] 27)
          replace HS := Aside0.mk (PSt.below (HS.out.below h5) hb5)
          clear h5
          go_wp2_with fail
          refine (rs_Next.off q x _ (rs_cells HS.out.hU.hP).2 x0).mono ?_
          rintro r w6 ⟨rfl, h6⟩
          have hb6 := below_alloc (Below.refl _ w6) (.cells #[.int .i64 0, .slice none 0 0] 29)
          have u6 := fr_new w6 (.cells #[.int .i64 0, .slice none 0 0] 29)
          have u5' := Aside0.mk (show (w6.alloc (.cells #[.int .i64 0, .slice none 0 0] 29)).heap[w5.heap.size]? = some (.cells #[.int .i64 0, .slice none 0 0] 27) from (hb6.block _ (by have := h6.size; have := hb5.size; have := blk_lt u5; omega)).trans ((h6.block _ (blk_lt u5)).trans u5))
          replace HS := Aside0.mk (PSt.below (HS.out.below h6) hb6)
          have g0 : (w6.alloc (.cells #[.int .i64 0, .slice none 0 0] 29)).cell? ⟨w5.heap.size, 0, none⟩ = some (.int .i64 0) := by rw [cell_of_row _ _ _ _ 27 (0, 0) u5'.out]; rfl
          have g1 : (w6.alloc (.cells #[.int .i64 0, .slice none 0 0] 29)).cell? ⟨w5.heap.size, 1, none⟩ = some (.slice none 0 0) := by rw [cell_of_row _ _ _ _ 27 (0, 0) u5'.out]; rfl
          have g2 : (w6.alloc (.cells #[.int .i64 0, .slice none 0 0] 29)).cell? ⟨w6.heap.size, 0, none⟩ = some (.int .i64 0) := by rw [cell_of_row _ _ _ _ 29 (0, 0) u6]; rfl
          have g3 : (w6.alloc (.cells #[.int .i64 0, .slice none 0 0] 29)).cell? ⟨w6.heap.size, 1, none⟩ = some (.slice none 0 0) := by rw [cell_of_row _ _ _ _ 29 (0, 0) u6]; rfl
          clear hb5 u5 hb6 u6 h6
          go_wp2_with fail
          refine (same_nil _).mono ?_
          rintro r w7 ⟨rfl, hb7⟩
          replace HS := Aside0.mk (HS.out.below hb7)
          clear hb7 g0 g1 g2 g3 hx0 hx1
          obtain ⟨Ae, ce, rfl, _, _⟩ := HS.out.hS.slice
          obtain ⟨Af, cf, rfl, _, _⟩ := HS.out.hU.slice
          have q1 := (st_cells HS.out.hS.hP).1
          have q2 := (st_cells HS.out.hS.hP).2
          have q3 := (rs_cells HS.out.hU.hP).1
          have q4 := (rs_cells HS.out.hU.hP).2
          have xx : (x != x) = false := by simp
          go_wp2_with fail
          refine (st_Left.at_ p Ae _ ce _ q1).mono ?_
          rintro r y1 ⟨rfl, hy1⟩
          subst hy1
          go_wp2_with fail
          refine (rs_Left.at_ q Af _ cf _ q3).mono ?_
          rintro r y2 ⟨rfl, hy2⟩
          subst hy2
          go_wp2_with fail
          refine (st_Err.at_ p x _ q2).mono ?_
          rintro r y3 ⟨rfl, hy3⟩
          subst hy3
          go_wp2_with fail
          refine (rs_Err.at_ q x _ q4).mono ?_
          rintro r y4 ⟨rfl, hy4⟩
          subst hy4
          go_wp2
          go_roundg (l.length - (i + 1))
          case measure => have := HLT.out; omega
          case rel => exact ⟨i + 1, L, x, _, _, by have := HLT.out; omega, rfl, by simp, HS, ⟨by have h1 := HLL.out; omega⟩, HLB⟩
      · have k0 : (d0 == 0) = false := by simpa using hk0
        have k1 : (d0 == 1) = false := by simpa using hk1
        clear hk0 hk1
        obtain ⟨Ae, ce, rfl, _, _⟩ := HS.out.hS.slice
        obtain ⟨Af, cf, rfl, _, _⟩ := HS.out.hU.slice
        have q1 := (st_cells HS.out.hS.hP).1
        have q2 := (st_cells HS.out.hS.hP).2
        have q3 := (rs_cells HS.out.hU.hP).1
        have q4 := (rs_cells HS.out.hU.hP).2
        have xx : (x != x) = false := by simp
        go_wp2_with fail
        refine (st_Left.at_ p Ae _ ce _ q1).mono ?_
        rintro r y1 ⟨rfl, hy1⟩
        subst hy1
        go_wp2_with fail
        refine (rs_Left.at_ q Af _ cf _ q3).mono ?_
        rintro r y2 ⟨rfl, hy2⟩
        subst hy2
        go_wp2_with fail
        refine (st_Err.at_ p x _ q2).mono ?_
        rintro r y3 ⟨rfl, hy3⟩
        subst hy3
        go_wp2_with fail
        refine (rs_Err.at_ q x _ q4).mono ?_
        rintro r y4 ⟨rfl, hy4⟩
        subst hy4
        go_wp2
        go_roundg (l.length - (i + 1))
        case measure => have := HLT.out; omega
        case rel => exact ⟨i + 1, L, x, _, _, by have := HLT.out; omega, rfl, by simp, HS, ⟨by have h1 := HLL.out; omega⟩, HLB⟩
    · obtain rfl : i = l.length := by omega
      have e1 : decide ((l.length : Int) < (l.length : Int)) = false := decide_eq_false (by omega)
      have e2 : decide (l.length < l.length) = false := decide_eq_false (by omega)
      clear hlt hi
      go_wp2_with fail
      refine (remoralaw29_awake.calls true _ (HG.out.below HS.out.hB) rfl).mono ?_
      rintro r w3 ⟨rfl, hb⟩
      have HBE := Aside0.mk (below_step HS.out.hB hb)
      clear hb
      go_wp2
      go_ret
      exact ⟨rfl, HBE.out⟩

def remoralaw29_FramePlays.f (l0 : List S54) : Option Bool := some true
/-- What is left to plain Lean: Get tells what the document tells. -/
def remoralaw29_FramePlays.Pure : Prop := ∃ k, fpGet k
set_option maxHeartbeats 1000000 in
theorem plays_many (A : Option Addr) (c n : Nat) (w : World) (hG : GT w) (hn : 60 < n) :
    Calls Tryd.prog 7 #[.slice A n c] w fun e w' => e = .returned (.bool true) ∧ Below w.heap.size w w' := by
  have HG := Aside0.mk hG
  have l1 : decide (60 < (n : Int)) = true := decide_eq_true (by omega)
  have l2 : decide (60 < n) = true := decide_eq_true hn
  clear hG hn
  go_enter Tryd.func7, Tryd.ntmps7
  go_wp2_with fail
  refine (remoralaw29_awake.calls true _ HG.out rfl).mono ?_
  rintro e w1 ⟨rfl, hb⟩
  have HB := Aside0.mk hb
  clear hb
  go_wp2
  go_ret
  exact ⟨rfl, HB.out⟩
theorem remoralaw29_FramePlays.walk (P : remoralaw29_FramePlays.Pure) (a0 : Option Addr) (cap0 : Nat) (l0 : List S54) (w : World) (hG : GT w) (hr0 : Kd.C k54 w a0 l0.length l0) (hc0 : l0.length ≤ cap0) (hm0 : l0.length ≤ maxLen) (y0 : l0.length * 32 ≤ 140737488351232) (hw0 : ∀ x ∈ l0, (((Lit.int .i64 x.f0).wf = true) ∧ (x.f1.length ≤ maxLen ∧ x.f1.length * 1 ≤ 140737488351232 ∧ ∀ z0_ ∈ x.f1, (Lit.int .u8 z0_).wf = true))) :
    Calls Tryd.prog 7 #[.slice a0 l0.length cap0] w fun e w' => e = .returned (.bool true) ∧ Below w.heap.size w w' := by
  by_cases h : 60 < l0.length
  · exact plays_many a0 cap0 _ w hG h
  obtain ⟨k, hk⟩ := P
  refine plays_true k a0 cap0 l0 w hG hr0 hc0 (by omega) (fun i hi z hz => ?_) hk
  have e : rd_T54 l0 (i : Int) = l0[i] := by simp [rd_T54, List.getD_eq_getElem?_getD, List.getElem?_eq_getElem hi]
  rw [e] at hz
  have h2 := (hw0 _ (List.getElem_mem hi)).2.2.2 z hz
  simp [Lit.wf, IntKind.min, IntKind.max, IntKind.signed, IntKind.bits] at h2
  omega


end Go.Proofs.YtmllikjhflnngaaDoor.P
