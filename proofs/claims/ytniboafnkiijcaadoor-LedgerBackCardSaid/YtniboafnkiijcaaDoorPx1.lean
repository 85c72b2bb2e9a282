-- Written by a program of the session (wip/tool/mk.py) out of the translation; Lean checks it.
import Derived.Test.YtniboafnkiijcaaDoorPx0
namespace Go.Proofs.YtniboafnkiijcaaDoor.P
open Go.RowKit Go.Proofs.YtniboafnkiijcaaDoorW.PrintWords Go.Proofs.YtniboafnkiijcaaDoorW.PrintLast Go.Proofs.YtniboafnkiijcaaDoorW.PrintMore
attribute [local go_sem] max2_int min2_int max_two min_two max_three min_three max_four min_four   -- for this text's walks alone
set_option linter.unusedVariables false
set_option linter.unusedSimpArgs false

theorem crc_Open.calls (A0 : Option Addr) (c0 : Nat) (l0 : List Int) (r1 : List Int) (r2 : Int) (w : World) (hG : GT w) (hr0 : Kd.C (Kd.int .u8) w A0 l0.length l0) (hc0 : l0.length ≤ c0) (h : crc_Open.f l0 = some (r1, r2)) :
    Calls Tryd.prog 38 #[.slice A0 l0.length c0] w fun e w' => ∃ v0_ : Value, e = .returned (.tuple #[v0_, .int .i64 r2]) ∧ Kd.R (Kd.int .u8) 5 w' w.heap.size (fun _ => True) v0_ r1 ∧ Below w.heap.size w w' := by
  unfold crc_Open.f at h
  by_cases h4 : l0.length < 4
  · rw [if_pos h4] at h
    simp only [Option.some.injEq, Prod.mk.injEq] at h
    obtain ⟨rfl, rfl⟩ := h
    refine (crc_Open.small A0 c0 l0 w h4).mono ?_
    rintro e w' ⟨rfl, rfl⟩
    exact ⟨_, rfl, Kd.R_nil _ _ _ _ _, Below.refl _ _⟩
  · rw [if_neg h4] at h
    by_cases h47 : l0.length ≤ 140737488355328
    · rw [if_pos h47] at h
      obtain ⟨n, hn⟩ : ∃ n, l0.length = n + 4 := ⟨l0.length - 4, by omega⟩
      have hn4 : l0.length - 4 = n := by omega
      obtain ⟨ad, e, _⟩ := Kd.at_int hr0 0 (by omega) (by omega)
      cases e
      rw [hn4, four_tail l0 n hn] at h
      by_cases he : [rd l0 ((n + 0 : Nat) : Int), rd l0 ((n + 1 : Nat) : Int), rd l0 ((n + 2 : Nat) : Int), rd l0 ((n + 3 : Nat) : Int)] = sealL (crcSum (l0.take n))
      · rw [if_pos he] at h
        simp only [Option.some.injEq, Prod.mk.injEq] at h
        obtain ⟨rfl, rfl⟩ := h
        exact crc_Open.good ad c0 l0 n w hG hr0 hc0 h47 hn _ _ _ _ rfl rfl rfl rfl (by simp only [he, decide_true])
      · rw [if_neg he] at h
        simp only [Option.some.injEq, Prod.mk.injEq] at h
        obtain ⟨rfl, rfl⟩ := h
        refine (crc_Open.bad ad c0 l0 n w hG hr0 hc0 (by omega) hn _ _ _ _ rfl rfl rfl rfl (decide_eq_false fun hh => he hh.symm)).mono ?_
        rintro e w' ⟨rfl, hb⟩
        exact ⟨_, rfl, Kd.R_nil _ _ _ _ _, hb⟩
    · rw [if_neg h47] at h
      cases h

/-! ### ledger_reader_num: function 39, a contract of my own -/
section
variable {P : Program} {ops : Array Oper} {Q : Exit → Act → World → Prop}
/-- A call of what stands in a slot, in a region that draws. -/
theorem goesV_ {oi : Oper} {N : Option Tmp} {a : Act} {w : World} {K : Act → World → Prop} {f : FuncId} {fn : Func} {j : Tmp} {os_ : Array Operand} {ts : Array TypeId} (hf : P.funcs[f]? = some fn) (hname : (fn.name == "runtime.NumGoroutine") = false) (hb : fn.body.isSome = true) (args : Array Value)
    (hw : Region.wanted oi (yielded ops a.tmps) = true) (hN : oi.dst = N) (hop : oi.op = .call { callee := .value (.tmp j), args := os_, argTypes := ts }) (hj : a.eval (.tmp j) = .func (.func f) #[] #[]) (hargs : os_.map a.eval = args)
    (h : Calls P f args w fun e w' => ∃ v, e = .returned v ∧ K (a.put N v) w') : if Region.wanted oi (yielded ops a.tmps) = true then Oper.wp P oi a w K Q else K (a.put N undef) w := by
  refine call_ f args hw hN ?_ h
  have he := enters_ hf hname hb args w
  unfold execOp
  simp [hop, resolve, Deferred.ofValue, invoke, hj, hargs, he]
end
theorem rd_cells {w : World} {p : Nat} {x y z : Value} {ty : Nat} (h : w.heap[p]? = some (.cells #[x, y, z] ty (0, 0))) : w.cell? ⟨p, 0, none⟩ = some x ∧ w.cell? ⟨p, 1, none⟩ = some y ∧ w.cell? ⟨p, 2, none⟩ = some z := by
  refine ⟨?_, ?_, ?_⟩ <;> rw [cell_of_row w p _ _ ty (0, 0) h] <;> rfl
/-- One step of a reader: behind an error it reads nothing. -/
def stepG (G : Int → Int × Int × Int) (s : Int × Int) : Int × (Int × Int) := if s.2 = 0 then ((G s.1).1, (G s.1).2) else (0, s)
def GetHyp (f : Nat) (G : Int → Int × Int × Int) (A : Option Addr) (m c : Nat) (O : List Int) : Prop :=
  ∀ (a : Int) (w1 : World), Kd.C (Kd.int .u8) w1 A m O → Calls Tryd.prog f #[.slice A m c, .int .i64 a] w1 fun e w' => e = .returned (.tuple #[.int .i64 (G a).1, .int .i64 (G a).2.1, .int .i64 (G a).2.2]) ∧ Below w1.heap.size w1 w'
set_option maxHeartbeats 8000000 in
set_option maxRecDepth 20000 in
theorem rd_num.get (G : Int → Int × Int × Int) (A : Option Addr) (m c : Nat) (O : List Int) (p : Nat) (at_ e0 : Int) (w : World) (hH : GetHyp 40 G A m c O) (hC : Kd.C (Kd.int .u8) w A m O) (hP : w.heap[p]? = some (.cells #[.slice A m c, .int .i64 at_, .int .i64 e0] 78 (0, 0))) :
    Calls Tryd.prog 39 #[.pointer (some ⟨p, 0, none⟩), .func (.func 40) #[] #[]] w fun e w' => e = .returned (.int .i64 (stepG G (at_, e0)).1) ∧ w'.heap[p]? = some (.cells #[.slice A m c, .int .i64 (stepG G (at_, e0)).2.1, .int .i64 (stepG G (at_, e0)).2.2] 78 (0, 0)) ∧ Bm p p w w' := by
  have HP := Aside0.mk hP
  have HC := Aside0.mk hC
  have HH := Aside0.mk (hH at_ w.drew (Kd.C_drew hC))
  obtain ⟨q0, q1, q2⟩ := rd_cells hP
  clear hP hC hH
  by_cases h0 : e0 = 0
  rotate_left
  · have e1 : (e0 != 0) = true := bne_iff_ne.mpr h0
    have HS : Aside0 (stepG G (at_, e0) = (0, (at_, e0))) := ⟨by unfold stepG; rw [if_neg h0]⟩
    clear h0
    go_enter Tryd.func39, Tryd.ntmps39
    go_wp2
    go_ret
    rw [HS.out]
    exact ⟨rfl, HP.out, Bm.refl _ _ _⟩
  have e1 : (e0 != 0) = false := bne_eq_false_iff_eq.mpr h0
  have HS : Aside0 (stepG G (at_, e0) = ((G at_).1, (G at_).2)) := ⟨by unfold stepG; rw [if_pos h0]⟩
  clear h0
  go_enter Tryd.func39, Tryd.ntmps39
  go_wp2_with fail
  refine start_ (n := 23) (S := fun w' => w'.cell? ⟨p, 0, none⟩ = some (.slice A m c) ∧ w'.cell? ⟨p, 1, none⟩ = some (.int .i64 at_)) (ds := [19, 22]) #[F_,F_,F_,F_,F_,F_,F_,F_,F_,F_,F_,F_,F_,F_,F_,F_,F_,F_,F_,F_,F_,F_,F_] (by kernel_rfl) rfl rfl ⟨(rd_cells (w := w.drew) HP.out).1, (rd_cells (w := w.drew) HP.out).2.1⟩ (fun hHeld => ?_)
  refine pure_ (i := 0) (N := some 12) (v := ?_) (a' := ?_) #[T_,F_,F_,F_,F_,F_,F_,F_,F_,F_,F_,F_,F_,F_,F_,F_,F_,F_,F_,F_,F_,F_,F_] rfl rfl (by kernel_rfl) (fun _ _ _ h => h) (Or.inl ⟨by rfl, ?_⟩) ?_ ?_
  rotate_left
  · intro w'
    go_simp
    with_reducible rfl
  rotate_left
  · simp only [Act.put, List.setIfInBounds_toArray, List.set_cons_zero, List.set_cons_succ, i64_w, i32_w]
    rfl
  refine pure_ (i := 1) (N := some 13) (v := ?_) (a' := ?_) #[T_,T_,F_,F_,F_,F_,F_,F_,F_,F_,F_,F_,F_,F_,F_,F_,F_,F_,F_,F_,F_,F_,F_] rfl rfl (by kernel_rfl) (fun _ _ _ h => h) (Or.inl ⟨by rfl, ?_⟩) ?_ ?_
  rotate_left
  · intro w'
    go_simp
    with_reducible rfl
  rotate_left
  · simp only [Act.put, List.setIfInBounds_toArray, List.set_cons_zero, List.set_cons_succ, i64_w, i32_w]
    rfl
  refine pure_ (i := 2) (N := some 14) (v := ?_) (a' := ?_) #[T_,T_,T_,F_,F_,F_,F_,F_,F_,F_,F_,F_,F_,F_,F_,F_,F_,F_,F_,F_,F_,F_,F_] rfl rfl (by kernel_rfl) (fun _ _ _ h => h) (Or.inl ⟨by rfl, ?_⟩) ?_ ?_
  rotate_left
  · intro w'
    go_simp
    with_reducible rfl
  rotate_left
  · simp only [Act.put, List.setIfInBounds_toArray, List.set_cons_zero, List.set_cons_succ, i64_w, i32_w]
    rfl
  refine pure_ (i := 3) (N := some 15) (v := ?_) (a' := ?_) #[T_,T_,T_,T_,F_,F_,F_,F_,F_,F_,F_,F_,F_,F_,F_,F_,F_,F_,F_,F_,F_,F_,F_] rfl rfl (by kernel_rfl) (fun _ _ _ h => h) (Or.inl ⟨by rfl, ?_⟩) ?_ ?_
  rotate_left
  · intro w'
    go_simp
    with_reducible rfl
  rotate_left
  · simp only [Act.put, List.setIfInBounds_toArray, List.set_cons_zero, List.set_cons_succ, i64_w, i32_w]
    rfl
  refine pure_ (i := 4) (N := some 16) (v := ?_) (a' := ?_) #[T_,T_,T_,T_,T_,F_,F_,F_,F_,F_,F_,F_,F_,F_,F_,F_,F_,F_,F_,F_,F_,F_,F_] rfl rfl (by kernel_rfl) (fun _ _ _ h => h) (Or.inl ⟨by rfl, ?_⟩) ?_ ?_
  rotate_left
  · intro w'
    go_simp
    with_reducible rfl
  rotate_left
  · simp only [Act.put, List.setIfInBounds_toArray, List.set_cons_zero, List.set_cons_succ, i64_w, i32_w]
    rfl
  refine pure_ (i := 5) (N := some 17) (v := ?_) (a' := ?_) #[T_,T_,T_,T_,T_,T_,F_,F_,F_,F_,F_,F_,F_,F_,F_,F_,F_,F_,F_,F_,F_,F_,F_] rfl rfl (by kernel_rfl) (fun _ _ _ h => h) (Or.inl ⟨by rfl, ?_⟩) ?_ ?_
  rotate_left
  · intro w'
    go_simp
    with_reducible rfl
  rotate_left
  · simp only [Act.put, List.setIfInBounds_toArray, List.set_cons_zero, List.set_cons_succ, i64_w, i32_w]
    rfl
  refine pure_ (i := 7) (N := some 19) (v := ?_) (a' := ?_) #[T_,T_,T_,T_,T_,T_,F_,T_,F_,F_,F_,F_,F_,F_,F_,F_,F_,F_,F_,F_,F_,F_,F_] rfl rfl (by kernel_rfl) (fun _ _ _ h => h) (Or.inl ⟨by rfl, ?_⟩) ?_ ?_
  rotate_left
  · intro w'
    go_simp
    with_reducible rfl
  rotate_left
  · simp only [Act.put, List.setIfInBounds_toArray, List.set_cons_zero, List.set_cons_succ, i64_w, i32_w]
    rfl
  refine pure_ (i := 8) (N := some 20) (v := ?_) (a' := ?_) #[T_,T_,T_,T_,T_,T_,F_,T_,T_,F_,F_,F_,F_,F_,F_,F_,F_,F_,F_,F_,F_,F_,F_] rfl rfl (by kernel_rfl) (fun _ _ _ h => h) (Or.inl ⟨by rfl, ?_⟩) ?_ ?_
  rotate_left
  · intro w'
    go_simp
    with_reducible rfl
  rotate_left
  · simp only [Act.put, List.setIfInBounds_toArray, List.set_cons_zero, List.set_cons_succ, i64_w, i32_w]
    rfl
  refine pure_ (i := 9) (N := some 21) (v := ?_) (a' := ?_) #[T_,T_,T_,T_,T_,T_,F_,T_,T_,T_,F_,F_,F_,F_,F_,F_,F_,F_,F_,F_,F_,F_,F_] rfl rfl (by kernel_rfl) (fun _ _ _ h => h) (Or.inl ⟨by rfl, ?_⟩) ?_ ?_
  rotate_left
  · intro w'
    go_simp
    with_reducible rfl
  rotate_left
  · simp only [Act.put, List.setIfInBounds_toArray, List.set_cons_zero, List.set_cons_succ, i64_w, i32_w]
    rfl
  refine take_ (i := 6) (N := some 18) (v := ?_) (a' := ?_) #[T_,T_,T_,T_,T_,T_,T_,T_,T_,T_,F_,F_,F_,F_,F_,F_,F_,F_,F_,F_,F_,F_,F_] rfl rfl (by kernel_rfl) (fun _ _ _ h => h) (Or.inl ⟨by rfl, ?_⟩) hHeld ?_ ?_
  rotate_left
  · rintro w' ⟨s0, s1⟩
    go_simp
    with_reducible rfl
  rotate_left
  · simp only [Act.put, List.setIfInBounds_toArray, List.set_cons_zero, List.set_cons_succ, i64_w, i32_w]
    rfl
  refine take_ (i := 10) (N := some 22) (v := ?_) (a' := ?_) #[T_,T_,T_,T_,T_,T_,T_,T_,T_,T_,T_,F_,F_,F_,F_,F_,F_,F_,F_,F_,F_,F_,F_] rfl rfl (by kernel_rfl) (fun _ _ _ h => h) (Or.inl ⟨by rfl, ?_⟩) hHeld ?_ ?_
  rotate_left
  · rintro w' ⟨s0, s1⟩
    go_simp
    with_reducible rfl
  rotate_left
  · simp only [Act.put, List.setIfInBounds_toArray, List.set_cons_zero, List.set_cons_succ, i64_w, i32_w]
    rfl
  refine one_ (i := 11) (N := some 23) #[T_,T_,T_,T_,T_,T_,T_,T_,T_,T_,T_,T_,F_,F_,F_,F_,F_,F_,F_,F_,F_,F_,F_] rfl rfl (by kernel_rfl) (by decide) (fun K hK => ?_)
  refine goesV_ (j := 14) Tryd.func40 (by kernel_rfl) rfl #[.slice A m c, .int .i64 at_] (by rfl) rfl rfl (by rfl) (by simp only [List.map_toArray, List.map_cons, List.map_nil]; rfl) ?_
  with_reducible refine (HH.out).mono ?_
  rintro e w5 ⟨rfl, hb5⟩
  refine ⟨_, rfl, ?_⟩
  have HP5 := Aside0.mk (blk_below (w := w.drew) HP.out hb5)
  have HB5 := Aside0.mk (((Bm.refl p p w).below (below_drew (Below.refl _ _))).below (w1 := w.drew) hb5)
  have qf5 := blk_frozen HP5.out 1
  have q52 := (rd_cells HP5.out).2.2
  clear hb5
  refine hK.out _ _ ⟨(rd_cells HP5.out).1, (rd_cells HP5.out).2.1⟩ (fun hHeld => ?_)
  clear hK K
  refine norm_ (a' := ?_) ?_ ?_
  rotate_left
  · show Act.put _ (some 23) _ = _
    simp only [Act.put, List.setIfInBounds_toArray, List.set_cons_zero, List.set_cons_succ, i64_w, i32_w]
    rfl
  refine pure_ (i := 12) (N := some 11) (v := ?_) (a' := ?_) #[T_,T_,T_,T_,T_,T_,T_,T_,T_,T_,T_,T_,T_,F_,F_,F_,F_,F_,F_,F_,F_,F_,F_] rfl rfl (by kernel_rfl) (fun _ _ _ h => h) (Or.inl ⟨by rfl, ?_⟩) ?_ ?_
  rotate_left
  · intro w'
    go_simp
    with_reducible rfl
  rotate_left
  · simp only [Act.put, List.setIfInBounds_toArray, List.set_cons_zero, List.set_cons_succ, i64_w, i32_w]
    rfl
  refine pure_ (i := 13) (N := some 24) (v := ?_) (a' := ?_) #[T_,T_,T_,T_,T_,T_,T_,T_,T_,T_,T_,T_,T_,T_,F_,F_,F_,F_,F_,F_,F_,F_,F_] rfl rfl (by kernel_rfl) (fun _ _ _ h => h) (Or.inl ⟨by rfl, ?_⟩) ?_ ?_
  rotate_left
  · intro w'
    go_simp
    with_reducible rfl
  rotate_left
  · simp only [Act.put, List.setIfInBounds_toArray, List.set_cons_zero, List.set_cons_succ, i64_w, i32_w]
    rfl
  refine pure_ (i := 14) (N := some 25) (v := ?_) (a' := ?_) #[T_,T_,T_,T_,T_,T_,T_,T_,T_,T_,T_,T_,T_,T_,T_,F_,F_,F_,F_,F_,F_,F_,F_] rfl rfl (by kernel_rfl) (fun _ _ _ h => h) (Or.inl ⟨by rfl, ?_⟩) ?_ ?_
  rotate_left
  · intro w'
    go_simp
    with_reducible rfl
  rotate_left
  · simp only [Act.put, List.setIfInBounds_toArray, List.set_cons_zero, List.set_cons_succ, i64_w, i32_w]
    rfl
  refine pure_ (i := 15) (N := some 26) (v := ?_) (a' := ?_) #[T_,T_,T_,T_,T_,T_,T_,T_,T_,T_,T_,T_,T_,T_,T_,T_,F_,F_,F_,F_,F_,F_,F_] rfl rfl (by kernel_rfl) (fun _ _ _ h => h) (Or.inl ⟨by rfl, ?_⟩) ?_ ?_
  rotate_left
  · intro w'
    go_simp
    with_reducible rfl
  rotate_left
  · simp only [Act.put, List.setIfInBounds_toArray, List.set_cons_zero, List.set_cons_succ, i64_w, i32_w]
    rfl
  refine pure_ (i := 16) (N := some 5) (v := ?_) (a' := ?_) #[T_,T_,T_,T_,T_,T_,T_,T_,T_,T_,T_,T_,T_,T_,T_,T_,T_,F_,F_,F_,F_,F_,F_] rfl rfl (by kernel_rfl) (fun _ _ _ h => h) (Or.inl ⟨by rfl, ?_⟩) ?_ ?_
  rotate_left
  · intro w'
    go_simp
    with_reducible rfl
  rotate_left
  · simp only [Act.put, List.setIfInBounds_toArray, List.set_cons_zero, List.set_cons_succ, i64_w, i32_w]
    rfl
  refine pure_ (i := 17) (N := some 27) (v := ?_) (a' := ?_) #[T_,T_,T_,T_,T_,T_,T_,T_,T_,T_,T_,T_,T_,T_,T_,T_,T_,T_,F_,F_,F_,F_,F_] rfl rfl (by kernel_rfl) (fun _ _ _ h => h) (Or.inl ⟨by rfl, ?_⟩) ?_ ?_
  rotate_left
  · intro w'
    go_simp
    with_reducible rfl
  rotate_left
  · simp only [Act.put, List.setIfInBounds_toArray, List.set_cons_zero, List.set_cons_succ, i64_w, i32_w]
    rfl
  refine pure_ (i := 18) (N := some 28) (v := ?_) (a' := ?_) #[T_,T_,T_,T_,T_,T_,T_,T_,T_,T_,T_,T_,T_,T_,T_,T_,T_,T_,T_,F_,F_,F_,F_] rfl rfl (by kernel_rfl) (fun _ _ _ h => h) (Or.inl ⟨by rfl, ?_⟩) ?_ ?_
  rotate_left
  · intro w'
    go_simp
    with_reducible rfl
  rotate_left
  · simp only [Act.put, List.setIfInBounds_toArray, List.set_cons_zero, List.set_cons_succ, i64_w, i32_w]
    rfl
  refine last_ (i := 19) (N := none) #[T_,T_,T_,T_,T_,T_,T_,T_,T_,T_,T_,T_,T_,T_,T_,T_,T_,T_,T_,T_,F_,F_,F_] rfl rfl (by kernel_rfl) (by decide) (fun K hK => ?_)
  refine skip_ (w1 := ?_) (by rfl) rfl ?_ ?_
  rotate_left
  · go_simp
    rfl
  have HP6 := Aside0.mk (blk_set HP5.out 1 (.int .i64 (G at_).2.1))
  have qf6 := blk_frozen HP6.out 2
  refine hK.out _ _ ?_
  clear hK K
  refine pure_ (i := 20) (N := some 29) (v := ?_) (a' := ?_) #[T_,T_,T_,T_,T_,T_,T_,T_,T_,T_,T_,T_,T_,T_,T_,T_,T_,T_,T_,T_,T_,F_,F_] rfl rfl (by kernel_rfl) (fun _ _ _ h => h) (Or.inl ⟨by rfl, ?_⟩) ?_ ?_
  rotate_left
  · intro w'
    go_simp
    with_reducible rfl
  rotate_left
  · simp only [Act.put, List.setIfInBounds_toArray, List.set_cons_zero, List.set_cons_succ, i64_w, i32_w]
    rfl
  refine pure_ (i := 21) (N := some 30) (v := ?_) (a' := ?_) #[T_,T_,T_,T_,T_,T_,T_,T_,T_,T_,T_,T_,T_,T_,T_,T_,T_,T_,T_,T_,T_,T_,F_] rfl rfl (by kernel_rfl) (fun _ _ _ h => h) (Or.inl ⟨by rfl, ?_⟩) ?_ ?_
  rotate_left
  · intro w'
    go_simp
    with_reducible rfl
  rotate_left
  · simp only [Act.put, List.setIfInBounds_toArray, List.set_cons_zero, List.set_cons_succ, i64_w, i32_w]
    rfl
  refine last_ (i := 22) (N := none) #[T_,T_,T_,T_,T_,T_,T_,T_,T_,T_,T_,T_,T_,T_,T_,T_,T_,T_,T_,T_,T_,T_,T_] rfl rfl (by kernel_rfl) (by decide) (fun K hK => ?_)
  refine skip_ (w1 := ?_) (by rfl) rfl ?_ ?_
  rotate_left
  · go_simp
    rfl
  have HP7 := Aside0.mk (blk_set HP6.out 2 (.int .i64 (G at_).2.2))
  refine hK.out _ _ ?_
  clear hK K
  refine done_ (by kernel_rfl) ?_
  go_wp2
  go_ret
  rw [HS.out]
  exact ⟨rfl, HP7.out, (HB5.out.setCell 1 _).setCell 2 _⟩
set_option maxHeartbeats 8000000 in
set_option maxRecDepth 20000 in
theorem rd_num.int (G : Int → Int × Int × Int) (A : Option Addr) (m c : Nat) (O : List Int) (p : Nat) (at_ e0 : Int) (w : World) (hH : GetHyp 65 G A m c O) (hC : Kd.C (Kd.int .u8) w A m O) (hP : w.heap[p]? = some (.cells #[.slice A m c, .int .i64 at_, .int .i64 e0] 78 (0, 0))) :
    Calls Tryd.prog 39 #[.pointer (some ⟨p, 0, none⟩), .func (.func 65) #[] #[]] w fun e w' => e = .returned (.int .i64 (stepG G (at_, e0)).1) ∧ w'.heap[p]? = some (.cells #[.slice A m c, .int .i64 (stepG G (at_, e0)).2.1, .int .i64 (stepG G (at_, e0)).2.2] 78 (0, 0)) ∧ Bm p p w w' := by
  have HP := Aside0.mk hP
  have HC := Aside0.mk hC
  have HH := Aside0.mk (hH at_ w.drew (Kd.C_drew hC))
  obtain ⟨q0, q1, q2⟩ := rd_cells hP
  clear hP hC hH
  by_cases h0 : e0 = 0
  rotate_left
  · have e1 : (e0 != 0) = true := bne_iff_ne.mpr h0
    have HS : Aside0 (stepG G (at_, e0) = (0, (at_, e0))) := ⟨by unfold stepG; rw [if_neg h0]⟩
    clear h0
    go_enter Tryd.func39, Tryd.ntmps39
    go_wp2
    go_ret
    rw [HS.out]
    exact ⟨rfl, HP.out, Bm.refl _ _ _⟩
  have e1 : (e0 != 0) = false := bne_eq_false_iff_eq.mpr h0
  have HS : Aside0 (stepG G (at_, e0) = ((G at_).1, (G at_).2)) := ⟨by unfold stepG; rw [if_pos h0]⟩
  clear h0
  go_enter Tryd.func39, Tryd.ntmps39
  go_wp2_with fail
  refine start_ (n := 23) (S := fun w' => w'.cell? ⟨p, 0, none⟩ = some (.slice A m c) ∧ w'.cell? ⟨p, 1, none⟩ = some (.int .i64 at_)) (ds := [19, 22]) #[F_,F_,F_,F_,F_,F_,F_,F_,F_,F_,F_,F_,F_,F_,F_,F_,F_,F_,F_,F_,F_,F_,F_] (by kernel_rfl) rfl rfl ⟨(rd_cells (w := w.drew) HP.out).1, (rd_cells (w := w.drew) HP.out).2.1⟩ (fun hHeld => ?_)
  refine pure_ (i := 0) (N := some 12) (v := ?_) (a' := ?_) #[T_,F_,F_,F_,F_,F_,F_,F_,F_,F_,F_,F_,F_,F_,F_,F_,F_,F_,F_,F_,F_,F_,F_] rfl rfl (by kernel_rfl) (fun _ _ _ h => h) (Or.inl ⟨by rfl, ?_⟩) ?_ ?_
  rotate_left
  · intro w'
    go_simp
    with_reducible rfl
  rotate_left
  · simp only [Act.put, List.setIfInBounds_toArray, List.set_cons_zero, List.set_cons_succ, i64_w, i32_w]
    rfl
  refine pure_ (i := 1) (N := some 13) (v := ?_) (a' := ?_) #[T_,T_,F_,F_,F_,F_,F_,F_,F_,F_,F_,F_,F_,F_,F_,F_,F_,F_,F_,F_,F_,F_,F_] rfl rfl (by kernel_rfl) (fun _ _ _ h => h) (Or.inl ⟨by rfl, ?_⟩) ?_ ?_
  rotate_left
  · intro w'
    go_simp
    with_reducible rfl
  rotate_left
  · simp only [Act.put, List.setIfInBounds_toArray, List.set_cons_zero, List.set_cons_succ, i64_w, i32_w]
    rfl
  refine pure_ (i := 2) (N := some 14) (v := ?_) (a' := ?_) #[T_,T_,T_,F_,F_,F_,F_,F_,F_,F_,F_,F_,F_,F_,F_,F_,F_,F_,F_,F_,F_,F_,F_] rfl rfl (by kernel_rfl) (fun _ _ _ h => h) (Or.inl ⟨by rfl, ?_⟩) ?_ ?_
  rotate_left
  · intro w'
    go_simp
    with_reducible rfl
  rotate_left
  · simp only [Act.put, List.setIfInBounds_toArray, List.set_cons_zero, List.set_cons_succ, i64_w, i32_w]
    rfl
  refine pure_ (i := 3) (N := some 15) (v := ?_) (a' := ?_) #[T_,T_,T_,T_,F_,F_,F_,F_,F_,F_,F_,F_,F_,F_,F_,F_,F_,F_,F_,F_,F_,F_,F_] rfl rfl (by kernel_rfl) (fun _ _ _ h => h) (Or.inl ⟨by rfl, ?_⟩) ?_ ?_
  rotate_left
  · intro w'
    go_simp
    with_reducible rfl
  rotate_left
  · simp only [Act.put, List.setIfInBounds_toArray, List.set_cons_zero, List.set_cons_succ, i64_w, i32_w]
    rfl
  refine pure_ (i := 4) (N := some 16) (v := ?_) (a' := ?_) #[T_,T_,T_,T_,T_,F_,F_,F_,F_,F_,F_,F_,F_,F_,F_,F_,F_,F_,F_,F_,F_,F_,F_] rfl rfl (by kernel_rfl) (fun _ _ _ h => h) (Or.inl ⟨by rfl, ?_⟩) ?_ ?_
  rotate_left
  · intro w'
    go_simp
    with_reducible rfl
  rotate_left
  · simp only [Act.put, List.setIfInBounds_toArray, List.set_cons_zero, List.set_cons_succ, i64_w, i32_w]
    rfl
  refine pure_ (i := 5) (N := some 17) (v := ?_) (a' := ?_) #[T_,T_,T_,T_,T_,T_,F_,F_,F_,F_,F_,F_,F_,F_,F_,F_,F_,F_,F_,F_,F_,F_,F_] rfl rfl (by kernel_rfl) (fun _ _ _ h => h) (Or.inl ⟨by rfl, ?_⟩) ?_ ?_
  rotate_left
  · intro w'
    go_simp
    with_reducible rfl
  rotate_left
  · simp only [Act.put, List.setIfInBounds_toArray, List.set_cons_zero, List.set_cons_succ, i64_w, i32_w]
    rfl
  refine pure_ (i := 7) (N := some 19) (v := ?_) (a' := ?_) #[T_,T_,T_,T_,T_,T_,F_,T_,F_,F_,F_,F_,F_,F_,F_,F_,F_,F_,F_,F_,F_,F_,F_] rfl rfl (by kernel_rfl) (fun _ _ _ h => h) (Or.inl ⟨by rfl, ?_⟩) ?_ ?_
  rotate_left
  · intro w'
    go_simp
    with_reducible rfl
  rotate_left
  · simp only [Act.put, List.setIfInBounds_toArray, List.set_cons_zero, List.set_cons_succ, i64_w, i32_w]
    rfl
  refine pure_ (i := 8) (N := some 20) (v := ?_) (a' := ?_) #[T_,T_,T_,T_,T_,T_,F_,T_,T_,F_,F_,F_,F_,F_,F_,F_,F_,F_,F_,F_,F_,F_,F_] rfl rfl (by kernel_rfl) (fun _ _ _ h => h) (Or.inl ⟨by rfl, ?_⟩) ?_ ?_
  rotate_left
  · intro w'
    go_simp
    with_reducible rfl
  rotate_left
  · simp only [Act.put, List.setIfInBounds_toArray, List.set_cons_zero, List.set_cons_succ, i64_w, i32_w]
    rfl
  refine pure_ (i := 9) (N := some 21) (v := ?_) (a' := ?_) #[T_,T_,T_,T_,T_,T_,F_,T_,T_,T_,F_,F_,F_,F_,F_,F_,F_,F_,F_,F_,F_,F_,F_] rfl rfl (by kernel_rfl) (fun _ _ _ h => h) (Or.inl ⟨by rfl, ?_⟩) ?_ ?_
  rotate_left
  · intro w'
    go_simp
    with_reducible rfl
  rotate_left
  · simp only [Act.put, List.setIfInBounds_toArray, List.set_cons_zero, List.set_cons_succ, i64_w, i32_w]
    rfl
  refine take_ (i := 6) (N := some 18) (v := ?_) (a' := ?_) #[T_,T_,T_,T_,T_,T_,T_,T_,T_,T_,F_,F_,F_,F_,F_,F_,F_,F_,F_,F_,F_,F_,F_] rfl rfl (by kernel_rfl) (fun _ _ _ h => h) (Or.inl ⟨by rfl, ?_⟩) hHeld ?_ ?_
  rotate_left
  · rintro w' ⟨s0, s1⟩
    go_simp
    with_reducible rfl
  rotate_left
  · simp only [Act.put, List.setIfInBounds_toArray, List.set_cons_zero, List.set_cons_succ, i64_w, i32_w]
    rfl
  refine take_ (i := 10) (N := some 22) (v := ?_) (a' := ?_) #[T_,T_,T_,T_,T_,T_,T_,T_,T_,T_,T_,F_,F_,F_,F_,F_,F_,F_,F_,F_,F_,F_,F_] rfl rfl (by kernel_rfl) (fun _ _ _ h => h) (Or.inl ⟨by rfl, ?_⟩) hHeld ?_ ?_
  rotate_left
  · rintro w' ⟨s0, s1⟩
    go_simp
    with_reducible rfl
  rotate_left
  · simp only [Act.put, List.setIfInBounds_toArray, List.set_cons_zero, List.set_cons_succ, i64_w, i32_w]
    rfl
  refine one_ (i := 11) (N := some 23) #[T_,T_,T_,T_,T_,T_,T_,T_,T_,T_,T_,T_,F_,F_,F_,F_,F_,F_,F_,F_,F_,F_,F_] rfl rfl (by kernel_rfl) (by decide) (fun K hK => ?_)
  refine goesV_ (j := 14) Tryd.func65 (by kernel_rfl) rfl #[.slice A m c, .int .i64 at_] (by rfl) rfl rfl (by rfl) (by simp only [List.map_toArray, List.map_cons, List.map_nil]; rfl) ?_
  with_reducible refine (HH.out).mono ?_
  rintro e w5 ⟨rfl, hb5⟩
  refine ⟨_, rfl, ?_⟩
  have HP5 := Aside0.mk (blk_below (w := w.drew) HP.out hb5)
  have HB5 := Aside0.mk (((Bm.refl p p w).below (below_drew (Below.refl _ _))).below (w1 := w.drew) hb5)
  have qf5 := blk_frozen HP5.out 1
  have q52 := (rd_cells HP5.out).2.2
  clear hb5
  refine hK.out _ _ ⟨(rd_cells HP5.out).1, (rd_cells HP5.out).2.1⟩ (fun hHeld => ?_)
  clear hK K
  refine norm_ (a' := ?_) ?_ ?_
  rotate_left
  · show Act.put _ (some 23) _ = _
    simp only [Act.put, List.setIfInBounds_toArray, List.set_cons_zero, List.set_cons_succ, i64_w, i32_w]
    rfl
  refine pure_ (i := 12) (N := some 11) (v := ?_) (a' := ?_) #[T_,T_,T_,T_,T_,T_,T_,T_,T_,T_,T_,T_,T_,F_,F_,F_,F_,F_,F_,F_,F_,F_,F_] rfl rfl (by kernel_rfl) (fun _ _ _ h => h) (Or.inl ⟨by rfl, ?_⟩) ?_ ?_
  rotate_left
  · intro w'
    go_simp
    with_reducible rfl
  rotate_left
  · simp only [Act.put, List.setIfInBounds_toArray, List.set_cons_zero, List.set_cons_succ, i64_w, i32_w]
    rfl
  refine pure_ (i := 13) (N := some 24) (v := ?_) (a' := ?_) #[T_,T_,T_,T_,T_,T_,T_,T_,T_,T_,T_,T_,T_,T_,F_,F_,F_,F_,F_,F_,F_,F_,F_] rfl rfl (by kernel_rfl) (fun _ _ _ h => h) (Or.inl ⟨by rfl, ?_⟩) ?_ ?_
  rotate_left
  · intro w'
    go_simp
    with_reducible rfl
  rotate_left
  · simp only [Act.put, List.setIfInBounds_toArray, List.set_cons_zero, List.set_cons_succ, i64_w, i32_w]
    rfl
  refine pure_ (i := 14) (N := some 25) (v := ?_) (a' := ?_) #[T_,T_,T_,T_,T_,T_,T_,T_,T_,T_,T_,T_,T_,T_,T_,F_,F_,F_,F_,F_,F_,F_,F_] rfl rfl (by kernel_rfl) (fun _ _ _ h => h) (Or.inl ⟨by rfl, ?_⟩) ?_ ?_
  rotate_left
  · intro w'
    go_simp
    with_reducible rfl
  rotate_left
  · simp only [Act.put, List.setIfInBounds_toArray, List.set_cons_zero, List.set_cons_succ, i64_w, i32_w]
    rfl
  refine pure_ (i := 15) (N := some 26) (v := ?_) (a' := ?_) #[T_,T_,T_,T_,T_,T_,T_,T_,T_,T_,T_,T_,T_,T_,T_,T_,F_,F_,F_,F_,F_,F_,F_] rfl rfl (by kernel_rfl) (fun _ _ _ h => h) (Or.inl ⟨by rfl, ?_⟩) ?_ ?_
  rotate_left
  · intro w'
    go_simp
    with_reducible rfl
  rotate_left
  · simp only [Act.put, List.setIfInBounds_toArray, List.set_cons_zero, List.set_cons_succ, i64_w, i32_w]
    rfl
  refine pure_ (i := 16) (N := some 5) (v := ?_) (a' := ?_) #[T_,T_,T_,T_,T_,T_,T_,T_,T_,T_,T_,T_,T_,T_,T_,T_,T_,F_,F_,F_,F_,F_,F_] rfl rfl (by kernel_rfl) (fun _ _ _ h => h) (Or.inl ⟨by rfl, ?_⟩) ?_ ?_
  rotate_left
  · intro w'
    go_simp
    with_reducible rfl
  rotate_left
  · simp only [Act.put, List.setIfInBounds_toArray, List.set_cons_zero, List.set_cons_succ, i64_w, i32_w]
    rfl
  refine pure_ (i := 17) (N := some 27) (v := ?_) (a' := ?_) #[T_,T_,T_,T_,T_,T_,T_,T_,T_,T_,T_,T_,T_,T_,T_,T_,T_,T_,F_,F_,F_,F_,F_] rfl rfl (by kernel_rfl) (fun _ _ _ h => h) (Or.inl ⟨by rfl, ?_⟩) ?_ ?_
  rotate_left
  · intro w'
    go_simp
    with_reducible rfl
  rotate_left
  · simp only [Act.put, List.setIfInBounds_toArray, List.set_cons_zero, List.set_cons_succ, i64_w, i32_w]
    rfl
  refine pure_ (i := 18) (N := some 28) (v := ?_) (a' := ?_) #[T_,T_,T_,T_,T_,T_,T_,T_,T_,T_,T_,T_,T_,T_,T_,T_,T_,T_,T_,F_,F_,F_,F_] rfl rfl (by kernel_rfl) (fun _ _ _ h => h) (Or.inl ⟨by rfl, ?_⟩) ?_ ?_
  rotate_left
  · intro w'
    go_simp
    with_reducible rfl
  rotate_left
  · simp only [Act.put, List.setIfInBounds_toArray, List.set_cons_zero, List.set_cons_succ, i64_w, i32_w]
    rfl
  refine last_ (i := 19) (N := none) #[T_,T_,T_,T_,T_,T_,T_,T_,T_,T_,T_,T_,T_,T_,T_,T_,T_,T_,T_,T_,F_,F_,F_] rfl rfl (by kernel_rfl) (by decide) (fun K hK => ?_)
  refine skip_ (w1 := ?_) (by rfl) rfl ?_ ?_
  rotate_left
  · go_simp
    rfl
  have HP6 := Aside0.mk (blk_set HP5.out 1 (.int .i64 (G at_).2.1))
  have qf6 := blk_frozen HP6.out 2
  refine hK.out _ _ ?_
  clear hK K
  refine pure_ (i := 20) (N := some 29) (v := ?_) (a' := ?_) #[T_,T_,T_,T_,T_,T_,T_,T_,T_,T_,T_,T_,T_,T_,T_,T_,T_,T_,T_,T_,T_,F_,F_] rfl rfl (by kernel_rfl) (fun _ _ _ h => h) (Or.inl ⟨by rfl, ?_⟩) ?_ ?_
  rotate_left
  · intro w'
    go_simp
    with_reducible rfl
  rotate_left
  · simp only [Act.put, List.setIfInBounds_toArray, List.set_cons_zero, List.set_cons_succ, i64_w, i32_w]
    rfl
  refine pure_ (i := 21) (N := some 30) (v := ?_) (a' := ?_) #[T_,T_,T_,T_,T_,T_,T_,T_,T_,T_,T_,T_,T_,T_,T_,T_,T_,T_,T_,T_,T_,T_,F_] rfl rfl (by kernel_rfl) (fun _ _ _ h => h) (Or.inl ⟨by rfl, ?_⟩) ?_ ?_
  rotate_left
  · intro w'
    go_simp
    with_reducible rfl
  rotate_left
  · simp only [Act.put, List.setIfInBounds_toArray, List.set_cons_zero, List.set_cons_succ, i64_w, i32_w]
    rfl
  refine last_ (i := 22) (N := none) #[T_,T_,T_,T_,T_,T_,T_,T_,T_,T_,T_,T_,T_,T_,T_,T_,T_,T_,T_,T_,T_,T_,T_] rfl rfl (by kernel_rfl) (by decide) (fun K hK => ?_)
  refine skip_ (w1 := ?_) (by rfl) rfl ?_ ?_
  rotate_left
  · go_simp
    rfl
  have HP7 := Aside0.mk (blk_set HP6.out 2 (.int .i64 (G at_).2.2))
  refine hK.out _ _ ?_
  clear hK K
  refine done_ (by kernel_rfl) ?_
  go_wp2
  go_ret
  rw [HS.out]
  exact ⟨rfl, HP7.out, (HB5.out.setCell 1 _).setCell 2 _⟩
/-! ### num_Get: function 40 -/
mutual
def num_Get.j0 : Nat → List Int → Int → Bool → Option (Int × Int × Int)
  | 0, _, _, _ => none
  | k + 1, x0, x1, x17 => if x17 = true then (some (0, 0, 3)) else (num_Get.l0 k x0 x1 0 0)
def num_Get.l0 : Nat → List Int → Int → Int → Int → Option (Int × Int × Int)
  | 0, _, _, _, _ => none
  | k + 1, x0, x1, x7, x18 => if x18 < 9 then (if (wrap64 (x1 + x18)) ≥ (x0.length : Int) then (some (0, 0, 4)) else (if 0 ≤ (wrap64 (x1 + x18)) then (if (wrap64 (x1 + x18)) < (x0.length : Int) then (if 0 ≤ (wrap64 (7 * x18)) then (if (rd x0 (wrap64 (x1 + x18))) > 127 then (num_Get.l0 k x0 x1 (Go.bits .or .i64 x7 (shl .i64 (wrap64 (Go.bits .and .u8 (rd x0 (wrap64 (x1 + x18))) 127)) (wrap64 (7 * x18)))) (wrap64 (x18 + 1))) else (if (rd x0 (wrap64 (x1 + x18))) = 0 then (num_Get.j2 k x1 (Go.bits .or .i64 x7 (shl .i64 (wrap64 (Go.bits .and .u8 (rd x0 (wrap64 (x1 + x18))) 127)) (wrap64 (7 * x18)))) x18 (decide (x18 > 0))) else (num_Get.j2 k x1 (Go.bits .or .i64 x7 (shl .i64 (wrap64 (Go.bits .and .u8 (rd x0 (wrap64 (x1 + x18))) 127)) (wrap64 (7 * x18)))) x18 false))) else (none)) else (none)) else (none))) else (some (0, 0, 5))
def num_Get.j2 : Nat → Int → Int → Int → Bool → Option (Int × Int × Int)
  | 0, _, _, _, _ => none
  | k + 1, x1, x7, x8, x43 => if x43 = true then (some (0, 0, 5)) else (if x7 > 4611686018427387903 then (some (0, 0, 7)) else (some (x7, wrap64 ((wrap64 (x1 + x8)) + 1), 0)))
end
def num_Get.f (k : Nat) (l0 : List Int) (a1 : Int) : Option (Int × Int × Int) := if a1 < 0 then (num_Get.j0 k l0 a1 true) else (num_Get.j0 k l0 a1 (decide (a1 > (l0.length : Int))))
set_option maxHeartbeats 8000000 in
set_option maxRecDepth 100000 in
theorem num_Get.calls (k : Nat) (A0 : Option Addr) (c0 : Nat) (l0 : List Int) (a1 : Int) (r1 : Int) (r2 : Int) (r3 : Int) (w : World) (hr0 : Kd.C (Kd.int .u8) w A0 l0.length l0) (hc0 : l0.length ≤ c0) (h : num_Get.f k l0 a1 = some (r1, r2, r3)) :
    Calls Tryd.prog 40 #[.slice A0 l0.length c0, .int .i64 a1] w fun e w' => e = .returned (.tuple #[.int .i64 r1, .int .i64 r2, .int .i64 r3]) ∧ Drawn0 w w' := by
  have HR0 := Aside0.mk hr0
  have HC0 := Aside0.mk hc0
  clear hr0 hc0
  have H : (if a1 < 0 then (num_Get.j0 k l0 a1 true) else (num_Get.j0 k l0 a1 (decide (a1 > (l0.length : Int))))) = some (r1, r2, r3) := h
  clear h
  have HC3 := Aside0.mk H
  clear H
  go_enter Tryd.func40, Tryd.ntmps40
  go_upto_region 1 with (fail)
  go_cut [17] (fun v17 wc => ∃ (kq : Nat) (x17_2 : Bool), v17 = .bool x17_2 ∧ Aside0 (num_Get.j0 kq l0 a1 x17_2 = some (r1, r2, r3)) ∧ Aside0 (kq ≤ k) ∧ Drawn0 w wc)
  case first =>
    have H := HC3.out
    clear HC3
    by_cases c4 : a1 < 0
    · rw [if_pos c4] at H
      have c4b0 : decide (a1 < 0) = true := decide_eq_true c4
      clear c4
      (first | rw [c4b0] | (simp only [i64_w, i32_w]; rw [c4b0]) | skip)
      have H' := Aside0.mk H
      clear H
      go_wp2
      go_meet
      case rel => exact ⟨_, (true), (by first | rfl | (simp; done) | (simp [*]; done)), H', ⟨by first | omega | exact Nat.le_refl _⟩, by repeat (first | exact Drawn0.refl _ | apply Drawn0.step)⟩
    · rw [if_neg c4] at H
      have c4b0 : decide (a1 < 0) = false := decide_eq_false c4
      clear c4
      (first | rw [c4b0] | (simp only [i64_w, i32_w]; rw [c4b0]) | skip)
      have H' := Aside0.mk H
      clear H
      go_wp2
      go_meet
      case rel => exact ⟨_, (decide (a1 > (l0.length : Int))), (by first | rfl | (simp; done) | (simp [*]; done)), H', ⟨by first | omega | exact Nat.le_refl _⟩, by repeat (first | exact Drawn0.refl _ | apply Drawn0.step)⟩
  case rest =>
    clear HC3
    try clear p2
    try clear c4
    try clear c4b0
    obtain ⟨kq, x17_2, rfl, HA, HJ2, ⟨mc2, rfl⟩⟩ := hcut
    cases kq with
    | zero => exact absurd HA.out (by simp [num_Get.j0])
    | succ kj2 =>
      have H := HA.out
      clear HA
      simp only [num_Get.j0] at H
      by_cases c5 : x17_2 = true
      · subst c5
        have H1 : (some (0, 0, 3)) = some (r1, r2, r3) := by rw [if_pos rfl] at H; exact H
        clear H
        have H := H1
        clear H1
        simp only [Option.some.injEq, Prod.mk.injEq] at H
        obtain ⟨rfl, rfl, rfl⟩ := H
        go_wp2
        go_ret3
        exact ⟨by first | rfl | (simp; done) | (simp [*]; done), by repeat (first | exact Drawn0.refl _ | apply Drawn0.step)⟩
      · replace c5 := Bool.eq_false_iff.mpr c5
        subst c5
        have H1 : (num_Get.l0 kj2 l0 a1 0 0) = some (r1, r2, r3) := by rw [if_neg (show ¬ (false = true) by decide)] at H; exact H
        clear H
        have H := H1
        clear H1
        have H' := Aside0.mk H
        clear H
        go_wp2
        go_loopg [7, 18] kj2 (fun kq v7 v18 w' => ∃ (x7_2 : Int) (x18_2 : Int), v7 = .int .i64 x7_2 ∧ v18 = .int .i64 x18_2 ∧ Aside0 (num_Get.l0 kq l0 a1 x7_2 x18_2 = some (r1, r2, r3)) ∧ Aside0 (kq ≤ kj2) ∧ Drawn0 w w')
        case atStart => exact ⟨(0), (0), (by first | rfl | (simp; done) | (simp [*]; done)), (by first | rfl | (simp; done) | (simp [*]; done)), H', ⟨Nat.le_refl _⟩, by repeat (first | exact Drawn0.refl _ | apply Drawn0.step)⟩
        case round =>
          clear H'
          try clear c2
          try clear p2
          try clear c4
          try clear c4b0
          try clear c5
          try clear p2
          obtain ⟨x7_2, x18_2, rfl, rfl, HA, HK2, ⟨m2, rfl⟩⟩ := hrel
          cases gk with
          | zero => exact absurd HA.out (by simp [num_Get.l0])
          | succ k2 =>
            have H := HA.out
            clear HA
            simp only [num_Get.l0] at H
            by_cases c6 : x18_2 < 9
            · rw [if_pos c6] at H
              have c6b0 : decide (x18_2 < 9) = true := decide_eq_true c6
              clear c6
              by_cases c7 : (wrap64 (a1 + x18_2)) ≥ (l0.length : Int)
              · rw [if_pos c7] at H
                have c7b0 : decide ((l0.length : Int) ≤ (wrap64 (a1 + x18_2))) = true := decide_eq_true c7
                clear c7
                simp only [Option.some.injEq, Prod.mk.injEq] at H
                obtain ⟨rfl, rfl, rfl⟩ := H
                go_wp2
                go_ret3
                exact ⟨by first | rfl | (simp; done) | (simp [*]; done), by repeat (first | exact Drawn0.refl _ | apply Drawn0.step)⟩
              · rw [if_neg c7] at H
                have c7b0 : decide ((l0.length : Int) ≤ (wrap64 (a1 + x18_2))) = false := decide_eq_false c7
                clear c7
                obtain ⟨ji8, hji8⟩ : ∃ j_ : Int, (wrap64 (a1 + x18_2)) = j_ := ⟨_, rfl⟩
                replace H : (if 0 ≤ (ji8) then (if (ji8) < (l0.length : Int) then (if 0 ≤ (wrap64 (7 * x18_2)) then (if (rd l0 (ji8)) > 127 then (num_Get.l0 k2 l0 a1 (Go.bits .or .i64 x7_2 (shl .i64 (wrap64 (Go.bits .and .u8 (rd l0 (ji8)) 127)) (wrap64 (7 * x18_2)))) (wrap64 (x18_2 + 1))) else (if (rd l0 (ji8)) = 0 then (num_Get.j2 k2 a1 (Go.bits .or .i64 x7_2 (shl .i64 (wrap64 (Go.bits .and .u8 (rd l0 (ji8)) 127)) (wrap64 (7 * x18_2)))) x18_2 (decide (x18_2 > 0))) else (num_Get.j2 k2 a1 (Go.bits .or .i64 x7_2 (shl .i64 (wrap64 (Go.bits .and .u8 (rd l0 (ji8)) 127)) (wrap64 (7 * x18_2)))) x18_2 false))) else (none)) else (none)) else (none)) = some (r1, r2, r3) := by first | (rw [hji8] at H; exact H) | (simp only [hji8] at H ⊢; exact H)
                (try rw [hji8] at c7b0)
                have hji8w : (IntKind.i64.wrap (a1 + x18_2)) = ji8 := (i64_w _).trans hji8
                by_cases c9 : 0 ≤ (ji8)
                · rw [if_pos c9] at H
                  have c9b0 : decide (0 ≤ (ji8)) = true := decide_eq_true c9
                  clear c9
                  by_cases c10 : (ji8) < (l0.length : Int)
                  · rw [if_pos c10] at H
                    have c10b0 : decide ((ji8) < (l0.length : Int)) = true := decide_eq_true c10
                    clear c10
                    obtain ⟨ji11, hji11⟩ : ∃ j_ : Int, (wrap64 (7 * x18_2)) = j_ := ⟨_, rfl⟩
                    replace H : (if 0 ≤ (ji11) then (if (rd l0 (ji8)) > 127 then (num_Get.l0 k2 l0 a1 (Go.bits .or .i64 x7_2 (shl .i64 (wrap64 (Go.bits .and .u8 (rd l0 (ji8)) 127)) (ji11))) (wrap64 (x18_2 + 1))) else (if (rd l0 (ji8)) = 0 then (num_Get.j2 k2 a1 (Go.bits .or .i64 x7_2 (shl .i64 (wrap64 (Go.bits .and .u8 (rd l0 (ji8)) 127)) (ji11))) x18_2 (decide (x18_2 > 0))) else (num_Get.j2 k2 a1 (Go.bits .or .i64 x7_2 (shl .i64 (wrap64 (Go.bits .and .u8 (rd l0 (ji8)) 127)) (ji11))) x18_2 false))) else (none)) = some (r1, r2, r3) := by first | (rw [hji11] at H; exact H) | (simp only [hji11] at H ⊢; exact H)
                    have hji11w : (IntKind.i64.wrap (7 * x18_2)) = ji11 := (i64_w _).trans hji11
                    by_cases c12 : 0 ≤ (ji11)
                    · rw [if_pos c12] at H
                      have c12b0 := eq_true c12
                      have c12b1 : decide (0 ≤ (ji11)) = true := decide_eq_true c12
                      clear c12
                      obtain ⟨ji13, hji13⟩ : ∃ j_ : Int, (shl .i64 (wrap64 (Go.bits .and .u8 (rd l0 (ji8)) 127)) (ji11)) = j_ := ⟨_, rfl⟩
                      replace H : (if (rd l0 (ji8)) > 127 then (num_Get.l0 k2 l0 a1 (Go.bits .or .i64 x7_2 (ji13)) (wrap64 (x18_2 + 1))) else (if (rd l0 (ji8)) = 0 then (num_Get.j2 k2 a1 (Go.bits .or .i64 x7_2 (ji13)) x18_2 (decide (x18_2 > 0))) else (num_Get.j2 k2 a1 (Go.bits .or .i64 x7_2 (ji13)) x18_2 false))) = some (r1, r2, r3) := by first | (rw [hji13] at H; exact H) | (simp only [hji13] at H ⊢; exact H)
                      have hji13_ : (IntKind.i64.wrap ((wrap64 (Go.bits .and .u8 (rd l0 (ji8)) 127)) * 2 ^ min (ji11).toNat 64)) = ji13 := hji13
                      have hji13z : (ji11) ≤ 64 → (IntKind.i64.wrap ((wrap64 (Go.bits .and .u8 (rd l0 (ji8)) 127)) * 2 ^ (ji11).toNat)) = ji13 := shl_small hji13
                      have hji13y : (wrap64 ((wrap64 (Go.bits .and .u8 (rd l0 (ji8)) 127)) * 2 ^ min (ji11).toNat 64)) = ji13 := (i64_w _).symm.trans hji13_
                      have hji13x : (ji11) ≤ 64 → (wrap64 ((wrap64 (Go.bits .and .u8 (rd l0 (ji8)) 127)) * 2 ^ (ji11).toNat)) = ji13 := fun h_ => (i64_w _).symm.trans (hji13z h_)
                      by_cases c14 : (rd l0 (ji8)) > 127
                      · rw [if_pos c14] at H
                        have c14b0 : decide (127 < (rd l0 (ji8))) = true := decide_eq_true c14
                        clear c14
                        have H' := Aside0.mk H
                        clear H
                        have p234 : 0 ≤ ((ji8) : Int) := of_decide_eq_true (by first | (with_reducible assumption) | assumption)
                        have q234 : (ji8) < (l0.length : Int) := of_decide_eq_true (by first | (with_reducible assumption) | assumption)
                        obtain ⟨ad234, e234, hx234_0⟩ := Kd.at_int HR0.out (ji8) p234 q234
                        cases e234
                        replace p234 := eq_true p234
                        replace q234 := eq_true q234
                        go_wp2
                        go_roundg k2
                        case measure => have := HJ2.out; have := HK2.out; omega
                        case rel => exact ⟨(Go.bits .or .i64 x7_2 (ji13)), (wrap64 (x18_2 + 1)), (by first | rfl | (simp; done) | (simp only [← hji13] <;> (first | rfl | simp)) | (simp [*]; done)), (by first | rfl | (simp; done) | (simp [*]; done)), H', ⟨by have := HJ2.out; have := HK2.out; omega⟩, by repeat (first | exact Drawn0.refl _ | apply Drawn0.step)⟩
                      · rw [if_neg c14] at H
                        have c14b0 : decide (127 < (rd l0 (ji8))) = false := decide_eq_false c14
                        clear c14
                        have HC15 := Aside0.mk H
                        clear H
                        have p234 : 0 ≤ ((ji8) : Int) := of_decide_eq_true (by first | (with_reducible assumption) | assumption)
                        have q234 : (ji8) < (l0.length : Int) := of_decide_eq_true (by first | (with_reducible assumption) | assumption)
                        obtain ⟨ad234, e234, hx234_0⟩ := Kd.at_int HR0.out (ji8) p234 q234
                        cases e234
                        replace p234 := eq_true p234
                        replace q234 := eq_true q234
                        go_upto_region 12 with (fail)
                        go_cut [43] (fun v43 wc => ∃ (kq : Nat) (x43_14 : Bool), v43 = .bool x43_14 ∧ Aside0 (num_Get.j2 kq a1 (Go.bits .or .i64 x7_2 (ji13)) x18_2 x43_14 = some (r1, r2, r3)) ∧ Aside0 (kq ≤ k2) ∧ Drawn0 w wc)
                        case first =>
                          have H := HC15.out
                          clear HC15
                          by_cases c16 : (rd l0 (ji8)) = 0
                          · rw [if_pos c16] at H
                            have c16b0 : ((rd l0 (ji8)) == 0) = true := beq_iff_eq.mpr c16
                            have c16b1 : ((rd l0 (ji8)) != 0) = false := bne_eq_false_iff_eq.mpr c16
                            clear c16
                            (first | rw [c16b0] | (simp only [i64_w, i32_w]; rw [c16b0]) | skip)
                            have H' := Aside0.mk H
                            clear H
                            go_wp2
                            go_meet
                            case rel => exact ⟨_, (decide (x18_2 > 0)), (by first | rfl | (simp; done) | (simp [*]; done)), H', ⟨by have := HJ2.out; have := HK2.out; first | omega | exact Nat.le_refl _⟩, by repeat (first | exact Drawn0.refl _ | apply Drawn0.step)⟩
                          · rw [if_neg c16] at H
                            have c16b0 : ((rd l0 (ji8)) == 0) = false := beq_eq_false_iff_ne.mpr c16
                            have c16b1 : ((rd l0 (ji8)) != 0) = true := bne_iff_ne.mpr c16
                            (first | rw [c16b0] | (simp only [i64_w, i32_w]; rw [c16b0]) | skip)
                            have H' := Aside0.mk H
                            clear H
                            go_wp2
                            go_meet
                            case rel => exact ⟨_, (false), (by first | rfl | (simp; done) | (simp [*]; done)), H', ⟨by have := HJ2.out; have := HK2.out; first | omega | exact Nat.le_refl _⟩, by repeat (first | exact Drawn0.refl _ | apply Drawn0.step)⟩
                        case rest =>
                          clear HC15
                          try clear c1
                          try clear c2
                          try clear p2
                          try clear q2
                          try clear hx2
                          try clear c4
                          try clear c4b0
                          try clear c5
                          try clear c6
                          try clear c6b0
                          try clear p6
                          try clear c7
                          try clear c7b0
                          try clear c9
                          try clear c9b0
                          try clear c10
                          try clear c10b0
                          try clear c12
                          try clear c12b0
                          try clear c12b1
                          try clear c14
                          try clear c14b0
                          try clear c16
                          try clear c16b0
                          try clear c16b1
                          try clear hx234_0
                          try clear p2
                          try clear p234
                          try clear q234
                          obtain ⟨kq, x43_14, rfl, HA, HJ14, ⟨mc14, rfl⟩⟩ := hcut
                          cases kq with
                          | zero => exact absurd HA.out (by simp [num_Get.j2])
                          | succ kj14 =>
                            have H := HA.out
                            clear HA
                            simp only [num_Get.j2] at H
                            by_cases c17 : x43_14 = true
                            · subst c17
                              have H1 : (some (0, 0, 5)) = some (r1, r2, r3) := by rw [if_pos rfl] at H; exact H
                              clear H
                              have H := H1
                              clear H1
                              simp only [Option.some.injEq, Prod.mk.injEq] at H
                              obtain ⟨rfl, rfl, rfl⟩ := H
                              go_wp2
                              go_ret3
                              exact ⟨by first | rfl | (simp; done) | (simp only [← hji8, ← hji11, ← hji13] <;> (first | rfl | simp)) | (simp [*]; done), by repeat (first | exact Drawn0.refl _ | apply Drawn0.step)⟩
                            · replace c17 := Bool.eq_false_iff.mpr c17
                              subst c17
                              have H1 : (if (Go.bits .or .i64 x7_2 (ji13)) > 4611686018427387903 then (some (0, 0, 7)) else (some ((Go.bits .or .i64 x7_2 (ji13)), wrap64 ((wrap64 (a1 + x18_2)) + 1), 0))) = some (r1, r2, r3) := by rw [if_neg (show ¬ (false = true) by decide)] at H; exact H
                              clear H
                              have H := H1
                              clear H1
                              by_cases c18 : (Go.bits .or .i64 x7_2 (ji13)) > 4611686018427387903
                              · rw [if_pos c18] at H
                                have c18b0 : decide (4611686018427387903 < (Go.bits .or .i64 x7_2 (ji13))) = true := decide_eq_true c18
                                clear c18
                                simp only [Option.some.injEq, Prod.mk.injEq] at H
                                obtain ⟨rfl, rfl, rfl⟩ := H
                                go_wp2
                                go_ret3
                                exact ⟨by first | rfl | (simp; done) | (simp only [← hji8, ← hji11, ← hji13] <;> (first | rfl | simp)) | (simp [*]; done), by repeat (first | exact Drawn0.refl _ | apply Drawn0.step)⟩
                              · rw [if_neg c18] at H
                                have c18b0 : decide (4611686018427387903 < (Go.bits .or .i64 x7_2 (ji13))) = false := decide_eq_false c18
                                clear c18
                                simp only [Option.some.injEq, Prod.mk.injEq] at H
                                obtain ⟨rfl, rfl, rfl⟩ := H
                                go_wp2
                                go_ret3
                                exact ⟨by first | rfl | (simp; done) | (simp only [← hji8, ← hji11, ← hji13] <;> (first | rfl | simp)) | (simp [*]; done), by repeat (first | exact Drawn0.refl _ | apply Drawn0.step)⟩
                    · rw [if_neg c12] at H
                      exact absurd H (by simp)
                  · rw [if_neg c10] at H
                    exact absurd H (by simp)
                · rw [if_neg c9] at H
                  exact absurd H (by simp)
            · rw [if_neg c6] at H
              have c6b0 : decide (x18_2 < 9) = false := decide_eq_false c6
              clear c6
              simp only [Option.some.injEq, Prod.mk.injEq] at H
              obtain ⟨rfl, rfl, rfl⟩ := H
              go_wp2
              go_ret3
              exact ⟨by first | rfl | (simp; done) | (simp [*]; done), by repeat (first | exact Drawn0.refl _ | apply Drawn0.step)⟩

/-! ### num_GetText: function 64 -/
def num_GetText.f (k : Nat) (l0 : List Int) (a1 : Int) (a2 : Int) : Option (ByteArray × Int × Int) := (num_Get.f k l0 a1).bind fun bt235 => (if bt235.2.2 = 0 then (if bt235.1 > (mx a2 0) then (some ((⟨#[]⟩ : ByteArray), 0, 7)) else (if bt235.1 > (wrap64 ((l0.length : Int) - bt235.2.1)) then (some ((⟨#[]⟩ : ByteArray), 0, 4)) else (if 0 ≤ bt235.2.1 then (if bt235.2.1 ≤ (wrap64 (bt235.2.1 + bt235.1)) then (if (wrap64 (bt235.2.1 + bt235.1)) ≤ (l0.length : Int) then (some (strOfNums ((l0.take ((wrap64 (bt235.2.1 + bt235.1)) : Int).toNat).drop (bt235.2.1 : Int).toNat), wrap64 (bt235.2.1 + bt235.1), 0)) else (none)) else (none)) else (none)))) else (some ((⟨#[]⟩ : ByteArray), 0, bt235.2.2)))
set_option maxHeartbeats 8000000 in
set_option maxRecDepth 100000 in
theorem num_GetText.calls (k : Nat) (A0 : Option Addr) (c0 : Nat) (l0 : List Int) (a1 : Int) (a2 : Int) (r1 : ByteArray) (r2 : Int) (r3 : Int) (w : World) (hr0 : Kd.C (Kd.int .u8) w A0 l0.length l0) (hc0 : l0.length ≤ c0) (h : num_GetText.f k l0 a1 a2 = some (r1, r2, r3)) :
    Calls Tryd.prog 64 #[.slice A0 l0.length c0, .int .i64 a1, .int .i64 a2] w fun e w' => e = .returned (.tuple #[.string r1, .int .i64 r2, .int .i64 r3]) ∧ Below w.heap.size w w' := by
  have HR0 := Aside0.mk hr0
  have HC0 := Aside0.mk hc0
  clear hr0 hc0
  have HB := Aside0.mk (Below.refl w.heap.size w)
  have H : ((num_Get.f k l0 a1).bind fun bt235 => (if bt235.2.2 = 0 then (if bt235.1 > (mx a2 0) then (some ((⟨#[]⟩ : ByteArray), 0, 7)) else (if bt235.1 > (wrap64 ((l0.length : Int) - bt235.2.1)) then (some ((⟨#[]⟩ : ByteArray), 0, 4)) else (if 0 ≤ bt235.2.1 then (if bt235.2.1 ≤ (wrap64 (bt235.2.1 + bt235.1)) then (if (wrap64 (bt235.2.1 + bt235.1)) ≤ (l0.length : Int) then (some (strOfNums ((l0.take ((wrap64 (bt235.2.1 + bt235.1)) : Int).toNat).drop (bt235.2.1 : Int).toNat), wrap64 (bt235.2.1 + bt235.1), 0)) else (none)) else (none)) else (none)))) else (some ((⟨#[]⟩ : ByteArray), 0, bt235.2.2)))) = some (r1, r2, r3) := h
  clear h
  replace H := Option.bind_eq_some_iff.mp H
  obtain ⟨⟨t235, t236, t237⟩, A40, H⟩ := H
  replace H : (if t237 = 0 then (if t235 > (mx a2 0) then (some ((⟨#[]⟩ : ByteArray), 0, 7)) else (if t235 > (wrap64 ((l0.length : Int) - t236)) then (some ((⟨#[]⟩ : ByteArray), 0, 4)) else (if 0 ≤ t236 then (if t236 ≤ (wrap64 (t236 + t235)) then (if (wrap64 (t236 + t235)) ≤ (l0.length : Int) then (some (strOfNums ((l0.take ((wrap64 (t236 + t235)) : Int).toNat).drop (t236 : Int).toNat), wrap64 (t236 + t235), 0)) else (none)) else (none)) else (none)))) else (some ((⟨#[]⟩ : ByteArray), 0, t237))) = some (r1, r2, r3) := H
  have A4 := Aside0.mk A40
  clear A40
  by_cases c5 : t237 = 0
  · rw [if_pos c5] at H
    have c5b0 : (t237 == 0) = true := beq_iff_eq.mpr c5
    have c5b1 : (t237 != 0) = false := bne_eq_false_iff_eq.mpr c5
    clear c5
    obtain ⟨ji6, hji6⟩ : ∃ j_ : Int, (mx a2 0) = j_ := ⟨_, rfl⟩
    replace H : (if t235 > (ji6) then (some ((⟨#[]⟩ : ByteArray), 0, 7)) else (if t235 > (wrap64 ((l0.length : Int) - t236)) then (some ((⟨#[]⟩ : ByteArray), 0, 4)) else (if 0 ≤ t236 then (if t236 ≤ (wrap64 (t236 + t235)) then (if (wrap64 (t236 + t235)) ≤ (l0.length : Int) then (some (strOfNums ((l0.take ((wrap64 (t236 + t235)) : Int).toNat).drop (t236 : Int).toNat), wrap64 (t236 + t235), 0)) else (none)) else (none)) else (none)))) = some (r1, r2, r3) := by first | (rw [hji6] at H; exact H) | (simp only [hji6] at H ⊢; exact H)
    (try rw [hji6] at A4)
    (try (have hji6l : 0 ≤ ji6 := by (rw [← hji6]; unfold mx; (repeat' split) <;> omega)))
    (try (have hji6m : 0 ≤ ji6 := by omega))
    have hji6_ : (if a2 < 0 then 0 else a2) = ji6 := hji6
    by_cases c7 : t235 > (ji6)
    · rw [if_pos c7] at H
      have c7b0 : decide ((ji6) < t235) = true := decide_eq_true c7
      clear c7
      simp only [Option.some.injEq, Prod.mk.injEq] at H
      obtain ⟨rfl, rfl, rfl⟩ := H
      go_enter Tryd.func64, Tryd.ntmps64
      go_wp2_with (first | ((with_reducible refine gate_callee (f := 40) rfl ?_); refine goesL_ (some 15) rfl rfl Tryd.func40 (by kernel_rfl) rfl #[.slice A0 l0.length c0, .int .i64 a1] rfl (by (try simp only [List.map_toArray, List.map_cons, List.map_nil]); first | done | rfl | (simp only [List.length_drop, List.length_take]; rfl) | (simp; done) | (simp; (repeat' apply And.intro) <;> rfl)) ?_; (with_reducible refine (num_Get.calls k _ _ l0 a1 t235 t236 t237 _ ?side1 ?side2 A4.out).mono ?_); (case side1 => repeat (first | exact HR0.out | (with_reducible refine Kd.C_alloc ?_ _) | (with_reducible refine Kd.C_drewN ?_ _) | (with_reducible refine Kd.C_drew ?_))); (case side2 => exact HC0.out); rintro e w' ⟨rfl, ⟨nd, rfl⟩⟩; refine ⟨_, rfl, ?_⟩))
      go_ret3
      exact ⟨by first | rfl | (simp [errW_none, errW_some] <;> rfl) | (simp only [← hji6]; first | rfl | (simp [errW_none, errW_some] <;> rfl)) | (simp [*, errW_none, errW_some] <;> rfl), by repeat (first | (with_reducible first | exact HB.out | apply below_alloc | apply pw_below_drewN | apply below_drew1) | exact HB.out)⟩
    · rw [if_neg c7] at H
      have c7b0 : decide ((ji6) < t235) = false := decide_eq_false c7
      clear c7
      by_cases c8 : t235 > (wrap64 ((l0.length : Int) - t236))
      · rw [if_pos c8] at H
        have c8b0 : decide ((wrap64 ((l0.length : Int) - t236)) < t235) = true := decide_eq_true c8
        clear c8
        simp only [Option.some.injEq, Prod.mk.injEq] at H
        obtain ⟨rfl, rfl, rfl⟩ := H
        go_enter Tryd.func64, Tryd.ntmps64
        go_wp2_with (first | ((with_reducible refine gate_callee (f := 40) rfl ?_); refine goesL_ (some 15) rfl rfl Tryd.func40 (by kernel_rfl) rfl #[.slice A0 l0.length c0, .int .i64 a1] rfl (by (try simp only [List.map_toArray, List.map_cons, List.map_nil]); first | done | rfl | (simp only [List.length_drop, List.length_take]; rfl) | (simp; done) | (simp; (repeat' apply And.intro) <;> rfl)) ?_; (with_reducible refine (num_Get.calls k _ _ l0 a1 t235 t236 t237 _ ?side1 ?side2 A4.out).mono ?_); (case side1 => repeat (first | exact HR0.out | (with_reducible refine Kd.C_alloc ?_ _) | (with_reducible refine Kd.C_drewN ?_ _) | (with_reducible refine Kd.C_drew ?_))); (case side2 => exact HC0.out); rintro e w' ⟨rfl, ⟨nd, rfl⟩⟩; refine ⟨_, rfl, ?_⟩))
        go_ret3
        exact ⟨by first | rfl | (simp [errW_none, errW_some] <;> rfl) | (simp only [← hji6]; first | rfl | (simp [errW_none, errW_some] <;> rfl)) | (simp [*, errW_none, errW_some] <;> rfl), by repeat (first | (with_reducible first | exact HB.out | apply below_alloc | apply pw_below_drewN | apply below_drew1) | exact HB.out)⟩
      · rw [if_neg c8] at H
        have c8b0 : decide ((wrap64 ((l0.length : Int) - t236)) < t235) = false := decide_eq_false c8
        clear c8
        by_cases c9 : 0 ≤ t236
        · rw [if_pos c9] at H
          have c9b0 := eq_true c9
          have c9b1 : decide (0 ≤ t236) = true := decide_eq_true c9
          clear c9
          by_cases c10 : t236 ≤ (wrap64 (t236 + t235))
          · rw [if_pos c10] at H
            have c10b0 := eq_true c10
            have c10b1 : decide (t236 ≤ (wrap64 (t236 + t235))) = true := decide_eq_true c10
            by_cases c11 : (wrap64 (t236 + t235)) ≤ (l0.length : Int)
            · rw [if_pos c11] at H
              have c11b0 := eq_true c11
              have c11b1 : decide ((wrap64 (t236 + t235)) ≤ (l0.length : Int)) = true := decide_eq_true c11
              simp only [Option.some.injEq, Prod.mk.injEq] at H
              obtain ⟨rfl, rfl, rfl⟩ := H
              go_enter Tryd.func64, Tryd.ntmps64
              go_wp2_with (first | ((with_reducible refine gate_callee (f := 40) rfl ?_); refine goesL_ (some 15) rfl rfl Tryd.func40 (by kernel_rfl) rfl #[.slice A0 l0.length c0, .int .i64 a1] rfl (by (try simp only [List.map_toArray, List.map_cons, List.map_nil]); first | done | rfl | (simp only [List.length_drop, List.length_take]; rfl) | (simp; done) | (simp; (repeat' apply And.intro) <;> rfl)) ?_; (with_reducible refine (num_Get.calls k _ _ l0 a1 t235 t236 t237 _ ?side1 ?side2 A4.out).mono ?_); (case side1 => repeat (first | exact HR0.out | (with_reducible refine Kd.C_alloc ?_ _) | (with_reducible refine Kd.C_drewN ?_ _) | (with_reducible refine Kd.C_drew ?_))); (case side2 => exact HC0.out); rintro e w' ⟨rfl, ⟨nd, rfl⟩⟩; refine ⟨_, rfl, ?_⟩; obtain ⟨i012, hi012, _, hsz12, _⟩ := info_parts info5; obtain ⟨A12, hcut12, hA12, hC12⟩ := print_mid_of (P := Tryd.prog) (Value.int .u8) 0 41 5 .i64 .i64 Tryd.underlying41 hi012 hsz12 A0 c0 l0 t236 (wrap64 (t236 + t235)) (of_decide_eq_true (by first | (with_reducible assumption) | assumption)) (by first | omega | exact of_decide_eq_true (by first | (with_reducible assumption) | assumption)) (of_decide_eq_true (by first | (with_reducible assumption) | assumption)) HC0.out; have HR238 := Aside0.mk (Kd.C_of_reads (h1 := fun _ => rfl) (hA12 _ (Kd.reads_of_C HR0.out))); have HC238 := Aside0.mk hC12; clear hA12 hC12 hi012 hsz12; have hcv13 := Kd.C_string (P := Tryd.prog) (A := A12) (c := (c0 - t236.toNat)) Tryd.underlying41 Tryd.underlying5 Tryd.underlying9 HR238.out; have hcw13 := fun (m_ : Nat) => Kd.C_string (P := Tryd.prog) (A := A12) (c := (c0 - t236.toNat)) Tryd.underlying41 Tryd.underlying5 Tryd.underlying9 (Kd.C_drewN HR238.out m_); have hcl13 : ((l0.take ((wrap64 (t236 + t235)) : Int).toNat).drop (t236 : Int).toNat).length = ((wrap64 (t236 + t235)).toNat - t236.toNat) := (by rw [List.length_drop, List.length_take]; have h_ : ((wrap64 (t236 + t235)) : Int) ≤ (l0.length : Int) := of_decide_eq_true (by first | (with_reducible assumption) | assumption); omega); (try rw [hcl13] at hcv13 hcw13); clear hcl13))
              go_ret3
              exact ⟨by first | rfl | (simp [errW_none, errW_some] <;> rfl) | (simp only [← hji6]; first | rfl | (simp [errW_none, errW_some] <;> rfl)) | (simp [*, errW_none, errW_some] <;> rfl), by repeat (first | (with_reducible first | exact HB.out | apply below_alloc | apply pw_below_drewN | apply below_drew1) | exact HB.out)⟩
            · rw [if_neg c11] at H
              exact absurd H (by simp)
          · rw [if_neg c10] at H
            exact absurd H (by simp)
        · rw [if_neg c9] at H
          exact absurd H (by simp)
  · rw [if_neg c5] at H
    have c5b0 : (t237 == 0) = false := beq_eq_false_iff_ne.mpr c5
    have c5b1 : (t237 != 0) = true := bne_iff_ne.mpr c5
    simp only [Option.some.injEq, Prod.mk.injEq] at H
    obtain ⟨rfl, rfl, rfl⟩ := H
    go_enter Tryd.func64, Tryd.ntmps64
    go_wp2_with (first | ((with_reducible refine gate_callee (f := 40) rfl ?_); refine goesL_ (some 15) rfl rfl Tryd.func40 (by kernel_rfl) rfl #[.slice A0 l0.length c0, .int .i64 a1] rfl (by (try simp only [List.map_toArray, List.map_cons, List.map_nil]); first | done | rfl | (simp only [List.length_drop, List.length_take]; rfl) | (simp; done) | (simp; (repeat' apply And.intro) <;> rfl)) ?_; (with_reducible refine (num_Get.calls k _ _ l0 a1 t235 t236 t237 _ ?side1 ?side2 A4.out).mono ?_); (case side1 => repeat (first | exact HR0.out | (with_reducible refine Kd.C_alloc ?_ _) | (with_reducible refine Kd.C_drewN ?_ _) | (with_reducible refine Kd.C_drew ?_))); (case side2 => exact HC0.out); rintro e w' ⟨rfl, ⟨nd, rfl⟩⟩; refine ⟨_, rfl, ?_⟩))
    go_ret3
    exact ⟨by first | rfl | (simp [errW_none, errW_some] <;> rfl) | (simp [*, errW_none, errW_some] <;> rfl), by repeat (first | (with_reducible first | exact HB.out | apply below_alloc | apply pw_below_drewN | apply below_drew1) | exact HB.out)⟩

/-! ### num_GetInt: function 65 -/
def num_GetInt.f (k : Nat) (l0 : List Int) (a1 : Int) : Option (Int × Int × Int) := (num_Get.f k l0 a1).bind fun bt239 => (if bt239.2.2 = 0 then (if (Go.bits .and .i64 bt239.1 1) = 1 then (some (wrap64 ((wrap64 (-(wrap64 (Int.tdiv bt239.1 2)))) - 1), bt239.2.1, 0)) else (some (wrap64 (Int.tdiv bt239.1 2), bt239.2.1, 0))) else (some (0, 0, bt239.2.2)))
set_option maxHeartbeats 8000000 in
set_option maxRecDepth 100000 in
theorem num_GetInt.calls (k : Nat) (A0 : Option Addr) (c0 : Nat) (l0 : List Int) (a1 : Int) (r1 : Int) (r2 : Int) (r3 : Int) (w : World) (hr0 : Kd.C (Kd.int .u8) w A0 l0.length l0) (hc0 : l0.length ≤ c0) (h : num_GetInt.f k l0 a1 = some (r1, r2, r3)) :
    Calls Tryd.prog 65 #[.slice A0 l0.length c0, .int .i64 a1] w fun e w' => e = .returned (.tuple #[.int .i64 r1, .int .i64 r2, .int .i64 r3]) ∧ Drawn0 w w' := by
  have HR0 := Aside0.mk hr0
  have HC0 := Aside0.mk hc0
  clear hr0 hc0
  have H : ((num_Get.f k l0 a1).bind fun bt239 => (if bt239.2.2 = 0 then (if (Go.bits .and .i64 bt239.1 1) = 1 then (some (wrap64 ((wrap64 (-(wrap64 (Int.tdiv bt239.1 2)))) - 1), bt239.2.1, 0)) else (some (wrap64 (Int.tdiv bt239.1 2), bt239.2.1, 0))) else (some (0, 0, bt239.2.2)))) = some (r1, r2, r3) := h
  clear h
  replace H := Option.bind_eq_some_iff.mp H
  obtain ⟨⟨t239, t240, t241⟩, A30, H⟩ := H
  replace H : (if t241 = 0 then (if (Go.bits .and .i64 t239 1) = 1 then (some (wrap64 ((wrap64 (-(wrap64 (Int.tdiv t239 2)))) - 1), t240, 0)) else (some (wrap64 (Int.tdiv t239 2), t240, 0))) else (some (0, 0, t241))) = some (r1, r2, r3) := H
  have A3 := Aside0.mk A30
  clear A30
  by_cases c4 : t241 = 0
  · rw [if_pos c4] at H
    have c4b0 : (t241 == 0) = true := beq_iff_eq.mpr c4
    have c4b1 : (t241 != 0) = false := bne_eq_false_iff_eq.mpr c4
    clear c4
    by_cases c5 : (Go.bits .and .i64 t239 1) = 1
    · rw [if_pos c5] at H
      have c5b0 : ((Go.bits .and .i64 t239 1) == 1) = true := beq_iff_eq.mpr c5
      have c5b1 : ((Go.bits .and .i64 t239 1) != 1) = false := bne_eq_false_iff_eq.mpr c5
      clear c5
      simp only [Option.some.injEq, Prod.mk.injEq] at H
      obtain ⟨rfl, rfl, rfl⟩ := H
      go_enter Tryd.func65, Tryd.ntmps65
      go_wp2_with (first | ((with_reducible refine gate_callee (f := 40) rfl ?_); refine goesL_ (some 13) rfl rfl Tryd.func40 (by kernel_rfl) rfl #[.slice A0 l0.length c0, .int .i64 a1] rfl (by (try simp only [List.map_toArray, List.map_cons, List.map_nil]); first | done | rfl | (simp only [List.length_drop, List.length_take]; rfl) | (simp; done) | (simp; (repeat' apply And.intro) <;> rfl)) ?_; (with_reducible refine (num_Get.calls k _ _ l0 a1 t239 t240 t241 _ ?side1 ?side2 A3.out).mono ?_); (case side1 => repeat (first | exact HR0.out | (with_reducible refine Kd.C_alloc ?_ _) | (with_reducible refine Kd.C_drewN ?_ _) | (with_reducible refine Kd.C_drew ?_))); (case side2 => exact HC0.out); rintro e w' ⟨rfl, ⟨nd, rfl⟩⟩; refine ⟨_, rfl, ?_⟩))
      go_ret3
      exact ⟨by first | rfl | (simp; done) | (simp [*]; done), by repeat (first | exact Drawn0.refl _ | apply Drawn0.step)⟩
    · rw [if_neg c5] at H
      have c5b0 : ((Go.bits .and .i64 t239 1) == 1) = false := beq_eq_false_iff_ne.mpr c5
      have c5b1 : ((Go.bits .and .i64 t239 1) != 1) = true := bne_iff_ne.mpr c5
      simp only [Option.some.injEq, Prod.mk.injEq] at H
      obtain ⟨rfl, rfl, rfl⟩ := H
      go_enter Tryd.func65, Tryd.ntmps65
      go_wp2_with (first | ((with_reducible refine gate_callee (f := 40) rfl ?_); refine goesL_ (some 13) rfl rfl Tryd.func40 (by kernel_rfl) rfl #[.slice A0 l0.length c0, .int .i64 a1] rfl (by (try simp only [List.map_toArray, List.map_cons, List.map_nil]); first | done | rfl | (simp only [List.length_drop, List.length_take]; rfl) | (simp; done) | (simp; (repeat' apply And.intro) <;> rfl)) ?_; (with_reducible refine (num_Get.calls k _ _ l0 a1 t239 t240 t241 _ ?side1 ?side2 A3.out).mono ?_); (case side1 => repeat (first | exact HR0.out | (with_reducible refine Kd.C_alloc ?_ _) | (with_reducible refine Kd.C_drewN ?_ _) | (with_reducible refine Kd.C_drew ?_))); (case side2 => exact HC0.out); rintro e w' ⟨rfl, ⟨nd, rfl⟩⟩; refine ⟨_, rfl, ?_⟩))
      go_ret3
      exact ⟨by first | rfl | (simp; done) | (simp [*]; done), by repeat (first | exact Drawn0.refl _ | apply Drawn0.step)⟩
  · rw [if_neg c4] at H
    have c4b0 : (t241 == 0) = false := beq_eq_false_iff_ne.mpr c4
    have c4b1 : (t241 != 0) = true := bne_iff_ne.mpr c4
    simp only [Option.some.injEq, Prod.mk.injEq] at H
    obtain ⟨rfl, rfl, rfl⟩ := H
    go_enter Tryd.func65, Tryd.ntmps65
    go_wp2_with (first | ((with_reducible refine gate_callee (f := 40) rfl ?_); refine goesL_ (some 13) rfl rfl Tryd.func40 (by kernel_rfl) rfl #[.slice A0 l0.length c0, .int .i64 a1] rfl (by (try simp only [List.map_toArray, List.map_cons, List.map_nil]); first | done | rfl | (simp only [List.length_drop, List.length_take]; rfl) | (simp; done) | (simp; (repeat' apply And.intro) <;> rfl)) ?_; (with_reducible refine (num_Get.calls k _ _ l0 a1 t239 t240 t241 _ ?side1 ?side2 A3.out).mono ?_); (case side1 => repeat (first | exact HR0.out | (with_reducible refine Kd.C_alloc ?_ _) | (with_reducible refine Kd.C_drewN ?_ _) | (with_reducible refine Kd.C_drew ?_))); (case side2 => exact HC0.out); rintro e w' ⟨rfl, ⟨nd, rfl⟩⟩; refine ⟨_, rfl, ?_⟩))
    go_ret3
    exact ⟨by first | rfl | (simp; done) | (simp [*]; done), by repeat (first | exact Drawn0.refl _ | apply Drawn0.step)⟩
/-! ### ledger_reader_line: function 41, a contract of my own -/
theorem Bm.trans' {p mb : Nat} {w w1 w2 : World} (h : Bm p mb w w1) (h2 : w2.os = w1.os ∧ w2.tape = w1.tape ∧ w2.output = w1.output ∧ w1.heap.size ≤ w2.heap.size ∧ ∀ j, j < w.heap.size → w2.heap[j]? = w1.heap[j]?) : Bm p mb w w2 :=
  ⟨h2.1.trans h.os, h2.2.1.trans h.tape, h2.2.2.1.trans h.output, Nat.le_trans h.size h2.2.2.2.1, fun j hj a b => (h2.2.2.2.2 j hj).trans (h.block j hj a b)⟩
theorem Bm.setNew {p mb : Nat} {w w1 : World} (h : Bm p mb w w1) {g : Nat} (hg : w.heap.size ≤ g) (i : Nat) (u : Value) : Bm p mb w (w1.setCell ⟨g, i, none⟩ u) :=
  h.trans' ⟨rfl, rfl, rfl, by simp [World.setCell], fun j hj => Below.heap_setCell w1 ⟨g, i, none⟩ u j (by show j ≠ g; omega)⟩
open Go.Proofs.YtniboafnkiijcaaDoor.Num in
def rdA (O : List Int) (a0 : Int) : ByteArray × Int × Int := getTextS O a0 200
open Go.Proofs.YtniboafnkiijcaaDoor.Num in
def rd1 (O : List Int) (a0 : Int) : Int × (Int × Int) := stepG (getS O) (rdA O a0).2
open Go.Proofs.YtniboafnkiijcaaDoor.Num in
def rd2 (O : List Int) (a0 : Int) : Int × (Int × Int) := stepG (getS O) (rd1 O a0).2
open Go.Proofs.YtniboafnkiijcaaDoor.Num in
def rd3 (O : List Int) (a0 : Int) : Int × (Int × Int) := stepG (getIntS O) (rd2 O a0).2
open Go.Proofs.YtniboafnkiijcaaDoor.Num in
def rd4 (O : List Int) (a0 : Int) : Int × (Int × Int) := stepG (getS O) (rd3 O a0).2
def rdX (O : List Int) (a0 : Int) (sm : ByteArray) : Ln := ⟨(rdA O a0).1, (rd1 O a0).1, (rd2 O a0).1, (rd3 O a0).1, (rd4 O a0).1, sm⟩
def rdE (O : List Int) (a0 : Int) : Int := if (rd4 O a0).2.2 = 0 then (if (O.length : Int) - (rd4 O a0).2.1 < 32 then 4 else 0) else (rd4 O a0).2.2
def rdSm (O : List Int) (a0 : Int) : ByteArray := strOfNums ((O.take ((rd4 O a0).2.1 + 32).toNat).drop (rd4 O a0).2.1.toNat)
/-- A line out of bytes at a place: the line, the place behind it, and what is wrong. -/
def rdLine (O : List Int) (a0 : Int) : Ln × (Int × Int) :=
  if rdE O a0 = 0 then (rdX O a0 (rdSm O a0), ((rd4 O a0).2.1 + 32, mayF (rdX O a0 (rdSm O a0)))) else (rdX O a0 ⟨#[]⟩, ((rd4 O a0).2.1, rdE O a0))
open Go.Proofs.YtniboafnkiijcaaDoor.Num in
theorem getS_bd {O : List Int} (hb : Byt O) (a : Int) (h : (getS O a).2.2 = 0) : 0 ≤ (getS O a).2.1 ∧ (getS O a).2.1 ≤ O.length := by
  rcases getS_range O a hb with ⟨h1, _⟩ | ⟨_, x, hx, _, h0, h1, h2, _⟩
  · exact absurd h h1
  · omega
theorem stepG_bd {G : Int → Int × Int × Int} {n : Nat} (hG : ∀ a, (G a).2.2 = 0 → 0 ≤ (G a).2.1 ∧ (G a).2.1 ≤ (n : Int)) (s : Int × Int) (h : (stepG G s).2.2 = 0) : 0 ≤ (stepG G s).2.1 ∧ (stepG G s).2.1 ≤ (n : Int) := by
  unfold stepG at h ⊢
  split
  · rename_i h1
    rw [if_pos h1] at h
    exact hG _ h
  · rename_i h1
    rw [if_neg h1] at h
    exact absurd h h1
open Go.Proofs.YtniboafnkiijcaaDoor.Num in
theorem rd4_bd {O : List Int} (hb : Byt O) (a0 : Int) (h : (rd4 O a0).2.2 = 0) : 0 ≤ (rd4 O a0).2.1 ∧ (rd4 O a0).2.1 ≤ (O.length : Int) := stepG_bd (fun a => getS_bd hb a) _ h
open Go.Proofs.YtniboafnkiijcaaDoor.Num in
theorem rdA_size {O : List Int} (hb : Byt O) (a0 : Int) : (rdA O a0).1.size ≤ 200 := by
  unfold rdA getTextS
  split
  · split
    · exact Nat.zero_le _
    · split
      · exact Nat.zero_le _
      · rename_i h1 h2
        rw [show mx (200 : Int) 0 = 200 from rfl] at h1
        have hb2 : Byt ((O.take ((getS O a0).2.1 + (getS O a0).1).toNat).drop (getS O a0).2.1.toNat) := (hb.take _).drop _
        have e := congrArg List.length (strOfNums_bytes hb2)
        rw [bytesOf_length] at e
        rw [e, List.length_drop, List.length_take]
        omega
  · exact Nat.zero_le _
open Go.Proofs.YtniboafnkiijcaaDoor.Num in
def TextHyp (f : Nat) (A : Option Addr) (m c : Nat) (O : List Int) : Prop :=
  ∀ (a : Int) (w1 : World), Kd.C (Kd.int .u8) w1 A m O → Calls Tryd.prog f #[.slice A m c, .int .i64 a, .int .i64 200] w1 fun e w' => e = .returned (.tuple #[.string (getTextS O a 200).1, .int .i64 (getTextS O a 200).2.1, .int .i64 (getTextS O a 200).2.2]) ∧ Below w1.heap.size w1 w'
theorem lnz_cells {w : World} {g : Nat} {a b c d e f : Value} {ty : Nat} (h : w.heap[g]? = some (.cells #[a, b, c, d, e, f] ty (0, 0))) : w.cell? ⟨g, 0, none⟩ = some a ∧ w.cell? ⟨g, 1, none⟩ = some b ∧ w.cell? ⟨g, 2, none⟩ = some c ∧ w.cell? ⟨g, 3, none⟩ = some d ∧ w.cell? ⟨g, 4, none⟩ = some e ∧ w.cell? ⟨g, 5, none⟩ = some f := by
  refine ⟨?_, ?_, ?_, ?_, ?_, ?_⟩ <;> rw [cell_of_row w g _ _ ty (0, 0) h] <;> rfl
set_option maxHeartbeats 16000000 in
set_option maxRecDepth 100000 in
open Go.Proofs.YtniboafnkiijcaaDoor.Num in
theorem rd_line.at_ (A : Option Addr) (m c : Nat) (O : List Int) (p : Nat) (a0 : Int) (w : World) (hb : Byt O) (hm : O.length = m) (hmc : m ≤ c) (hmx : m ≤ 1000000) (hH1 : GetHyp 40 (getS O) A m c O) (hH2 : GetHyp 65 (getIntS O) A m c O) (hH3 : TextHyp 64 A m c O)
    (hCH : ∀ w', Bm p p w w' → Kd.C (Kd.int .u8) w' A m O) (hP : w.heap[p]? = some (.cells #[.slice A m c, .int .i64 a0, .int .i64 0] 78 (0, 0))) :
    Calls Tryd.prog 41 #[.pointer (some ⟨p, 0, none⟩)] w fun e w' => e = .returned (lnV (rdLine O a0).1) ∧ w'.heap[p]? = some (.cells #[.slice A m c, .int .i64 (rdLine O a0).2.1, .int .i64 (rdLine O a0).2.2] 78 (0, 0)) ∧ Bm p p w w' := by
  obtain ⟨g2, hg2⟩ : ∃ g, w.heap.size = g := ⟨_, rfl⟩
  obtain ⟨g3, hg3⟩ : ∃ g, g2 + 1 = g := ⟨_, rfl⟩
  obtain ⟨w1, hw1⟩ : ∃ z, w.alloc (.cells #[.string ⟨#[]⟩, .int .i64 0, .int .i64 0, .int .i64 0, .int .i64 0, .string ⟨#[]⟩] 68) = z := ⟨_, rfl⟩
  have hs1 : w1.heap.size = g3 := by rw [← hw1, ← hg3, ← hg2]; simp
  obtain ⟨w2, hw2⟩ : ∃ z, w1.alloc (.cells #[.string ⟨#[]⟩, .int .i64 0, .int .i64 0, .int .i64 0, .int .i64 0, .string ⟨#[]⟩] 68) = z := ⟨_, rfl⟩
  have HB1 : Below w.heap.size w w1 := by rw [← hw1]; exact below_alloc (Below.refl _ _) _
  have HB2b : Below w1.heap.size w1 w2 := by rw [← hw2]; exact below_alloc (Below.refl _ _) _
  have HY1 : w1.heap[g2]? = some (.cells #[.string ⟨#[]⟩, .int .i64 0, .int .i64 0, .int .i64 0, .int .i64 0, .string ⟨#[]⟩] 68 (0, 0)) := by rw [← hw1, ← hg2]; exact blk_new w _
  have HX2 : Aside0 (w2.heap[g3]? = some (.cells #[.string ⟨#[]⟩, .int .i64 0, .int .i64 0, .int .i64 0, .int .i64 0, .string ⟨#[]⟩] 68 (0, 0))) := ⟨by rw [← hw2, ← hs1]; exact blk_new w1 _⟩
  have HY2 := Aside0.mk (blk_below HY1 HB2b)
  have HP2 := Aside0.mk (blk_below (blk_below hP HB1) HB2b)
  have HB2 := Aside0.mk (((Bm.refl p p w).below HB1).below HB2b)
  have HNE : Aside0 (g3 ≠ p ∧ g2 ≠ p ∧ g2 ≠ g3 ∧ w.heap.size ≤ g3 ∧ w.heap.size ≤ g2) := ⟨by have := blk_lt hP; exact ⟨by omega, by omega, by omega, by omega, by omega⟩⟩
  have HCH := Aside0.mk hCH
  have H1 := Aside0.mk hH1
  have H2 := Aside0.mk hH2
  have HT := Aside0.mk (hH3 a0 w2.drew (hCH _ (HB2.out.below (below_drew (Below.refl _ _)))))
  have HBY := Aside0.mk hb
  have HM := Aside0.mk (And.intro hm (And.intro hmc hmx))
  have q2 := (rd_cells HP2.out).2.2
  clear HB1 HB2b HY1 hb hm hmc hmx hH1 hH2 hH3 hCH hP
  go_enter Tryd.func41, Tryd.ntmps41
  go_wp2_with fail
  refine start_ (n := 23) (S := fun w' => w'.cell? ⟨p, 0, none⟩ = some (.slice A m c) ∧ w'.cell? ⟨p, 1, none⟩ = some (.int .i64 a0)) (ds := [16, 19, 22]) #[F_,F_,F_,F_,F_,F_,F_,F_,F_,F_,F_,F_,F_,F_,F_,F_,F_,F_,F_,F_,F_,F_,F_] (by kernel_rfl) rfl rfl ⟨(rd_cells (w := w2.drew) HP2.out).1, (rd_cells (w := w2.drew) HP2.out).2.1⟩ (fun hHeld => ?_)
  refine pure_ (i := 0) (N := some 10) (v := ?_) (a' := ?_) #[T_,F_,F_,F_,F_,F_,F_,F_,F_,F_,F_,F_,F_,F_,F_,F_,F_,F_,F_,F_,F_,F_,F_] rfl rfl (by kernel_rfl) (fun _ _ _ h => h) (Or.inl ⟨by rfl, ?_⟩) ?_ ?_
  rotate_left
  · intro w'
    go_simp
    with_reducible rfl
  rotate_left
  · simp only [Act.put, List.setIfInBounds_toArray, List.set_cons_zero, List.set_cons_succ, i64_w, i32_w]
    rfl
  refine pure_ (i := 1) (N := some 11) (v := ?_) (a' := ?_) #[T_,T_,F_,F_,F_,F_,F_,F_,F_,F_,F_,F_,F_,F_,F_,F_,F_,F_,F_,F_,F_,F_,F_] rfl rfl (by kernel_rfl) (fun _ _ _ h => h) (Or.inl ⟨by rfl, ?_⟩) ?_ ?_
  rotate_left
  · intro w'
    go_simp
    with_reducible rfl
  rotate_left
  · simp only [Act.put, List.setIfInBounds_toArray, List.set_cons_zero, List.set_cons_succ, i64_w, i32_w]
    rfl
  refine pure_ (i := 2) (N := some 12) (v := ?_) (a' := ?_) #[T_,T_,T_,F_,F_,F_,F_,F_,F_,F_,F_,F_,F_,F_,F_,F_,F_,F_,F_,F_,F_,F_,F_] rfl rfl (by kernel_rfl) (fun _ _ _ h => h) (Or.inl ⟨by rfl, ?_⟩) ?_ ?_
  rotate_left
  · intro w'
    go_simp
    with_reducible rfl
  rotate_left
  · simp only [Act.put, List.setIfInBounds_toArray, List.set_cons_zero, List.set_cons_succ, i64_w, i32_w]
    rfl
  refine pure_ (i := 3) (N := some 13) (v := ?_) (a' := ?_) #[T_,T_,T_,T_,F_,F_,F_,F_,F_,F_,F_,F_,F_,F_,F_,F_,F_,F_,F_,F_,F_,F_,F_] rfl rfl (by kernel_rfl) (fun _ _ _ h => h) (Or.inl ⟨by rfl, ?_⟩) ?_ ?_
  rotate_left
  · intro w'
    go_simp
    with_reducible rfl
  rotate_left
  · simp only [Act.put, List.setIfInBounds_toArray, List.set_cons_zero, List.set_cons_succ, i64_w, i32_w]
    rfl
  refine pure_ (i := 4) (N := some 14) (v := ?_) (a' := ?_) #[T_,T_,T_,T_,T_,F_,F_,F_,F_,F_,F_,F_,F_,F_,F_,F_,F_,F_,F_,F_,F_,F_,F_] rfl rfl (by kernel_rfl) (fun _ _ _ h => h) (Or.inl ⟨by rfl, ?_⟩) ?_ ?_
  rotate_left
  · intro w'
    go_simp
    with_reducible rfl
  rotate_left
  · simp only [Act.put, List.setIfInBounds_toArray, List.set_cons_zero, List.set_cons_succ, i64_w, i32_w]
    rfl
  refine pure_ (i := 6) (N := some 16) (v := ?_) (a' := ?_) #[T_,T_,T_,T_,T_,F_,T_,F_,F_,F_,F_,F_,F_,F_,F_,F_,F_,F_,F_,F_,F_,F_,F_] rfl rfl (by kernel_rfl) (fun _ _ _ h => h) (Or.inl ⟨by rfl, ?_⟩) ?_ ?_
  rotate_left
  · intro w'
    go_simp
    with_reducible rfl
  rotate_left
  · simp only [Act.put, List.setIfInBounds_toArray, List.set_cons_zero, List.set_cons_succ, i64_w, i32_w]
    rfl
  refine pure_ (i := 7) (N := some 17) (v := ?_) (a' := ?_) #[T_,T_,T_,T_,T_,F_,T_,T_,F_,F_,F_,F_,F_,F_,F_,F_,F_,F_,F_,F_,F_,F_,F_] rfl rfl (by kernel_rfl) (fun _ _ _ h => h) (Or.inl ⟨by rfl, ?_⟩) ?_ ?_
  rotate_left
  · intro w'
    go_simp
    with_reducible rfl
  rotate_left
  · simp only [Act.put, List.setIfInBounds_toArray, List.set_cons_zero, List.set_cons_succ, i64_w, i32_w]
    rfl
  refine pure_ (i := 8) (N := some 18) (v := ?_) (a' := ?_) #[T_,T_,T_,T_,T_,F_,T_,T_,T_,F_,F_,F_,F_,F_,F_,F_,F_,F_,F_,F_,F_,F_,F_] rfl rfl (by kernel_rfl) (fun _ _ _ h => h) (Or.inl ⟨by rfl, ?_⟩) ?_ ?_
  rotate_left
  · intro w'
    go_simp
    with_reducible rfl
  rotate_left
  · simp only [Act.put, List.setIfInBounds_toArray, List.set_cons_zero, List.set_cons_succ, i64_w, i32_w]
    rfl
  refine take_ (i := 5) (N := some 15) (v := ?_) (a' := ?_) #[T_,T_,T_,T_,T_,T_,T_,T_,T_,F_,F_,F_,F_,F_,F_,F_,F_,F_,F_,F_,F_,F_,F_] rfl rfl (by kernel_rfl) (fun _ _ _ h => h) (Or.inl ⟨by rfl, ?_⟩) hHeld ?_ ?_
  rotate_left
  · rintro w' ⟨s0, s1⟩
    go_simp
    with_reducible rfl
  rotate_left
  · simp only [Act.put, List.setIfInBounds_toArray, List.set_cons_zero, List.set_cons_succ, i64_w, i32_w]
    rfl
  refine take_ (i := 9) (N := some 19) (v := ?_) (a' := ?_) #[T_,T_,T_,T_,T_,T_,T_,T_,T_,T_,F_,F_,F_,F_,F_,F_,F_,F_,F_,F_,F_,F_,F_] rfl rfl (by kernel_rfl) (fun _ _ _ h => h) (Or.inl ⟨by rfl, ?_⟩) hHeld ?_ ?_
  rotate_left
  · rintro w' ⟨s0, s1⟩
    go_simp
    with_reducible rfl
  rotate_left
  · simp only [Act.put, List.setIfInBounds_toArray, List.set_cons_zero, List.set_cons_succ, i64_w, i32_w]
    rfl
  refine one_ (i := 10) (N := some 20) #[T_,T_,T_,T_,T_,T_,T_,T_,T_,T_,T_,F_,F_,F_,F_,F_,F_,F_,F_,F_,F_,F_,F_] rfl rfl (by kernel_rfl) (by decide) (fun K hK => ?_)
  refine goes_ Tryd.func64 (by kernel_rfl) rfl #[.slice A m c, .int .i64 a0, .int .i64 200] (by rfl) rfl rfl (by simp only [List.map_toArray, List.map_cons, List.map_nil]; rfl) ?_
  with_reducible refine (HT.out).mono ?_
  rintro e w5 ⟨rfl, hb5⟩
  refine ⟨_, rfl, ?_⟩
  have HP5 := Aside0.mk (blk_below (w := w2.drew) HP2.out hb5)
  have HX5 := Aside0.mk (blk_below (w := w2.drew) HX2.out hb5)
  have HY5 := Aside0.mk (blk_below (w := w2.drew) HY2.out hb5)
  have HB5 := Aside0.mk ((HB2.out.below (below_drew (Below.refl _ _))).below (w1 := w2.drew) hb5)
  have qx := blk_frozen HX5.out 0
  have qx0 := (lnz_cells HX5.out).1
  have qp1 := blk_frozen HP5.out 1
  have qp2 := blk_frozen HP5.out 2
  have qc1 := (rd_cells HP5.out).2.1
  have qc2 := (rd_cells HP5.out).2.2
  clear hb5
  refine hK.out _ _ ⟨(rd_cells HP5.out).1, (rd_cells HP5.out).2.1⟩ (fun hHeld => ?_)
  clear hK K
  refine norm_ (a' := ?_) ?_ ?_
  rotate_left
  · show Act.put _ (some 20) _ = _
    simp only [Act.put, List.setIfInBounds_toArray, List.set_cons_zero, List.set_cons_succ, i64_w, i32_w]
    rfl
  refine pure_ (i := 11) (N := some 9) (v := ?_) (a' := ?_) #[T_,T_,T_,T_,T_,T_,T_,T_,T_,T_,T_,T_,F_,F_,F_,F_,F_,F_,F_,F_,F_,F_,F_] rfl rfl (by kernel_rfl) (fun _ _ _ h => h) (Or.inl ⟨by rfl, ?_⟩) ?_ ?_
  rotate_left
  · intro w'
    go_simp
    with_reducible rfl
  rotate_left
  · simp only [Act.put, List.setIfInBounds_toArray, List.set_cons_zero, List.set_cons_succ, i64_w, i32_w]
    rfl
  refine pure_ (i := 12) (N := some 21) (v := ?_) (a' := ?_) #[T_,T_,T_,T_,T_,T_,T_,T_,T_,T_,T_,T_,T_,F_,F_,F_,F_,F_,F_,F_,F_,F_,F_] rfl rfl (by kernel_rfl) (fun _ _ _ h => h) (Or.inl ⟨by rfl, ?_⟩) ?_ ?_
  rotate_left
  · intro w'
    go_simp
    with_reducible rfl
  rotate_left
  · simp only [Act.put, List.setIfInBounds_toArray, List.set_cons_zero, List.set_cons_succ, i64_w, i32_w]
    rfl
  refine pure_ (i := 13) (N := some 22) (v := ?_) (a' := ?_) #[T_,T_,T_,T_,T_,T_,T_,T_,T_,T_,T_,T_,T_,T_,F_,F_,F_,F_,F_,F_,F_,F_,F_] rfl rfl (by kernel_rfl) (fun _ _ _ h => h) (Or.inl ⟨by rfl, ?_⟩) ?_ ?_
  rotate_left
  · intro w'
    go_simp
    with_reducible rfl
  rotate_left
  · simp only [Act.put, List.setIfInBounds_toArray, List.set_cons_zero, List.set_cons_succ, i64_w, i32_w]
    rfl
  refine pure_ (i := 14) (N := some 23) (v := ?_) (a' := ?_) #[T_,T_,T_,T_,T_,T_,T_,T_,T_,T_,T_,T_,T_,T_,T_,F_,F_,F_,F_,F_,F_,F_,F_] rfl rfl (by kernel_rfl) (fun _ _ _ h => h) (Or.inl ⟨by rfl, ?_⟩) ?_ ?_
  rotate_left
  · intro w'
    go_simp
    with_reducible rfl
  rotate_left
  · simp only [Act.put, List.setIfInBounds_toArray, List.set_cons_zero, List.set_cons_succ, i64_w, i32_w]
    rfl
  refine pure_ (i := 15) (N := some 24) (v := ?_) (a' := ?_) #[T_,T_,T_,T_,T_,T_,T_,T_,T_,T_,T_,T_,T_,T_,T_,T_,F_,F_,F_,F_,F_,F_,F_] rfl rfl (by kernel_rfl) (fun _ _ _ h => h) (Or.inl ⟨by rfl, ?_⟩) ?_ ?_
  rotate_left
  · intro w'
    go_simp
    with_reducible rfl
  rotate_left
  · simp only [Act.put, List.setIfInBounds_toArray, List.set_cons_zero, List.set_cons_succ, i64_w, i32_w]
    rfl
  refine last_ (i := 16) (N := none) #[T_,T_,T_,T_,T_,T_,T_,T_,T_,T_,T_,T_,T_,T_,T_,T_,T_,F_,F_,F_,F_,F_,F_] rfl rfl (by kernel_rfl) (by decide) (fun K hK => ?_)
  refine skip_ (w1 := ?_) (by rfl) rfl ?_ ?_
  rotate_left
  · go_simp
    rfl
  refine hK.out _ _ ?_
  clear hK K
  refine pure_ (i := 17) (N := some 25) (v := ?_) (a' := ?_) #[T_,T_,T_,T_,T_,T_,T_,T_,T_,T_,T_,T_,T_,T_,T_,T_,T_,T_,F_,F_,F_,F_,F_] rfl rfl (by kernel_rfl) (fun _ _ _ h => h) (Or.inl ⟨by rfl, ?_⟩) ?_ ?_
  rotate_left
  · intro w'
    go_simp
    with_reducible rfl
  rotate_left
  · simp only [Act.put, List.setIfInBounds_toArray, List.set_cons_zero, List.set_cons_succ, i64_w, i32_w]
    rfl
  refine pure_ (i := 18) (N := some 26) (v := ?_) (a' := ?_) #[T_,T_,T_,T_,T_,T_,T_,T_,T_,T_,T_,T_,T_,T_,T_,T_,T_,T_,T_,F_,F_,F_,F_] rfl rfl (by kernel_rfl) (fun _ _ _ h => h) (Or.inl ⟨by rfl, ?_⟩) ?_ ?_
  rotate_left
  · intro w'
    go_simp
    with_reducible rfl
  rotate_left
  · simp only [Act.put, List.setIfInBounds_toArray, List.set_cons_zero, List.set_cons_succ, i64_w, i32_w]
    rfl
  refine last_ (i := 19) (N := none) #[T_,T_,T_,T_,T_,T_,T_,T_,T_,T_,T_,T_,T_,T_,T_,T_,T_,T_,T_,T_,F_,F_,F_] rfl rfl (by kernel_rfl) (by decide) (fun K hK => ?_)
  refine skip_ (w1 := ?_) (by rfl) rfl ?_ ?_
  rotate_left
  · go_simp
    rfl
  refine hK.out _ _ ?_
  clear hK K
  refine pure_ (i := 20) (N := some 27) (v := ?_) (a' := ?_) #[T_,T_,T_,T_,T_,T_,T_,T_,T_,T_,T_,T_,T_,T_,T_,T_,T_,T_,T_,T_,T_,F_,F_] rfl rfl (by kernel_rfl) (fun _ _ _ h => h) (Or.inl ⟨by rfl, ?_⟩) ?_ ?_
  rotate_left
  · intro w'
    go_simp
    with_reducible rfl
  rotate_left
  · simp only [Act.put, List.setIfInBounds_toArray, List.set_cons_zero, List.set_cons_succ, i64_w, i32_w]
    rfl
  refine pure_ (i := 21) (N := some 28) (v := ?_) (a' := ?_) #[T_,T_,T_,T_,T_,T_,T_,T_,T_,T_,T_,T_,T_,T_,T_,T_,T_,T_,T_,T_,T_,T_,F_] rfl rfl (by kernel_rfl) (fun _ _ _ h => h) (Or.inl ⟨by rfl, ?_⟩) ?_ ?_
  rotate_left
  · intro w'
    go_simp
    with_reducible rfl
  rotate_left
  · simp only [Act.put, List.setIfInBounds_toArray, List.set_cons_zero, List.set_cons_succ, i64_w, i32_w]
    rfl
  refine last_ (i := 22) (N := none) #[T_,T_,T_,T_,T_,T_,T_,T_,T_,T_,T_,T_,T_,T_,T_,T_,T_,T_,T_,T_,T_,T_,T_] rfl rfl (by kernel_rfl) (by decide) (fun K hK => ?_)
  refine skip_ (w1 := ?_) (by rfl) rfl ?_ ?_
  rotate_left
  · go_simp
    rfl
  refine hK.out _ _ ?_
  clear hK K
  refine done_ (by kernel_rfl) ?_
  obtain ⟨v0, hv0⟩ : ∃ z, ((w5.setCell ⟨g3, 0, none⟩ (.string (getTextS O a0 200).1)).setCell ⟨p, 1, none⟩ (.int .i64 (getTextS O a0 200).2.1)).setCell ⟨p, 2, none⟩ (.int .i64 (getTextS O a0 200).2.2) = z := ⟨_, rfl⟩
  have HXv0 : Aside0 (v0.heap[g3]? = some (.cells #[.string (rdA O a0).1, .int .i64 0, .int .i64 0, .int .i64 0, .int .i64 0, .string ⟨#[]⟩] 68 (0, 0))) := ⟨by rw [← hv0]; exact blk_far (p := ⟨p, 2, none⟩) (blk_far (p := ⟨p, 1, none⟩) (blk_set HX5.out 0 _) HNE.out.1 _) HNE.out.1 _⟩
  have HYv0 : Aside0 (v0.heap[g2]? = some (.cells #[.string ⟨#[]⟩, .int .i64 0, .int .i64 0, .int .i64 0, .int .i64 0, .string ⟨#[]⟩] 68 (0, 0))) := ⟨by rw [← hv0]; exact blk_far (p := ⟨p, 2, none⟩) (blk_far (p := ⟨p, 1, none⟩) (blk_far (p := ⟨g3, 0, none⟩) HY5.out HNE.out.2.2.1 _) HNE.out.2.1 _) HNE.out.2.1 _⟩
  have HPv0 : Aside0 (v0.heap[p]? = some (.cells #[.slice A m c, .int .i64 (rdA O a0).2.1, .int .i64 (rdA O a0).2.2] 78 (0, 0))) := ⟨by rw [← hv0]; exact blk_set (blk_set (blk_far (p := ⟨g3, 0, none⟩) HP5.out (Ne.symm HNE.out.1) _) 1 _) 2 _⟩
  have HBv0 : Aside0 (Bm p p w v0) := ⟨by rw [← hv0]; exact ((HB5.out.setNew HNE.out.2.2.2.1 0 _).setCell 1 _).setCell 2 _⟩
  rw [hv0]
  clear hv0 hw2 hw1 q2
  have hAe : getTextS O a0 200 = rdA O a0 := rfl
  rw [hAe]
  clear hAe HT
  go_wp2_with fail
  refine (rd_num.get (getS O) A m c O p (rdA O a0).2.1 (rdA O a0).2.2 v0 H1.out (HCH.out v0 HBv0.out) HPv0.out).mono ?_
  rintro e u1 ⟨rfl, hP, hB⟩
  have HPu1 := Aside0.mk (show u1.heap[p]? = some (.cells #[.slice A m c, .int .i64 (rd1 O a0).2.1, .int .i64 (rd1 O a0).2.2] 78 (0, 0)) from hP)
  have HXu1 := Aside0.mk (hB.blk HXv0.out HNE.out.1 HNE.out.1)
  have HYu1 := Aside0.mk (hB.blk HYv0.out HNE.out.2.1 HNE.out.2.1)
  have HBu1 := Aside0.mk (HBv0.out.trans hB)
  have qf := blk_frozen HXu1.out 1
  have qc := blk_cell HXu1.out 1
  obtain ⟨v1, hv1⟩ : ∃ z, u1.setCell ⟨g3, 1, none⟩ (.int .i64 (rd1 O a0).1) = z := ⟨_, rfl⟩
  have HXv1 : Aside0 (v1.heap[g3]? = some (.cells #[.string (rdA O a0).1, .int .i64 (rd1 O a0).1, .int .i64 0, .int .i64 0, .int .i64 0, .string ⟨#[]⟩] 68 (0, 0))) := ⟨by rw [← hv1]; exact blk_set HXu1.out 1 _⟩
  have HYv1 : Aside0 (v1.heap[g2]? = some (.cells #[.string ⟨#[]⟩, .int .i64 0, .int .i64 0, .int .i64 0, .int .i64 0, .string ⟨#[]⟩] 68 (0, 0))) := ⟨by rw [← hv1]; exact blk_far HYu1.out (p := ⟨g3, 1, none⟩) HNE.out.2.2.1 _⟩
  have HPv1 : Aside0 (v1.heap[p]? = some (.cells #[.slice A m c, .int .i64 (rd1 O a0).2.1, .int .i64 (rd1 O a0).2.2] 78 (0, 0))) := ⟨by rw [← hv1]; exact blk_far HPu1.out (p := ⟨g3, 1, none⟩) (Ne.symm HNE.out.1) _⟩
  have HBv1 : Aside0 (Bm p p w v1) := ⟨by rw [← hv1]; exact HBu1.out.setNew HNE.out.2.2.2.1 1 _⟩
  have hsp : stepG (getS O) ((rdA O a0).2.1, (rdA O a0).2.2) = rd1 O a0 := rfl
  rw [hsp]
  have HV1 := Aside0.mk hv1
  clear hP hB hv1 hsp
  go_wp2_with fail
  rw [HV1.out]
  clear qf qc
  refine (rd_num.get (getS O) A m c O p (rd1 O a0).2.1 (rd1 O a0).2.2 v1 H1.out (HCH.out v1 HBv1.out) HPv1.out).mono ?_
  rintro e u2 ⟨rfl, hP, hB⟩
  have HPu2 := Aside0.mk (show u2.heap[p]? = some (.cells #[.slice A m c, .int .i64 (rd2 O a0).2.1, .int .i64 (rd2 O a0).2.2] 78 (0, 0)) from hP)
  have HXu2 := Aside0.mk (hB.blk HXv1.out HNE.out.1 HNE.out.1)
  have HYu2 := Aside0.mk (hB.blk HYv1.out HNE.out.2.1 HNE.out.2.1)
  have HBu2 := Aside0.mk (HBv1.out.trans hB)
  have qf := blk_frozen HXu2.out 2
  have qc := blk_cell HXu2.out 2
  obtain ⟨v2, hv2⟩ : ∃ z, u2.setCell ⟨g3, 2, none⟩ (.int .i64 (rd2 O a0).1) = z := ⟨_, rfl⟩
  have HXv2 : Aside0 (v2.heap[g3]? = some (.cells #[.string (rdA O a0).1, .int .i64 (rd1 O a0).1, .int .i64 (rd2 O a0).1, .int .i64 0, .int .i64 0, .string ⟨#[]⟩] 68 (0, 0))) := ⟨by rw [← hv2]; exact blk_set HXu2.out 2 _⟩
  have HYv2 : Aside0 (v2.heap[g2]? = some (.cells #[.string ⟨#[]⟩, .int .i64 0, .int .i64 0, .int .i64 0, .int .i64 0, .string ⟨#[]⟩] 68 (0, 0))) := ⟨by rw [← hv2]; exact blk_far HYu2.out (p := ⟨g3, 2, none⟩) HNE.out.2.2.1 _⟩
  have HPv2 : Aside0 (v2.heap[p]? = some (.cells #[.slice A m c, .int .i64 (rd2 O a0).2.1, .int .i64 (rd2 O a0).2.2] 78 (0, 0))) := ⟨by rw [← hv2]; exact blk_far HPu2.out (p := ⟨g3, 2, none⟩) (Ne.symm HNE.out.1) _⟩
  have HBv2 : Aside0 (Bm p p w v2) := ⟨by rw [← hv2]; exact HBu2.out.setNew HNE.out.2.2.2.1 2 _⟩
  have hsp : stepG (getS O) ((rd1 O a0).2.1, (rd1 O a0).2.2) = rd2 O a0 := rfl
  rw [hsp]
  have HV2 := Aside0.mk hv2
  clear hP hB hv2 hsp
  go_wp2_with fail
  rw [HV2.out]
  clear qf qc
  refine (rd_num.int (getIntS O) A m c O p (rd2 O a0).2.1 (rd2 O a0).2.2 v2 H2.out (HCH.out v2 HBv2.out) HPv2.out).mono ?_
  rintro e u3 ⟨rfl, hP, hB⟩
  have HPu3 := Aside0.mk (show u3.heap[p]? = some (.cells #[.slice A m c, .int .i64 (rd3 O a0).2.1, .int .i64 (rd3 O a0).2.2] 78 (0, 0)) from hP)
  have HXu3 := Aside0.mk (hB.blk HXv2.out HNE.out.1 HNE.out.1)
  have HYu3 := Aside0.mk (hB.blk HYv2.out HNE.out.2.1 HNE.out.2.1)
  have HBu3 := Aside0.mk (HBv2.out.trans hB)
  have qf := blk_frozen HXu3.out 3
  have qc := blk_cell HXu3.out 3
  obtain ⟨v3, hv3⟩ : ∃ z, u3.setCell ⟨g3, 3, none⟩ (.int .i64 (rd3 O a0).1) = z := ⟨_, rfl⟩
  have HXv3 : Aside0 (v3.heap[g3]? = some (.cells #[.string (rdA O a0).1, .int .i64 (rd1 O a0).1, .int .i64 (rd2 O a0).1, .int .i64 (rd3 O a0).1, .int .i64 0, .string ⟨#[]⟩] 68 (0, 0))) := ⟨by rw [← hv3]; exact blk_set HXu3.out 3 _⟩
  have HYv3 : Aside0 (v3.heap[g2]? = some (.cells #[.string ⟨#[]⟩, .int .i64 0, .int .i64 0, .int .i64 0, .int .i64 0, .string ⟨#[]⟩] 68 (0, 0))) := ⟨by rw [← hv3]; exact blk_far HYu3.out (p := ⟨g3, 3, none⟩) HNE.out.2.2.1 _⟩
  have HPv3 : Aside0 (v3.heap[p]? = some (.cells #[.slice A m c, .int .i64 (rd3 O a0).2.1, .int .i64 (rd3 O a0).2.2] 78 (0, 0))) := ⟨by rw [← hv3]; exact blk_far HPu3.out (p := ⟨g3, 3, none⟩) (Ne.symm HNE.out.1) _⟩
  have HBv3 : Aside0 (Bm p p w v3) := ⟨by rw [← hv3]; exact HBu3.out.setNew HNE.out.2.2.2.1 3 _⟩
  have hsp : stepG (getIntS O) ((rd2 O a0).2.1, (rd2 O a0).2.2) = rd3 O a0 := rfl
  rw [hsp]
  have HV3 := Aside0.mk hv3
  clear hP hB hv3 hsp
  go_wp2_with fail
  rw [HV3.out]
  clear qf qc
  refine (rd_num.get (getS O) A m c O p (rd3 O a0).2.1 (rd3 O a0).2.2 v3 H1.out (HCH.out v3 HBv3.out) HPv3.out).mono ?_
  rintro e u4 ⟨rfl, hP, hB⟩
  have HPu4 := Aside0.mk (show u4.heap[p]? = some (.cells #[.slice A m c, .int .i64 (rd4 O a0).2.1, .int .i64 (rd4 O a0).2.2] 78 (0, 0)) from hP)
  have HXu4 := Aside0.mk (hB.blk HXv3.out HNE.out.1 HNE.out.1)
  have HYu4 := Aside0.mk (hB.blk HYv3.out HNE.out.2.1 HNE.out.2.1)
  have HBu4 := Aside0.mk (HBv3.out.trans hB)
  have qf := blk_frozen HXu4.out 4
  have qc := blk_cell HXu4.out 4
  obtain ⟨v4, hv4⟩ : ∃ z, u4.setCell ⟨g3, 4, none⟩ (.int .i64 (rd4 O a0).1) = z := ⟨_, rfl⟩
  have HXv4 : Aside0 (v4.heap[g3]? = some (.cells #[.string (rdA O a0).1, .int .i64 (rd1 O a0).1, .int .i64 (rd2 O a0).1, .int .i64 (rd3 O a0).1, .int .i64 (rd4 O a0).1, .string ⟨#[]⟩] 68 (0, 0))) := ⟨by rw [← hv4]; exact blk_set HXu4.out 4 _⟩
  have HYv4 : Aside0 (v4.heap[g2]? = some (.cells #[.string ⟨#[]⟩, .int .i64 0, .int .i64 0, .int .i64 0, .int .i64 0, .string ⟨#[]⟩] 68 (0, 0))) := ⟨by rw [← hv4]; exact blk_far HYu4.out (p := ⟨g3, 4, none⟩) HNE.out.2.2.1 _⟩
  have HPv4 : Aside0 (v4.heap[p]? = some (.cells #[.slice A m c, .int .i64 (rd4 O a0).2.1, .int .i64 (rd4 O a0).2.2] 78 (0, 0))) := ⟨by rw [← hv4]; exact blk_far HPu4.out (p := ⟨g3, 4, none⟩) (Ne.symm HNE.out.1) _⟩
  have HBv4 : Aside0 (Bm p p w v4) := ⟨by rw [← hv4]; exact HBu4.out.setNew HNE.out.2.2.2.1 4 _⟩
  have hsp : stepG (getS O) ((rd3 O a0).2.1, (rd3 O a0).2.2) = rd4 O a0 := rfl
  rw [hsp]
  have HV4 := Aside0.mk hv4
  clear hP hB hv4 hsp
  obtain ⟨a4, ha4⟩ : ∃ z, (rd4 O a0).2.1 = z := ⟨_, rfl⟩
  obtain ⟨e4, he4⟩ : ∃ z, (rd4 O a0).2.2 = z := ⟨_, rfl⟩
  rw [ha4, he4] at HPv4
  have HA4 := Aside0.mk (And.intro ha4 he4)
  have HBD : Aside0 (e4 = 0 → 0 ≤ a4 ∧ a4 ≤ (m : Int)) := ⟨fun h => by have := rd4_bd HBY.out a0 (by rw [he4]; exact h); rw [ha4, HM.out.1] at this; exact this⟩
  clear ha4 he4
  go_wp2_with fail
  rw [HV4.out]
  clear qf qc
  obtain ⟨p0, p1, p2⟩ := rd_cells HPv4.out
  by_cases h0 : e4 = 0
  rotate_left
  · have e1 : (e4 == 0) = false := beq_eq_false_iff_ne.mpr h0
    have HR : Aside0 (rdLine O a0 = (rdX O a0 ⟨#[]⟩, (a4, e4))) := ⟨by unfold rdLine rdE; rw [HA4.out.2, if_neg h0, if_neg h0, HA4.out.1]⟩
    clear h0
    go_quiet (fail)
    have HXv5 := Aside0.mk (show (v4.drewN nq).heap[g3]? = _ from HXv4.out)
    have HYv5 := Aside0.mk (show (v4.drewN nq).heap[g2]? = _ from HYv4.out)
    have HPv5 := Aside0.mk (show (v4.drewN nq).heap[p]? = _ from HPv4.out)
    have HBv5 := Aside0.mk (HBv4.out.below (pw_below_drewN (Below.refl _ _) nq))
    generalize v4.drewN nq = v5 at HXv5 HYv5 HPv5 HBv5 ⊢
    clear p0 p1 p2
    obtain ⟨p0, p1, p2⟩ := rd_cells HPv5.out
    obtain ⟨x0, x1, x2, x3, x4, x5⟩ := lnz_cells HXv5.out
    obtain ⟨y0, y1, y2, y3, y4, y5⟩ := lnz_cells HYv5.out
    have f0 := blk_frozen HYv5.out 0
    have f1 := blk_frozen HYv5.out 1
    have f2 := blk_frozen HYv5.out 2
    have f3 := blk_frozen HYv5.out 3
    have f4 := blk_frozen HYv5.out 4
    have f5 := blk_frozen HYv5.out 5
    go_wp2
    refine bodyPost_ret (results_c1 rfl _ _ g2 68 #[.string (rdA O a0).1, .int .i64 (rd1 O a0).1, .int .i64 (rd2 O a0).1, .int .i64 (rd3 O a0).1, .int .i64 (rd4 O a0).1, .string ⟨#[]⟩] (0, 0) _ rfl (blk_put (blk_put (blk_put (blk_put (blk_put (blk_put HYv5.out 0 (.string (rdA O a0).1) rfl) 1 (.int .i64 (rd1 O a0).1) rfl) 2 (.int .i64 (rd2 O a0).1) rfl) 3 (.int .i64 (rd3 O a0).1) rfl) 4 (.int .i64 (rd4 O a0).1) rfl) 5 (.string ⟨#[]⟩) rfl) Tryd.underlying68 rfl (by kernel_rfl)) rfl ?_
    rw [HR.out]
    refine ⟨rfl, ?_, ?_⟩
    · exact blk_far (p := ⟨g2, 5, none⟩) (blk_far (p := ⟨g2, 4, none⟩) (blk_far (p := ⟨g2, 3, none⟩) (blk_far (p := ⟨g2, 2, none⟩) (blk_far (p := ⟨g2, 1, none⟩) (blk_far (p := ⟨g2, 0, none⟩) HPv5.out (Ne.symm HNE.out.2.1) _) (Ne.symm HNE.out.2.1) _) (Ne.symm HNE.out.2.1) _) (Ne.symm HNE.out.2.1) _) (Ne.symm HNE.out.2.1) _) (Ne.symm HNE.out.2.1) _
    · exact (((((HBv5.out.setNew HNE.out.2.2.2.2 0 _).setNew HNE.out.2.2.2.2 1 _).setNew HNE.out.2.2.2.2 2 _).setNew HNE.out.2.2.2.2 3 _).setNew HNE.out.2.2.2.2 4 _).setNew HNE.out.2.2.2.2 5 _
  have e1 : (e4 == 0) = true := beq_iff_eq.mpr h0
  have hbd := HBD.out h0
  have hw1 : wrap64 ((m : Int) - a4) = (m : Int) - a4 := by have := HM.out; unfold wrap64; omega
  have hw2 : IntKind.i64.wrap ((m : Int) - a4) = (m : Int) - a4 := by have := HM.out; rw [IntKind.wrap_i64]; omega
  by_cases h1 : (m : Int) - a4 < 32
  · have e2 : decide ((m : Int) - a4 < 32) = true := decide_eq_true h1
    have HR : Aside0 (rdLine O a0 = (rdX O a0 ⟨#[]⟩, (a4, 4))) := ⟨by
      have hE : rdE O a0 = 4 := by unfold rdE; rw [HA4.out.2, if_pos h0, HA4.out.1, HM.out.1, if_pos h1]
      unfold rdLine; rw [hE, if_neg (by decide), HA4.out.1]⟩
    clear h0 hbd h1
    go_quiet (fail)
    have HXv5 := Aside0.mk (show (v4.drewN nq).heap[g3]? = _ from HXv4.out)
    have HYv5 := Aside0.mk (show (v4.drewN nq).heap[g2]? = _ from HYv4.out)
    have HPv5 := Aside0.mk (show (v4.drewN nq).heap[p]? = _ from HPv4.out)
    have HBv5 := Aside0.mk (HBv4.out.below (pw_below_drewN (Below.refl _ _) nq))
    generalize v4.drewN nq = v5 at HXv5 HYv5 HPv5 HBv5 ⊢
    clear p0 p1 p2
    obtain ⟨p0, p1, p2⟩ := rd_cells HPv5.out
    obtain ⟨v6, hv6⟩ : ∃ z, v5.setCell ⟨p, 2, none⟩ (.int .i64 4) = z := ⟨_, rfl⟩
    have HXv6 : Aside0 (v6.heap[g3]? = some (.cells #[.string (rdA O a0).1, .int .i64 (rd1 O a0).1, .int .i64 (rd2 O a0).1, .int .i64 (rd3 O a0).1, .int .i64 (rd4 O a0).1, .string ⟨#[]⟩] 68 (0, 0))) := ⟨by rw [← hv6]; exact blk_far (p := ⟨p, 2, none⟩) HXv5.out HNE.out.1 _⟩
    have HYv6 : Aside0 (v6.heap[g2]? = some (.cells #[.string ⟨#[]⟩, .int .i64 0, .int .i64 0, .int .i64 0, .int .i64 0, .string ⟨#[]⟩] 68 (0, 0))) := ⟨by rw [← hv6]; exact blk_far (p := ⟨p, 2, none⟩) HYv5.out HNE.out.2.1 _⟩
    have HPv6 : Aside0 (v6.heap[p]? = some (.cells #[.slice A m c, .int .i64 a4, .int .i64 4] 78 (0, 0))) := ⟨by rw [← hv6]; exact blk_set HPv5.out 2 _⟩
    have HBv6 : Aside0 (Bm p p w v6) := ⟨by rw [← hv6]; exact HBv5.out.setCell 2 _⟩
    have qf := blk_frozen HPv5.out 2
    have qe := (rd_cells HPv6.out).2.2
    have hkk : ((4 : Int) == 0) = false := rfl
    obtain ⟨x0, x1, x2, x3, x4, x5⟩ := lnz_cells HXv6.out
    obtain ⟨y0, y1, y2, y3, y4, y5⟩ := lnz_cells HYv6.out
    have f0 := blk_frozen HYv6.out 0
    have f1 := blk_frozen HYv6.out 1
    have f2 := blk_frozen HYv6.out 2
    have f3 := blk_frozen HYv6.out 3
    have f4 := blk_frozen HYv6.out 4
    have f5 := blk_frozen HYv6.out 5
    go_wp2
    refine bodyPost_ret (results_c1 rfl _ _ g2 68 #[.string (rdA O a0).1, .int .i64 (rd1 O a0).1, .int .i64 (rd2 O a0).1, .int .i64 (rd3 O a0).1, .int .i64 (rd4 O a0).1, .string ⟨#[]⟩] (0, 0) _ rfl (blk_put (blk_put (blk_put (blk_put (blk_put (blk_put HYv6.out 0 (.string (rdA O a0).1) rfl) 1 (.int .i64 (rd1 O a0).1) rfl) 2 (.int .i64 (rd2 O a0).1) rfl) 3 (.int .i64 (rd3 O a0).1) rfl) 4 (.int .i64 (rd4 O a0).1) rfl) 5 (.string ⟨#[]⟩) rfl) Tryd.underlying68 rfl (by kernel_rfl)) rfl ?_
    rw [HR.out]
    refine ⟨rfl, ?_, ?_⟩
    · exact blk_far (p := ⟨g2, 5, none⟩) (blk_far (p := ⟨g2, 4, none⟩) (blk_far (p := ⟨g2, 3, none⟩) (blk_far (p := ⟨g2, 2, none⟩) (blk_far (p := ⟨g2, 1, none⟩) (blk_far (p := ⟨g2, 0, none⟩) HPv6.out (Ne.symm HNE.out.2.1) _) (Ne.symm HNE.out.2.1) _) (Ne.symm HNE.out.2.1) _) (Ne.symm HNE.out.2.1) _) (Ne.symm HNE.out.2.1) _) (Ne.symm HNE.out.2.1) _
    · exact (((((HBv6.out.setNew HNE.out.2.2.2.2 0 _).setNew HNE.out.2.2.2.2 1 _).setNew HNE.out.2.2.2.2 2 _).setNew HNE.out.2.2.2.2 3 _).setNew HNE.out.2.2.2.2 4 _).setNew HNE.out.2.2.2.2 5 _
  have e2 : decide ((m : Int) - a4 < 32) = false := decide_eq_false h1
  have hX0 : rdE O a0 = 0 := by unfold rdE; rw [HA4.out.2, if_pos h0, HA4.out.1, HM.out.1, if_neg h1]
  obtain ⟨sm, hsm⟩ : ∃ z, rdSm O a0 = z := ⟨_, rfl⟩
  have HR : Aside0 (rdLine O a0 = (rdX O a0 sm, (a4 + 32, mayF (rdX O a0 sm)))) := ⟨by unfold rdLine; rw [hX0, if_pos rfl, hsm, HA4.out.1]⟩
  obtain ⟨i0, hi0, hz0⟩ := Option.map_eq_some_iff.1 info_u8
  simp only [Prod.mk.injEq] at hz0
  obtain ⟨n5, hn5⟩ : ∃ z, (a4 + 32).toNat - a4.toNat = z := ⟨_, rfl⟩
  obtain ⟨A5, hA5⟩ : ∃ z, (if c = a4.toNat then A else A.map (·.add (a4.toNat * 1))) = z := ⟨_, rfl⟩
  have hcut := cut_mid (P := Tryd.prog) 41 5 .i64 .i64 Tryd.underlying41 hi0 1 hz0.2.1 A m c a4 (a4 + 32) hbd.1 (by omega) (by omega) HM.out.2.1
  rw [hn5, hA5] at hcut
  have HCV : Aside0 (∀ W : World, Bm p p w W → (convert 41 9 (.slice A5 n5 (c - a4.toNat))).run Tryd.prog W = .ok (.string sm) W) := ⟨fun W hB => by
    have h3 := HCH.out W hB
    rw [← HM.out.1] at h3
    have h4 := Kd.C_mid (c := c) (lo := a4.toNat) (hi := (a4 + 32).toNat) h3 (by omega) (by have := HM.out.1; omega) (by have := HM.out; omega)
    have hl : ((O.take (a4 + 32).toNat).drop a4.toNat).length = n5 := by rw [List.length_drop, List.length_take, ← hn5]; have := HM.out.1; omega
    rw [hl, show (Kd.int .u8).sz = 1 from rfl, hA5] at h4
    rw [← hsm, show rdSm O a0 = strOfNums ((O.take (a4 + 32).toNat).drop a4.toNat) by unfold rdSm; rw [HA4.out.1]]
    exact C_str33 h4⟩
  have hs1_ : wrap64 (a4 + 32) = a4 + 32 := by have := HM.out; unfold wrap64; omega
  have hs2_ : IntKind.i64.wrap (a4 + 32) = a4 + 32 := by have := HM.out; rw [IntKind.wrap_i64]; omega
  clear h0 hbd h1 hi0 hz0 hsm hX0 hn5 hA5
  go_quiet (fail)
  have HXv5 := Aside0.mk (show (v4.drewN nq).heap[g3]? = _ from HXv4.out)
  have HYv5 := Aside0.mk (show (v4.drewN nq).heap[g2]? = _ from HYv4.out)
  have HPv5 := Aside0.mk (show (v4.drewN nq).heap[p]? = _ from HPv4.out)
  have HBv5 := Aside0.mk (HBv4.out.below (pw_below_drewN (Below.refl _ _) nq))
  generalize v4.drewN nq = v5 at HXv5 HYv5 HPv5 HBv5 ⊢
  clear p0 p1 p2
  obtain ⟨p0, p1, p2⟩ := rd_cells HPv5.out
  go_wp2_with fail
  have CVd : (convert 41 9 (.slice A5 n5 (c - a4.toNat))).run Tryd.prog v5.drew = .ok (.string sm) v5.drew := HCV.out _ (HBv5.out.below (below_drew (Below.refl _ _)))
  have qf := blk_frozen HXv5.out 5
  have qx := (lnz_cells HXv5.out).2.2.2.2.2
  refine start_ (n := 17) (S := fun w' => w'.cell? ⟨p, 0, none⟩ = some (.slice A m c) ∧ w'.cell? ⟨p, 1, none⟩ = some (.int .i64 a4) ∧ (convert 41 9 (.slice A5 n5 (c - a4.toNat))).run Tryd.prog w' = .ok (.string sm) w') (ds := [16]) #[F_,F_,F_,F_,F_,F_,F_,F_,F_,F_,F_,F_,F_,F_,F_,F_,F_] (by kernel_rfl) rfl rfl ⟨(rd_cells (w := v5.drew) HPv5.out).1, (rd_cells (w := v5.drew) HPv5.out).2.1, CVd⟩ (fun hHeld => ?_)
  refine pure_ (i := 0) (N := some 67) (v := ?_) (a' := ?_) #[T_,F_,F_,F_,F_,F_,F_,F_,F_,F_,F_,F_,F_,F_,F_,F_,F_] rfl rfl (by kernel_rfl) (fun _ _ _ h => h) (Or.inl ⟨by rfl, ?_⟩) ?_ ?_
  rotate_left
  · intro w'
    go_simp
    with_reducible rfl
  rotate_left
  · simp only [Act.put, List.setIfInBounds_toArray, List.set_cons_zero, List.set_cons_succ, i64_w, i32_w]
    rfl
  refine pure_ (i := 1) (N := some 68) (v := ?_) (a' := ?_) #[T_,T_,F_,F_,F_,F_,F_,F_,F_,F_,F_,F_,F_,F_,F_,F_,F_] rfl rfl (by kernel_rfl) (fun _ _ _ h => h) (Or.inl ⟨by rfl, ?_⟩) ?_ ?_
  rotate_left
  · intro w'
    go_simp
    with_reducible rfl
  rotate_left
  · simp only [Act.put, List.setIfInBounds_toArray, List.set_cons_zero, List.set_cons_succ, i64_w, i32_w]
    rfl
  refine pure_ (i := 2) (N := some 69) (v := ?_) (a' := ?_) #[T_,T_,T_,F_,F_,F_,F_,F_,F_,F_,F_,F_,F_,F_,F_,F_,F_] rfl rfl (by kernel_rfl) (fun _ _ _ h => h) (Or.inl ⟨by rfl, ?_⟩) ?_ ?_
  rotate_left
  · intro w'
    go_simp
    with_reducible rfl
  rotate_left
  · simp only [Act.put, List.setIfInBounds_toArray, List.set_cons_zero, List.set_cons_succ, i64_w, i32_w]
    rfl
  refine pure_ (i := 4) (N := some 71) (v := ?_) (a' := ?_) #[T_,T_,T_,F_,T_,F_,F_,F_,F_,F_,F_,F_,F_,F_,F_,F_,F_] rfl rfl (by kernel_rfl) (fun _ _ _ h => h) (Or.inl ⟨by rfl, ?_⟩) ?_ ?_
  rotate_left
  · intro w'
    go_simp
    with_reducible rfl
  rotate_left
  · simp only [Act.put, List.setIfInBounds_toArray, List.set_cons_zero, List.set_cons_succ, i64_w, i32_w]
    rfl
  refine pure_ (i := 5) (N := some 72) (v := ?_) (a' := ?_) #[T_,T_,T_,F_,T_,T_,F_,F_,F_,F_,F_,F_,F_,F_,F_,F_,F_] rfl rfl (by kernel_rfl) (fun _ _ _ h => h) (Or.inl ⟨by rfl, ?_⟩) ?_ ?_
  rotate_left
  · intro w'
    go_simp
    with_reducible rfl
  rotate_left
  · simp only [Act.put, List.setIfInBounds_toArray, List.set_cons_zero, List.set_cons_succ, i64_w, i32_w]
    rfl
  refine pure_ (i := 6) (N := some 73) (v := ?_) (a' := ?_) #[T_,T_,T_,F_,T_,T_,T_,F_,F_,F_,F_,F_,F_,F_,F_,F_,F_] rfl rfl (by kernel_rfl) (fun _ _ _ h => h) (Or.inl ⟨by rfl, ?_⟩) ?_ ?_
  rotate_left
  · intro w'
    go_simp
    with_reducible rfl
  rotate_left
  · simp only [Act.put, List.setIfInBounds_toArray, List.set_cons_zero, List.set_cons_succ, i64_w, i32_w]
    rfl
  refine pure_ (i := 8) (N := some 75) (v := ?_) (a' := ?_) #[T_,T_,T_,F_,T_,T_,T_,F_,T_,F_,F_,F_,F_,F_,F_,F_,F_] rfl rfl (by kernel_rfl) (fun _ _ _ h => h) (Or.inl ⟨by rfl, ?_⟩) ?_ ?_
  rotate_left
  · intro w'
    go_simp
    with_reducible rfl
  rotate_left
  · simp only [Act.put, List.setIfInBounds_toArray, List.set_cons_zero, List.set_cons_succ, i64_w, i32_w]
    rfl
  refine pure_ (i := 9) (N := some 76) (v := ?_) (a' := ?_) #[T_,T_,T_,F_,T_,T_,T_,F_,T_,T_,F_,F_,F_,F_,F_,F_,F_] rfl rfl (by kernel_rfl) (fun _ _ _ h => h) (Or.inl ⟨by rfl, ?_⟩) ?_ ?_
  rotate_left
  · intro w'
    go_simp
    with_reducible rfl
  rotate_left
  · simp only [Act.put, List.setIfInBounds_toArray, List.set_cons_zero, List.set_cons_succ, i64_w, i32_w]
    rfl
  refine pure_ (i := 10) (N := some 77) (v := ?_) (a' := ?_) #[T_,T_,T_,F_,T_,T_,T_,F_,T_,T_,T_,F_,F_,F_,F_,F_,F_] rfl rfl (by kernel_rfl) (fun _ _ _ h => h) (Or.inl ⟨by rfl, ?_⟩) ?_ ?_
  rotate_left
  · intro w'
    go_simp
    with_reducible rfl
  rotate_left
  · simp only [Act.put, List.setIfInBounds_toArray, List.set_cons_zero, List.set_cons_succ, i64_w, i32_w]
    rfl
  refine take_ (i := 3) (N := some 70) (v := ?_) (a' := ?_) #[T_,T_,T_,T_,T_,T_,T_,F_,T_,T_,T_,F_,F_,F_,F_,F_,F_] rfl rfl (by kernel_rfl) (fun _ _ _ h => h) (Or.inl ⟨by rfl, ?_⟩) hHeld ?_ ?_
  rotate_left
  · rintro w' ⟨s0, s1, s2⟩
    go_simp
    with_reducible rfl
  rotate_left
  · simp only [Act.put, List.setIfInBounds_toArray, List.set_cons_zero, List.set_cons_succ, i64_w, i32_w]
    rfl
  refine take_ (i := 7) (N := some 74) (v := ?_) (a' := ?_) #[T_,T_,T_,T_,T_,T_,T_,T_,T_,T_,T_,F_,F_,F_,F_,F_,F_] rfl rfl (by kernel_rfl) (fun _ _ _ h => h) (Or.inl ⟨by rfl, ?_⟩) hHeld ?_ ?_
  rotate_left
  · rintro w' ⟨s0, s1, s2⟩
    go_simp
    with_reducible rfl
  rotate_left
  · simp only [Act.put, List.setIfInBounds_toArray, List.set_cons_zero, List.set_cons_succ, i64_w, i32_w]
    rfl
  refine take_ (i := 11) (N := some 78) (v := ?_) (a' := ?_) #[T_,T_,T_,T_,T_,T_,T_,T_,T_,T_,T_,T_,F_,F_,F_,F_,F_] rfl rfl (by kernel_rfl) (fun _ _ _ h => h) (Or.inl ⟨by rfl, ?_⟩) hHeld ?_ ?_
  rotate_left
  · rintro w' ⟨s0, s1, s2⟩
    go_simp
    with_reducible rfl
  rotate_left
  · simp only [Act.put, List.setIfInBounds_toArray, List.set_cons_zero, List.set_cons_succ, i64_w, i32_w]
    rfl
  refine pure_ (i := 12) (N := some 79) (v := ?_) (a' := ?_) #[T_,T_,T_,T_,T_,T_,T_,T_,T_,T_,T_,T_,T_,F_,F_,F_,F_] rfl rfl (by kernel_rfl) (fun _ _ _ h => h) (Or.inl ⟨by rfl, ?_⟩) ?_ ?_
  rotate_left
  · intro w'
    go_simp
    with_reducible rfl
  rotate_left
  · simp only [Act.put, List.setIfInBounds_toArray, List.set_cons_zero, List.set_cons_succ, i64_w, i32_w]
    rfl
  refine pure_ (i := 13) (N := some 80) (v := ?_) (a' := ?_) #[T_,T_,T_,T_,T_,T_,T_,T_,T_,T_,T_,T_,T_,T_,F_,F_,F_] rfl rfl (by kernel_rfl) (fun _ _ _ h => h) (Or.inl ⟨by rfl, ?_⟩) ?_ ?_
  rotate_left
  · intro w'
    go_simp
    with_reducible rfl
  rotate_left
  · simp only [Act.put, List.setIfInBounds_toArray, List.set_cons_zero, List.set_cons_succ, i64_w, i32_w]
    rfl
  refine take_ (i := 14) (N := some 81) (v := ?_) (a' := ?_) #[T_,T_,T_,T_,T_,T_,T_,T_,T_,T_,T_,T_,T_,T_,T_,F_,F_] rfl rfl (by kernel_rfl) (fun _ _ _ h => h) (Or.inl ⟨by rfl, ?_⟩) hHeld ?_ ?_
  rotate_left
  · rintro w' ⟨s0, s1, s2⟩
    go_simp
    with_reducible rfl
  rotate_left
  · simp only [Act.put, List.setIfInBounds_toArray, List.set_cons_zero, List.set_cons_succ, i64_w, i32_w]
    rfl
  refine pure_ (i := 15) (N := some 82) (v := ?_) (a' := ?_) #[T_,T_,T_,T_,T_,T_,T_,T_,T_,T_,T_,T_,T_,T_,T_,T_,F_] rfl rfl (by kernel_rfl) (fun _ _ _ h => h) (Or.inl ⟨by rfl, ?_⟩) ?_ ?_
  rotate_left
  · intro w'
    go_simp
    with_reducible rfl
  rotate_left
  · simp only [Act.put, List.setIfInBounds_toArray, List.set_cons_zero, List.set_cons_succ, i64_w, i32_w]
    rfl
  refine last_ (i := 16) (N := none) #[T_,T_,T_,T_,T_,T_,T_,T_,T_,T_,T_,T_,T_,T_,T_,T_,T_] rfl rfl (by kernel_rfl) (by decide) (fun K hK => ?_)
  refine skip_ (w1 := ?_) (by rfl) rfl ?_ ?_
  rotate_left
  · go_simp
    rfl
  refine hK.out _ _ ?_
  clear hK K
  refine done_ (by kernel_rfl) ?_
  clear hcut CVd qf qx
  obtain ⟨v6, hv6⟩ : ∃ z, (v5.setCell ⟨g3, 5, none⟩ (.string sm)).drew = z := ⟨_, rfl⟩
  have HXv6 : Aside0 (v6.heap[g3]? = some (.cells #[.string (rdA O a0).1, .int .i64 (rd1 O a0).1, .int .i64 (rd2 O a0).1, .int .i64 (rd3 O a0).1, .int .i64 (rd4 O a0).1, .string sm] 68 (0, 0))) := ⟨by rw [← hv6]; exact blk_set (w := v5.drew) HXv5.out 5 _⟩
  have HYv6 : Aside0 (v6.heap[g2]? = some (.cells #[.string ⟨#[]⟩, .int .i64 0, .int .i64 0, .int .i64 0, .int .i64 0, .string ⟨#[]⟩] 68 (0, 0))) := ⟨by rw [← hv6]; exact blk_far (w := v5.drew) (p := ⟨g3, 5, none⟩) HYv5.out HNE.out.2.2.1 _⟩
  have HPv6 : Aside0 (v6.heap[p]? = some (.cells #[.slice A m c, .int .i64 a4, .int .i64 e4] 78 (0, 0))) := ⟨by rw [← hv6]; exact blk_far (w := v5.drew) (p := ⟨g3, 5, none⟩) HPv5.out (Ne.symm HNE.out.1) _⟩
  have HBv6 : Aside0 (Bm p p w v6) := ⟨by rw [← hv6]; exact (HBv5.out.below (below_drew (Below.refl _ _))).setNew HNE.out.2.2.2.1 5 _⟩
  rw [hv6]
  clear hv6 p0 p1 p2
  obtain ⟨p0, p1, p2⟩ := rd_cells HPv6.out
  obtain ⟨v7, hv7⟩ : ∃ z, v6.setCell ⟨p, 1, none⟩ (.int .i64 (a4 + 32)) = z := ⟨_, rfl⟩
  have HXv7 : Aside0 (v7.heap[g3]? = some (.cells #[.string (rdA O a0).1, .int .i64 (rd1 O a0).1, .int .i64 (rd2 O a0).1, .int .i64 (rd3 O a0).1, .int .i64 (rd4 O a0).1, .string sm] 68 (0, 0))) := ⟨by rw [← hv7]; exact blk_far (p := ⟨p, 1, none⟩) HXv6.out HNE.out.1 _⟩
  have HYv7 : Aside0 (v7.heap[g2]? = some (.cells #[.string ⟨#[]⟩, .int .i64 0, .int .i64 0, .int .i64 0, .int .i64 0, .string ⟨#[]⟩] 68 (0, 0))) := ⟨by rw [← hv7]; exact blk_far (p := ⟨p, 1, none⟩) HYv6.out HNE.out.2.1 _⟩
  have HPv7 : Aside0 (v7.heap[p]? = some (.cells #[.slice A m c, .int .i64 (a4 + 32), .int .i64 e4] 78 (0, 0))) := ⟨by rw [← hv7]; exact blk_set HPv6.out 1 _⟩
  have HBv7 : Aside0 (Bm p p w v7) := ⟨by rw [← hv7]; exact HBv6.out.setCell 1 _⟩
  have qf := blk_frozen HPv6.out 1
  obtain ⟨x0, x1, x2, x3, x4, x5⟩ := lnz_cells HXv7.out
  have HMay := line_may.at_ (rdX O a0 sm) (show (rdA O a0).1.size ≤ 1000000 by have := rdA_size HBY.out a0; omega) v7
  unfold lnV at HMay
  have HMay := Aside0.mk HMay
  have HV7 := Aside0.mk hv7
  unfold rdX at HMay
  dsimp only at HMay
  go_wp2_with fail
  first | (rw [HV7.out]; refine HMay.out.mono ?_) | refine HMay.out.mono ?_
  rintro e u8 ⟨rfl, hb8⟩
  have HXu8 := Aside0.mk (blk_below HXv7.out hb8)
  have HYu8 := Aside0.mk (blk_below HYv7.out hb8)
  have HPu8 := Aside0.mk (blk_below HPv7.out hb8)
  have HBu8 := Aside0.mk (HBv7.out.below hb8)
  clear hb8 x0 x1 x2 x3 x4 x5 p0 p1 p2 qf hv7 HMay
  obtain ⟨p0, p1, p2⟩ := rd_cells HPu8.out
  have qf := blk_frozen HPu8.out 2
  have hX : mayF (⟨(rdA O a0).1, (rd1 O a0).1, (rd2 O a0).1, (rd3 O a0).1, (rd4 O a0).1, sm⟩ : Ln) = mayF (rdX O a0 sm) := rfl
  rw [hX]
  clear hX
  obtain ⟨me, hme⟩ : ∃ z, mayF (rdX O a0 sm) = z := ⟨_, rfl⟩
  rw [hme] at HR ⊢
  obtain ⟨v9, hv9⟩ : ∃ z, u8.setCell ⟨p, 2, none⟩ (.int .i64 me) = z := ⟨_, rfl⟩
  have HXv9 : Aside0 (v9.heap[g3]? = some (.cells #[.string (rdA O a0).1, .int .i64 (rd1 O a0).1, .int .i64 (rd2 O a0).1, .int .i64 (rd3 O a0).1, .int .i64 (rd4 O a0).1, .string sm] 68 (0, 0))) := ⟨by rw [← hv9]; exact blk_far (p := ⟨p, 2, none⟩) HXu8.out HNE.out.1 _⟩
  have HYv9 : Aside0 (v9.heap[g2]? = some (.cells #[.string ⟨#[]⟩, .int .i64 0, .int .i64 0, .int .i64 0, .int .i64 0, .string ⟨#[]⟩] 68 (0, 0))) := ⟨by rw [← hv9]; exact blk_far (p := ⟨p, 2, none⟩) HYu8.out HNE.out.2.1 _⟩
  have HPv9 : Aside0 (v9.heap[p]? = some (.cells #[.slice A m c, .int .i64 (a4 + 32), .int .i64 me] 78 (0, 0))) := ⟨by rw [← hv9]; exact blk_set HPu8.out 2 _⟩
  have HBv9 : Aside0 (Bm p p w v9) := ⟨by rw [← hv9]; exact HBu8.out.setCell 2 _⟩
  clear hme
  obtain ⟨x0, x1, x2, x3, x4, x5⟩ := lnz_cells HXv9.out
  obtain ⟨y0, y1, y2, y3, y4, y5⟩ := lnz_cells HYv9.out
  have f0 := blk_frozen HYv9.out 0
  have f1 := blk_frozen HYv9.out 1
  have f2 := blk_frozen HYv9.out 2
  have f3 := blk_frozen HYv9.out 3
  have f4 := blk_frozen HYv9.out 4
  have f5 := blk_frozen HYv9.out 5
  go_wp2
  refine bodyPost_ret (results_c1 rfl _ _ g2 68 #[.string (rdA O a0).1, .int .i64 (rd1 O a0).1, .int .i64 (rd2 O a0).1, .int .i64 (rd3 O a0).1, .int .i64 (rd4 O a0).1, .string sm] (0, 0) _ rfl (blk_put (blk_put (blk_put (blk_put (blk_put (blk_put HYv9.out 0 (.string (rdA O a0).1) rfl) 1 (.int .i64 (rd1 O a0).1) rfl) 2 (.int .i64 (rd2 O a0).1) rfl) 3 (.int .i64 (rd3 O a0).1) rfl) 4 (.int .i64 (rd4 O a0).1) rfl) 5 (.string sm) rfl) Tryd.underlying68 rfl (by kernel_rfl)) rfl ?_
  rw [HR.out]
  refine ⟨rfl, ?_, ?_⟩
  · exact blk_far (p := ⟨g2, 5, none⟩) (blk_far (p := ⟨g2, 4, none⟩) (blk_far (p := ⟨g2, 3, none⟩) (blk_far (p := ⟨g2, 2, none⟩) (blk_far (p := ⟨g2, 1, none⟩) (blk_far (p := ⟨g2, 0, none⟩) HPv9.out (Ne.symm HNE.out.2.1) _) (Ne.symm HNE.out.2.1) _) (Ne.symm HNE.out.2.1) _) (Ne.symm HNE.out.2.1) _) (Ne.symm HNE.out.2.1) _) (Ne.symm HNE.out.2.1) _
  · exact (((((HBv9.out.setNew HNE.out.2.2.2.2 0 _).setNew HNE.out.2.2.2.2 1 _).setNew HNE.out.2.2.2.2 2 _).setNew HNE.out.2.2.2.2 3 _).setNew HNE.out.2.2.2.2 4 _).setNew HNE.out.2.2.2.2 5 _
/-! ### ledger_Read: function 21, a contract of my own -/
set_option maxRecDepth 20000 in
theorem MapOk.lookAll {w : World} {mb n : Nat} {S : List Ln} (h : MapOk w mb n S) (p : ByteArray) (hp : p.size ≤ maxLen) :
    ∃ x b, (∀ w' : World, w'.heap[mb]? = w.heap[mb]? → (Instr.lookup 53 (.map (some mb)) (.string p) true).run Tryd.prog w' = .ok (.tuple #[lnV x, .bool b]) w') ∧ (b = true ↔ p ∈ paths S) ∧ ∀ y ∈ S, y.path = p → x = y := by
  obtain ⟨x, b, hrun, h2, h3⟩ := h.look p hp
  refine ⟨x, b, fun w' hw => ?_, h2, h3⟩
  obtain ⟨D, hown, _⟩ := h
  obtain ⟨es, clock, hb, F, _, _⟩ := hown
  have hks : ∀ x ∈ es.toList, MapKept.IsKey .string x.key := fun x hx => by
    obtain ⟨l, hl⟩ := F.keys x hx
    obtain ⟨s', e, _, _⟩ := WideMaps.string_of_keyOf Tryd.underlying9 hl
    rw [e]; trivial
  obtain ⟨a, ha⟩ : ∃ a, Instr.findNow .string (.string p) es.toList 0 = some a := by
    rcases MapKept.findNow_spec (d := .string) (k := .string p) trivial es.toList 0 hks with ⟨h, _⟩ | ⟨j, e, h, _⟩ <;> exact ⟨_, h⟩
  have hf : ∀ W, (Instr.findKey 9 (.string p) es.toList).run Tryd.prog W = .ok a W := fun W => MapKept.run_findKey Tryd.underlying9 ha
  have hck : ∀ W e, (Instr.checkKey e 10000 9 (.string p)).run Tryd.prog W = .ok () W := fun W e => strs_keyed.check W e (kS_key hp)
  have hz : ∀ W : World, (zeroValue 68).run Tryd.prog W = .ok (lnV ⟨⟨#[]⟩, 0, 0, 0, 0, ⟨#[]⟩⟩) W := lnZero
  have key : ∃ r, ∀ W : World, W.heap[mb]? = some (.map es clock) → (Instr.lookup 53 (.map (some mb)) (.string p) true).run Tryd.prog W = .ok r W := by
    cases a with
    | none => exact ⟨_, fun W hW => by simp [Instr.lookup, run_underlying Tryd.underlying53, MapKept.run_getObj_map hW, hck, hf, hz, Result.andThen]; rfl⟩
    | some jv => exact ⟨_, fun W hW => by simp [Instr.lookup, run_underlying Tryd.underlying53, MapKept.run_getObj_map hW, hck, hf, Result.andThen]; rfl⟩
  obtain ⟨r, hr⟩ := key
  have e1 := (hr w hb).symm.trans hrun
  injection e1 with e1
  exact e1 ▸ hr w' (hw.trans hb)
theorem hasP_iff (S : List Ln) (q : ByteArray) : S.any (fun y => eqP q y.path) = true ↔ q ∈ paths S := by
  rw [List.any_eq_true]
  constructor
  · rintro ⟨y, hy, he⟩
    exact List.mem_map.2 ⟨y, hy, (eqP_iff _ _).1 he⟩
  · intro h
    obtain ⟨y, hy, he⟩ := List.mem_map.1 h
    exact ⟨y, hy, (eqP_iff _ _).2 he⟩
open Go.Proofs.YtniboafnkiijcaaDoor.Num in
/-- The lines out of bytes, as many as are told: what is wrong, the place behind, the lines. -/
def rdLines (O : List Int) : Nat → Int → List Ln → Int × (Int × List Ln)
  | 0, a, S => (0, (a, S))
  | q + 1, a, S => if (rdLine O a).2.2 = 0 then (if S.any (fun y => eqP (rdLine O a).1.path y.path) = true then (11, ((rdLine O a).2.1, S)) else rdLines O q (rdLine O a).2.1 (S ++ [(rdLine O a).1])) else ((rdLine O a).2.2, ((rdLine O a).2.1, S))
open Go.Proofs.YtniboafnkiijcaaDoor.Num in
/-- The ledger out of bytes that were sealed: what is wrong, and the lines. -/
def rdTop (O : List Int) (room : Int) : Int × List Ln :=
  if (getS O 0).2.2 ≠ 0 then ((getS O 0).2.2, []) else if (getS O 0).1 > room then (7, []) else
    if (rdLines O (getS O 0).1.toNat (getS O 0).2.1 []).1 ≠ 0 then ((rdLines O (getS O 0).1.toNat (getS O 0).2.1 []).1, [])
    else if (rdLines O (getS O 0).1.toNat (getS O 0).2.1 []).2.1 < (O.length : Int) then (5, []) else (0, (rdLines O (getS O 0).1.toNat (getS O 0).2.1 []).2.2)
theorem rdLine_path {O : List Int} {a0 : Int} : (rdLine O a0).1.path = (rdA O a0).1 := by
  unfold rdLine
  split <;> rfl
theorem rdLine_may {O : List Int} {a0 : Int} (h : (rdLine O a0).2.2 = 0) : mayF (rdLine O a0).1 = 0 := by
  unfold rdLine at h ⊢
  split
  · rename_i h1
    rw [if_pos h1] at h
    exact h
  · rename_i h1
    rw [if_neg h1] at h
    exact absurd h h1
def finR (m : Nat) (r : Int × (Int × List Ln)) : Int × List Ln := if r.1 ≠ 0 then (r.1, []) else if r.2.1 < (m : Int) then (5, []) else (0, r.2.2)
open Go.Proofs.YtniboafnkiijcaaDoor.Num in
theorem rdTop_fin {O : List Int} {room : Int} (h : (getS O 0).2.2 = 0) (h2 : ¬ (getS O 0).1 > room) : rdTop O room = finR O.length (rdLines O (getS O 0).1.toNat (getS O 0).2.1 []) := by
  unfold rdTop finR
  rw [if_neg (by rw [h]; decide), if_neg h2]
/-- Bytes that stay as they are, whatever blocks of X change. -/
structure Src (X : Nat → Prop) (A : Option Addr) (m : Nat) (O : List Int) (w : World) : Prop where
  hC : ∀ w' : World, (∀ k, k < w.heap.size → ¬ X k → w'.heap[k]? = w.heap[k]?) → Kd.C (Kd.int .u8) w' A m O
theorem Src.now {X : Nat → Prop} {A : Option Addr} {m : Nat} {O : List Int} {w : World} (h : Src X A m O w) : Kd.C (Kd.int .u8) w A m O := h.hC w (fun _ _ _ => rfl)
theorem Src.step {X : Nat → Prop} {A : Option Addr} {m : Nat} {O : List Int} {w w1 : World} (h : Src X A m O w) (hs : w.heap.size ≤ w1.heap.size) (hb : ∀ k, k < w.heap.size → ¬ X k → w1.heap[k]? = w.heap[k]?) : Src X A m O w1 :=
  ⟨fun w' h' => h.hC w' (fun k hk hx => (h' k (Nat.lt_of_lt_of_le hk hs) hx).trans (hb k hk hx))⟩
theorem Src.below {X : Nat → Prop} {A : Option Addr} {m : Nat} {O : List Int} {w w1 : World} (h : Src X A m O w) (hb : Below w.heap.size w w1) : Src X A m O w1 := h.step hb.size (fun k hk _ => hb.block k hk)
theorem Src.bm {X : Nat → Prop} {A : Option Addr} {m : Nat} {O : List Int} {w w1 : World} {p q : Nat} (h : Src X A m O w) (hb : Bm p q w w1) (hp : X p) (hq : X q) : Src X A m O w1 :=
  h.step hb.size (fun k hk hx => hb.block k hk (fun e => hx (e ▸ hp)) (fun e => hx (e ▸ hq)))
theorem Src.set {X : Nat → Prop} {A : Option Addr} {m : Nat} {O : List Int} {w : World} {g : Nat} (h : Src X A m O w) (hg : X g) (i : Nat) (u : Value) : Src X A m O (w.setCell ⟨g, i, none⟩ u) :=
  h.step (by simp [World.setCell]) (fun k _ hx => Below.heap_setCell w ⟨g, i, none⟩ u k (fun e => hx (by rw [e]; exact hg)))
theorem Src.of {X : Nat → Prop} {b0 : Nat} {A : Option Addr} {m c : Nat} {O : List Int} {w : World} (h : Kd.R (Kd.int .u8) 5 w b0 (fun _ => True) (.slice A m c) O) (hm : O.length = m) (hX : ∀ k cells, X k → k < w.heap.size → w.heap[k]? ≠ some (.cells cells 5 (0, 0))) : Src X A m O w := by
  refine ⟨fun w' h' => ?_⟩
  have hE : (Kd.int .u8).E = [] := by rfl
  have h2 := Kd.R_step (w1 := w') (Kd.R_bound h) (fun k hk hlt => h' k hlt (fun hx => by
    obtain ⟨_, _, _, z, hz, cells, hc⟩ := hk
    rw [hE] at hz
    rw [List.mem_singleton.1 hz] at hc
    exact hX k cells hx hlt hc))
  have h3 := (Kd.R_reads' h2).2.2
  rw [hm] at h3
  exact h3
theorem Lg.bm1 {b0 p mb n q ty : Nat} {room : Int} {v : Value} {S : List Ln} {w w' : World} {cs : Array Value} (h : Lg b0 p mb n room v S w) (hb : Bm q q w w') (hq : w.heap[q]? = some (.cells cs ty (0, 0))) (ht : ty ≠ 57 ∧ ty ≠ 9) : Lg b0 p mb n room v S w' := by
  have hp : p ≠ q := fun e => by
    have h1 := h.hP
    rw [e, hq] at h1
    injection h1 with h1
    injection h1 with _ h1
    exact ht.1 h1
  have hm : mb ≠ q := fun e => by
    obtain ⟨D, hown, _⟩ := h.hM
    obtain ⟨es, c, hmb, _⟩ := hown
    rw [e, hq] at hmb
    cases hmb
  refine ⟨(hb.block p (blk_lt h.hP) hp hp).trans h.hP, h.hM.kept (row := some q) ⟨hb.os, hb.tape, hb.output, hb.size, fun i hi hne => hb.block i hi (fun e => hne (by rw [e])) (fun e => hne (by rw [e]))⟩ (fun e => hm (Option.some.inj e)), ?_, h.hN, h.hz, h.hne, h.hp0, h.hm0, h.hl⟩
  have hE : Kd.string.E = [] := by rfl
  have h2 := Kd.R_types h.hR hq (fun z hz => by rw [hE] at hz; rw [List.mem_singleton.1 hz]; exact Ne.symm ht.2)
  exact Kd.R_mono (Kd.R_step h2 (fun k hk hlt => hb.block k hlt hk.2 hk.2)) (fun k hk => hk.1)
theorem lastS_new {x : Ln} {S : List Ln} (h : x.path ∉ paths S) : lastS x S = S ++ [x] := by
  unfold lastS outS
  rw [List.filter_eq_self.2]
  intro y hy
  have : eqP x.path y.path = false := by
    cases he : eqP x.path y.path with
    | false => rfl
    | true => exact absurd (List.mem_map.2 ⟨y, hy, (eqP_iff _ _).1 he⟩) h
  rw [this]; rfl
def ReadPost (w : World) (room : Int) (r : Int × List Ln) (e : Ending) (w' : World) : Prop :=
  Below w.heap.size w w' ∧ ((r.1 ≠ 0 ∧ e = .returned (.tuple #[.pointer none, .int .i64 r.1])) ∨
    (r.1 = 0 ∧ ∃ p mb n v, e = .returned (.tuple #[.pointer (some ⟨p, 0, none⟩), .int .i64 0]) ∧ Lg w.heap.size p mb n room v r.2 w' ∧ n ≤ 5000 ∧ (r.2.length : Int) ≤ room ∧ ∀ x ∈ r.2, mayF x = 0))
set_option maxHeartbeats 32000000 in
set_option maxRecDepth 100000 in
open Go.Proofs.YtniboafnkiijcaaDoor.Num in
theorem led_Read.at_ (A0 : Option Addr) (c0 : Nat) (l O : List Int) (room : Int) (w : World) (hG : GT w) (hr : Kd.C (Kd.int .u8) w A0 l.length l) (hc0 : l.length ≤ c0) (ho : crc_Open.f l = some (O, 0)) (h : (decide (room < 1) || decide (room > 4096)) = false) (hb : Byt O) (hmx : O.length ≤ 1000000)
    (hH1 : ∀ A c, O.length ≤ c → GetHyp 40 (getS O) A O.length c O) (hH2 : ∀ A c, O.length ≤ c → GetHyp 65 (getIntS O) A O.length c O) (hH3 : ∀ A c, O.length ≤ c → TextHyp 64 A O.length c O) :
    Calls Tryd.prog 21 #[.slice A0 l.length c0, .int .i64 room] w (ReadPost w room (rdTop O room)) := by
  have HRoom : Aside0 (1 ≤ room ∧ room ≤ 4096) := ⟨by
    obtain ⟨h1, h2⟩ := Bool.or_eq_false_iff.1 h
    have h1 := of_decide_eq_false h1
    have h2 := of_decide_eq_false h2
    omega⟩
  have HN := Aside0.mk (led_New.at_ room w h)
  have HO := Aside0.mk (fun (w1 : World) (hg : GT w1) (hC : Kd.C (Kd.int .u8) w1 A0 l.length l) => crc_Open.calls A0 c0 l O 0 w1 hg hC hc0 ho)
  have HG := Aside0.mk hG
  have HC := Aside0.mk hr
  have HBY := Aside0.mk hb
  have HMX := Aside0.mk hmx
  have HH1 := Aside0.mk hH1
  have HH2 := Aside0.mk hH2
  have HH3 := Aside0.mk hH3
  clear h hG hr hc0 ho hb hmx hH1 hH2 hH3
  go_enter Tryd.func21, Tryd.ntmps21
  go_wp2_with fail
  refine HN.out.mono ?_
  rintro e w1 ⟨p, mb, rfl, hL, hB⟩
  have HB1 := Aside0.mk hB
  have HL1 := Aside0.mk hL
  clear hL hB HN
  go_wp2_with fail
  refine (HO.out w1 (HG.out.below HB1.out) (Kd.C_below HC.out HB1.out)).mono ?_
  rintro e w2 ⟨v, rfl, hR, hb⟩
  have HB2 := Aside0.mk (ld_step HB1.out hb)
  have HL2 := Aside0.mk (HL1.out.below hb)
  obtain ⟨A, c, rfl⟩ := Kd.R_slice hR
  obtain ⟨hcl, -⟩ := (Kd.R_reads' hR).2
  obtain ⟨m, hm⟩ : ∃ m, O.length = m := ⟨_, rfl⟩
  rw [hm] at hR hcl ⊢
  have HM := Aside0.mk (And.intro hm hcl)
  have H1 := Aside0.mk (HH1.out A c (by rw [hm]; exact hcl))
  have H2 := Aside0.mk (HH2.out A c (by rw [hm]; exact hcl))
  have H3 := Aside0.mk (HH3.out A c (by rw [hm]; exact hcl))
  rw [hm] at H1 H2 H3
  obtain ⟨pr, hpr⟩ : ∃ z, w2.heap.size = z := ⟨_, rfl⟩
  obtain ⟨w3, hw3⟩ : ∃ z, w2.alloc (.cells #[.slice A m c, .int .i64 0, .int .i64 0] 78) = z := ⟨_, rfl⟩
  have HB23 : Below w2.heap.size w2 w3 := by rw [← hw3]; exact below_alloc (Below.refl _ _) _
  have HP3 : Aside0 (w3.heap[pr]? = some (.cells #[.slice A m c, .int .i64 0, .int .i64 0] 78 (0, 0))) := ⟨by rw [← hw3, ← hpr]; exact blk_new w2 _⟩
  have HL3 := Aside0.mk (HL2.out.below HB23)
  have HB3 := Aside0.mk (ld_step HB2.out HB23)
  have HNE : Aside0 (pr ≠ p ∧ pr ≠ mb ∧ w.heap.size ≤ pr ∧ w.heap.size ≤ p ∧ w.heap.size ≤ mb) := ⟨by have h1 := blk_lt HL2.out.hP; have h2 := HL2.out.hM.lt; have h3 := HB2.out.size; exact ⟨by omega, by omega, by omega, HL2.out.hp0, HL2.out.hm0⟩⟩
  have HS3 : Aside0 (Src (fun k => k = pr ∨ k = p ∨ k = mb) A m O w3) := ⟨by
    refine (Src.of (X := fun k => k = pr ∨ k = p ∨ k = mb) hR hm ?_).below HB23
    rintro k cells (rfl | rfl | rfl) hk hc
    · omega
    · rw [HL2.out.hP] at hc
      injection hc with hc
      injection hc with _ hc
      exact absurd hc (by decide)
    · obtain ⟨D, hown, _⟩ := HL2.out.hM
      obtain ⟨es, cc, hmb, _⟩ := hown
      rw [hmb] at hc
      cases hc⟩
  obtain ⟨b1, hb1⟩ : ∃ z, w.heap.size = z := ⟨_, rfl⟩
  have HB1E := Aside0.mk hb1
  rw [hb1] at HL3
  clear hR hb hcl hm HB23 HL1 HL2 HB1 HB2 HO hb1
  go_wp2_with fail
  refine (rd_num.get (getS O) A m c O pr 0 0 w3 H1.out HS3.out.now HP3.out).mono ?_
  rintro e w4 ⟨rfl, hP4, hB4⟩
  have HL4 : Aside0 (Lg b1 p mb 0 room (.slice none 0 0) [] w4) := ⟨HL3.out.bm1 hB4 HP3.out (by decide)⟩
  have HS4 := Aside0.mk (HS3.out.bm hB4 (.inl rfl) (.inl rfl))
  have HB4 := Aside0.mk (Bm.to hB4 HB3.out (Nat.le_refl _) HNE.out.2.2.1 HNE.out.2.2.1)
  have hs0 : stepG (getS O) (0, 0) = ((getS O 0).1, (getS O 0).2) := rfl
  rw [hs0] at hP4 ⊢
  dsimp only at hP4 ⊢
  have HP4 := Aside0.mk hP4
  clear hP4 hB4 hs0 HL3 HS3 HB3 HP3 hw3 hpr
  obtain ⟨N, hN⟩ : ∃ N : Nat, (getS O 0).1 = (N : Int) := by
    rcases getS_range O 0 HBY.out with ⟨_, h⟩ | ⟨_, x, hx, _⟩
    · exact ⟨0, by rw [h]; rfl⟩
    · exact ⟨x, hx⟩
  obtain ⟨a1, ha1⟩ : ∃ z, (getS O 0).2.1 = z := ⟨_, rfl⟩
  obtain ⟨e1, he1⟩ : ∃ z, (getS O 0).2.2 = z := ⟨_, rfl⟩
  rw [ha1, he1] at HP4
  rw [hN]
  obtain ⟨RT, hRT⟩ : ∃ z, rdTop O room = z := ⟨_, rfl⟩
  have HRT := Aside0.mk hRT
  have HT0 : Aside0 (e1 ≠ 0 → RT = (e1, [])) := ⟨fun h => by rw [← hRT]; unfold rdTop; rw [he1, if_pos h]⟩
  have HT7 : Aside0 (e1 = 0 → (N : Int) > room → RT = (7, [])) := ⟨fun h h2 => by rw [← hRT]; unfold rdTop; rw [he1, if_neg (by rw [h]; decide), hN, if_pos h2]⟩
  have HTF : Aside0 (e1 = 0 → ¬ (N : Int) > room → RT = finR m (rdLines O N a1 [])) := ⟨fun h h2 => by rw [← hRT, rdTop_fin (by rw [he1]; exact h) (by rw [hN]; exact h2), HM.out.1, hN, ha1, Int.toNat_natCast]⟩
  clear ha1 he1 hN hRT
  obtain ⟨p0, p1, p2⟩ := rd_cells HP4.out
  go_upto_region 9 with (fail)
  obtain ⟨bb, hbb⟩ : ∃ bb, (e1 == 0 && decide ((N : Int) > room)) = bb := ⟨_, rfl⟩
  go_cut [44] (fun s44 wx => s44 = .bool bb ∧ wx = w4)
  case first =>
    subst hbb
    by_cases h1 : e1 = 0
    · have k1 : (e1 == 0) = true := beq_iff_eq.mpr h1
      clear h1 HT0 HT7 HTF
      go_wp2_with fail
      go_meet
      exact ⟨by rw [k1]; first | rfl | simp, rfl⟩
    · have k1 : (e1 == 0) = false := beq_eq_false_iff_ne.mpr h1
      clear h1 HT0 HT7 HTF
      go_wp2_with fail
      go_meet
      exact ⟨by rw [k1]; first | rfl | simp, rfl⟩
  obtain ⟨rfl, hwc⟩ := hcut
  subst hwc
  have HBB := Aside0.mk hbb
  clear hbb
  go_upto_if 44 with (fail)
  go_cut [44] (fun s44 wx => ∃ e5 : Int, Aside0 ((e5 = 0 → (N : Int) ≤ room ∧ RT = finR m (rdLines O N a1 [])) ∧ (e5 ≠ 0 → RT = (e5, []))) ∧ Aside0 (Lg b1 p mb 0 room (.slice none 0 0) [] wx) ∧ Aside0 (wx.heap[pr]? = some (.cells #[.slice A m c, .int .i64 a1, .int .i64 e5] 78 (0, 0))) ∧ Aside0 (Src (fun k => k = pr ∨ k = p ∨ k = mb) A m O wx) ∧ Aside0 (Below w.heap.size w wx))
  case first =>
    cases bb with
    | true =>
      have hb2 := Bool.and_eq_true_iff.1 HBB.out
      have h1 : e1 = 0 := beq_iff_eq.1 hb2.1
      have h2 : (N : Int) > room := of_decide_eq_true hb2.2
      have HE : Aside0 (((7 : Int) = 0 → (N : Int) ≤ room ∧ RT = finR m (rdLines O N a1 [])) ∧ ((7 : Int) ≠ 0 → RT = (7, []))) := ⟨⟨fun h => absurd h (by decide), fun h => HT7.out h1 h2⟩⟩
      have qf := blk_frozen HP4.out 2
      obtain ⟨w5, hw5⟩ : ∃ z, wc.setCell ⟨pr, 2, none⟩ (.int .i64 7) = z := ⟨_, rfl⟩
      have HP5 : Aside0 (w5.heap[pr]? = some (.cells #[.slice A m c, .int .i64 a1, .int .i64 7] 78 (0, 0))) := ⟨by rw [← hw5]; exact blk_set HP4.out 2 _⟩
      have HBm5 : Bm pr pr wc w5 := by rw [← hw5]; exact (Bm.refl _ _ _).setCell 2 _
      have HL5 : Aside0 (Lg b1 p mb 0 room (.slice none 0 0) [] w5) := ⟨HL4.out.bm1 HBm5 HP4.out (by decide)⟩
      have HS5 := Aside0.mk (HS4.out.bm HBm5 (.inl rfl) (.inl rfl))
      have HB5 := Aside0.mk (Bm.to HBm5 HB4.out (Nat.le_refl _) HNE.out.2.2.1 HNE.out.2.2.1)
      have HW5 := Aside0.mk hw5
      clear h1 h2 hb2 HT0 HT7 HTF hw5 HBm5
      go_wp2_with fail
      rw [HW5.out]
      go_meet
      exact ⟨7, HE, HL5, HP5, HS5, HB5⟩
    | false =>
      have HE : Aside0 ((e1 = 0 → (N : Int) ≤ room ∧ RT = finR m (rdLines O N a1 [])) ∧ (e1 ≠ 0 → RT = (e1, []))) := ⟨⟨fun h => by
        have h2 : ¬ (N : Int) > room := fun h2 => by
          have := HBB.out
          rw [h, decide_eq_true h2] at this
          cases this
        exact ⟨by omega, HTF.out h h2⟩, fun h => HT0.out h⟩⟩
      clear HT0 HT7 HTF p0 p1 p2
      go_wp2_with fail
      go_meet
      exact ⟨e1, HE, HL4, HP4, HS4, HB4⟩
  case rest =>
    obtain ⟨e5, HE, HL5, HP5, HS5, HB5⟩ := hcut
    clear p0 p1 p2 HL4 HS4 HB4 HP4 HBB HT0 HT7 HTF
    go_wp2
    go_loopg [10, 11, 12, 13] N (fun g v10 v11 v12 v13 w' => ∃ (i n : Nat) (a e : Int) (v : Value) (S : List Ln), g = N - i ∧ v10 = .int .i64 i ∧ Aside0 (i ≤ N ∧ n ≤ i ∧ S.length ≤ i ∧ ∀ x ∈ S, mayF x = 0) ∧ Aside0 ((e = 0 → (N : Int) ≤ room ∧ RT = finR m (rdLines O (N - i) a S)) ∧ (e ≠ 0 → RT = (e, []))) ∧ Aside0 (Lg b1 p mb n room v S w') ∧ Aside0 (w'.heap[pr]? = some (.cells #[.slice A m c, .int .i64 a, .int .i64 e] 78 (0, 0))) ∧ Aside0 (Src (fun k => k = pr ∨ k = p ∨ k = mb) A m O w') ∧ Aside0 (Below w.heap.size w w'))
    case atStart => exact ⟨0, 0, a1, e5, _, [], rfl, rfl, ⟨Nat.zero_le _, Nat.le_refl _, Nat.zero_le _, fun x hx => by cases hx⟩, HE, HL5, HP5, HS5, HB5⟩
    case round =>
      clear HE HL5 HP5 HS5 HB5
      obtain ⟨i, n, a, e, v, S, rfl, rfl, HI, HE, HL, HP, HS, HB⟩ := hrel
      obtain ⟨p0, p1, p2⟩ := rd_cells HP.out
      by_cases h0 : e = 0
      rotate_left
      · have k1 : (e == 0) = false := beq_eq_false_iff_ne.mpr h0
        have k1' : (e != 0) = true := bne_iff_ne.mpr h0
        have HR : Aside0 (RT = (e, [])) := ⟨HE.out.2 h0⟩
        have H0 := Aside0.mk h0
        clear h0 HE
        by_cases c1 : i < N
        · have e1_ : decide ((i : Int) < (N : Int)) = true := decide_eq_true (by omega)
          have e1' : decide (i < N) = true := decide_eq_true c1
          clear c1
          go_wp2
          repeat (go_quiet (fail); try go_wp2)
          go_ret2
          rw [HRT.out]
          refine ⟨by repeat (first | exact HB.out | apply pw_below_drewN | apply below_drew), .inl ⟨by rw [HR.out]; exact H0.out, by rw [HR.out]; rfl⟩⟩
        · have e1_ : decide ((i : Int) < (N : Int)) = false := decide_eq_false (by omega)
          have e1' : decide (i < N) = false := decide_eq_false c1
          clear c1
          go_wp2
          repeat (go_quiet (fail); try go_wp2)
          go_ret2
          rw [HRT.out]
          refine ⟨by repeat (first | exact HB.out | apply pw_below_drewN | apply below_drew), .inl ⟨by rw [HR.out]; exact H0.out, by rw [HR.out]; rfl⟩⟩
      have k1 : (e == 0) = true := beq_iff_eq.mpr h0
      have k1' : (e != 0) = false := bne_eq_false_iff_eq.mpr h0
      have HRr := Aside0.mk (HE.out.1 h0)
      have H0 := Aside0.mk h0
      clear h0 HE
      by_cases c1 : i < N
      rotate_left
      · have e1_ : decide ((i : Int) < (N : Int)) = false := decide_eq_false (by omega)
        have e1' : decide (i < N) = false := decide_eq_false c1
        have hN0 : N - i = 0 := by omega
        have hRr := HRr.out.2
        rw [hN0, rdLines] at hRr
        by_cases c2 : a < (m : Int)
        · have e2_ : decide (a < (m : Int)) = true := decide_eq_true c2
          have HR : Aside0 (RT = (5, [])) := ⟨by rw [hRr]; unfold finR; rw [if_neg (fun h => h rfl), if_pos c2]⟩
          have qf := blk_frozen HP.out 2
          have hk5 : ((5 : Int) != 0) = true := rfl
          have hk5' : ((5 : Int) == 0) = false := rfl
          have HB5 := Aside0.mk (HB.out.setCell (p := ⟨pr, 2, none⟩) HNE.out.2.2.1 (.int .i64 5))
          clear c1 c2 hRr hN0
          go_wp2
          repeat (go_quiet (fail); try go_wp2)
          go_ret2
          rw [HRT.out]
          refine ⟨by repeat (first | exact HB5.out | apply pw_below_drewN | apply below_drew), .inl ⟨by rw [HR.out]; decide, by rw [HR.out]; rfl⟩⟩
        · have e2_ : decide (a < (m : Int)) = false := decide_eq_false c2
          have HR : Aside0 (RT = (0, S)) := ⟨by rw [hRr]; unfold finR; rw [if_neg (fun h => h rfl), if_neg c2]⟩
          clear c1 c2 hRr hN0
          go_wp2
          go_ret2
          rw [HRT.out]
          refine ⟨HB.out, .inr ⟨by rw [HR.out], p, mb, n, v, rfl, ?_, by have := HI.out; have := HRr.out; have := HRoom.out; omega, by rw [HR.out]; have := HI.out; have := HRr.out; show (S.length : Int) ≤ room; omega, by rw [HR.out]; exact HI.out.2.2.2⟩⟩
          rw [HR.out, HB1E.out]
          exact HL.out
      obtain rfl := H0.out
      have e1_ : decide ((i : Int) < (N : Int)) = true := decide_eq_true (by omega)
      have e1' : decide (i < N) = true := decide_eq_true c1
      have hadd : wrap64 ((i : Int) + 1) = ((i + 1 : Nat) : Int) := by have := HRr.out.1; have := HRoom.out; unfold wrap64; omega
      have hLn := rd_line.at_ A m c O pr a wr HBY.out HM.out.1 HM.out.2 (by have := HM.out.1; have := HMX.out; omega) H1.out H2.out H3.out (fun w' hb => (HS.out.bm hb (.inl rfl) (.inl rfl)).now) HP.out
      have hpz : (rdLine O a).1.path.size ≤ 200 := by rw [rdLine_path]; exact rdA_size HBY.out a
      have hmy := rdLine_may (O := O) (a0 := a)
      have hst : rdLines O (N - i) a S = if (rdLine O a).2.2 = 0 then (if S.any (fun y => eqP (rdLine O a).1.path y.path) = true then (11, ((rdLine O a).2.1, S)) else rdLines O (N - (i + 1)) (rdLine O a).2.1 (S ++ [(rdLine O a).1])) else ((rdLine O a).2.2, ((rdLine O a).2.1, S)) := by
        obtain ⟨q, hq⟩ : ∃ q, N - i = q + 1 := ⟨N - i - 1, by omega⟩
        rw [hq, rdLines, show N - (i + 1) = q by omega]
      obtain ⟨x, hx⟩ : ∃ z, (rdLine O a).1 = z := ⟨_, rfl⟩
      obtain ⟨a2, ha2⟩ : ∃ z, (rdLine O a).2.1 = z := ⟨_, rfl⟩
      obtain ⟨e2, he2⟩ : ∃ z, (rdLine O a).2.2 = z := ⟨_, rfl⟩
      rw [hx, ha2, he2] at hLn hst
      rw [hx] at hpz hmy
      rw [he2] at hmy
      have HST := Aside0.mk hst
      have HPZ := Aside0.mk hpz
      have HMY := Aside0.mk hmy
      have HLN := Aside0.mk hLn
      have C1 := Aside0.mk c1
      unfold lnV at HLN
      clear hx ha2 he2 hst hpz hmy hLn c1
      go_wp2_with fail
      refine HLN.out.mono ?_
      rintro e u5 ⟨rfl, hP5, hB5⟩
      have HL5 : Aside0 (Lg b1 p mb n room v S u5) := ⟨HL.out.bm1 hB5 HP.out (by decide)⟩
      have HS5 := Aside0.mk (HS.out.bm hB5 (.inl rfl) (.inl rfl))
      have HB5 := Aside0.mk (Bm.to hB5 HB.out (Nat.le_refl _) HNE.out.2.2.1 HNE.out.2.2.1)
      have HP5 := Aside0.mk hP5
      clear hP5 hB5 p0 p1 p2 HL HS HB HP HLN
      obtain ⟨gx, hgx⟩ : ∃ z, u5.heap.size = z := ⟨_, rfl⟩
      obtain ⟨w6, hw6⟩ : ∃ z, u5.alloc (.cells #[.string x.path, .int .i64 x.ino, .int .i64 x.size, .int .i64 x.sec, .int .i64 x.nano, .string x.sum] 68) = z := ⟨_, rfl⟩
      have hb6 : Below u5.heap.size u5 w6 := by rw [← hw6]; exact below_alloc (Below.refl _ _) _
      have HX6 : Aside0 (w6.heap[gx]? = some (.cells #[.string x.path, .int .i64 x.ino, .int .i64 x.size, .int .i64 x.sec, .int .i64 x.nano, .string x.sum] 68 (0, 0))) := ⟨by rw [← hw6, ← hgx]; exact blk_new u5 _⟩
      have HL6 := Aside0.mk (HL5.out.below hb6)
      have HS6 := Aside0.mk (HS5.out.below hb6)
      have HB6 := Aside0.mk (ld_step HB5.out hb6)
      have HP6 := Aside0.mk (blk_below HP5.out hb6)
      have HGX : Aside0 (gx ≠ p ∧ gx ≠ mb ∧ gx ≠ pr ∧ gx < w6.heap.size) := ⟨by have h1 := blk_lt HL5.out.hP; have h2 := HL5.out.hM.lt; have h3 := blk_lt HP5.out; have h4 := blk_lt HX6.out; exact ⟨by omega, by omega, by omega, h4⟩⟩
      obtain ⟨z, b, hlk, hbm, -⟩ := HL6.out.hM.lookAll x.path (by have := HPZ.out; unfold maxLen; omega)
      unfold lnV at hlk
      have HLK := Aside0.mk hlk
      have hbb : b = S.any (fun y => eqP x.path y.path) := by
        rw [Bool.eq_iff_iff, hbm, hasP_iff]
      rw [← hbb] at HST
      have HBM := Aside0.mk hbm
      clear hb6 hlk hbm hbb HL5 HS5 HB5 HP5
      go_wp2_with fail
      have HLd := HLK.out w6.drew rfl
      refine start_ (n := 14) (S := fun w' => w'.cell? ⟨p, 2, none⟩ = some (.map (some mb)) ∧ w'.cell? ⟨gx, 0, none⟩ = some (.string x.path) ∧ (Instr.lookup 53 (.map (some mb)) (.string x.path) true).run Tryd.prog w' = .ok (.tuple #[.agg #[.string z.path, .int .i64 z.ino, .int .i64 z.size, .int .i64 z.sec, .int .i64 z.nano, .string z.sum], .bool b]) w') (ds := [12]) #[F_,F_,F_,F_,F_,F_,F_,F_,F_,F_,F_,F_,F_,F_] (by kernel_rfl) rfl rfl ⟨(rw_cells (w := w6.drew) HL6.out.hP).2.2, (lnz_cells (w := w6.drew) HX6.out).1, HLd⟩ (fun hHeld => ?_)
      refine pure_ (i := 0) (N := some 63) (v := ?_) (a' := ?_) #[T_,F_,F_,F_,F_,F_,F_,F_,F_,F_,F_,F_,F_,F_] rfl rfl (by kernel_rfl) (fun _ _ _ h => h) (Or.inl ⟨by rfl, ?_⟩) ?_ ?_
      rotate_left
      · intro w'
        go_simp
        with_reducible rfl
      rotate_left
      · simp only [Act.put, List.setIfInBounds_toArray, List.set_cons_zero, List.set_cons_succ, i64_w, i32_w]
        rfl
      refine pure_ (i := 1) (N := some 64) (v := ?_) (a' := ?_) #[T_,T_,F_,F_,F_,F_,F_,F_,F_,F_,F_,F_,F_,F_] rfl rfl (by kernel_rfl) (fun _ _ _ h => h) (Or.inl ⟨by rfl, ?_⟩) ?_ ?_
      rotate_left
      · intro w'
        go_simp
        with_reducible rfl
      rotate_left
      · simp only [Act.put, List.setIfInBounds_toArray, List.set_cons_zero, List.set_cons_succ, i64_w, i32_w]
        rfl
      refine pure_ (i := 2) (N := some 65) (v := ?_) (a' := ?_) #[T_,T_,T_,F_,F_,F_,F_,F_,F_,F_,F_,F_,F_,F_] rfl rfl (by kernel_rfl) (fun _ _ _ h => h) (Or.inl ⟨by rfl, ?_⟩) ?_ ?_
      rotate_left
      · intro w'
        go_simp
        with_reducible rfl
      rotate_left
      · simp only [Act.put, List.setIfInBounds_toArray, List.set_cons_zero, List.set_cons_succ, i64_w, i32_w]
        rfl
      refine pure_ (i := 3) (N := some 66) (v := ?_) (a' := ?_) #[T_,T_,T_,T_,F_,F_,F_,F_,F_,F_,F_,F_,F_,F_] rfl rfl (by kernel_rfl) (fun _ _ _ h => h) (Or.inl ⟨by rfl, ?_⟩) ?_ ?_
      rotate_left
      · intro w'
        go_simp
        with_reducible rfl
      rotate_left
      · simp only [Act.put, List.setIfInBounds_toArray, List.set_cons_zero, List.set_cons_succ, i64_w, i32_w]
        rfl
      refine pure_ (i := 5) (N := some 68) (v := ?_) (a' := ?_) #[T_,T_,T_,T_,F_,T_,F_,F_,F_,F_,F_,F_,F_,F_] rfl rfl (by kernel_rfl) (fun _ _ _ h => h) (Or.inl ⟨by rfl, ?_⟩) ?_ ?_
      rotate_left
      · intro w'
        go_simp
        with_reducible rfl
      rotate_left
      · simp only [Act.put, List.setIfInBounds_toArray, List.set_cons_zero, List.set_cons_succ, i64_w, i32_w]
        rfl
      refine take_ (i := 4) (N := some 67) (v := ?_) (a' := ?_) #[T_,T_,T_,T_,T_,T_,F_,F_,F_,F_,F_,F_,F_,F_] rfl rfl (by kernel_rfl) (fun _ _ _ h => h) (Or.inl ⟨by rfl, ?_⟩) hHeld ?_ ?_
      rotate_left
      · rintro w' ⟨s0, s1, s2⟩
        go_simp
        with_reducible rfl
      rotate_left
      · simp only [Act.put, List.setIfInBounds_toArray, List.set_cons_zero, List.set_cons_succ, i64_w, i32_w]
        rfl
      refine take_ (i := 6) (N := some 69) (v := ?_) (a' := ?_) #[T_,T_,T_,T_,T_,T_,T_,F_,F_,F_,F_,F_,F_,F_] rfl rfl (by kernel_rfl) (fun _ _ _ h => h) (Or.inl ⟨by rfl, ?_⟩) hHeld ?_ ?_
      rotate_left
      · rintro w' ⟨s0, s1, s2⟩
        go_simp
        with_reducible rfl
      rotate_left
      · simp only [Act.put, List.setIfInBounds_toArray, List.set_cons_zero, List.set_cons_succ, i64_w, i32_w]
        rfl
      refine take_ (i := 7) (N := some 70) (v := ?_) (a' := ?_) #[T_,T_,T_,T_,T_,T_,T_,T_,F_,F_,F_,F_,F_,F_] rfl rfl (by kernel_rfl) (fun _ _ _ h => h) (Or.inl ⟨by rfl, ?_⟩) hHeld ?_ ?_
      rotate_left
      · rintro w' ⟨s0, s1, s2⟩
        go_simp
        with_reducible rfl
      rotate_left
      · simp only [Act.put, List.setIfInBounds_toArray, List.set_cons_zero, List.set_cons_succ, i64_w, i32_w]
        rfl
      refine pure_ (i := 8) (N := some 62) (v := ?_) (a' := ?_) #[T_,T_,T_,T_,T_,T_,T_,T_,T_,F_,F_,F_,F_,F_] rfl rfl (by kernel_rfl) (fun _ _ _ h => h) (Or.inl ⟨by rfl, ?_⟩) ?_ ?_
      rotate_left
      · intro w'
        go_simp
        with_reducible rfl
      rotate_left
      · simp only [Act.put, List.setIfInBounds_toArray, List.set_cons_zero, List.set_cons_succ, i64_w, i32_w]
        rfl
      refine pure_ (i := 9) (N := some 71) (v := ?_) (a' := ?_) #[T_,T_,T_,T_,T_,T_,T_,T_,T_,T_,F_,F_,F_,F_] rfl rfl (by kernel_rfl) (fun _ _ _ h => h) (Or.inl ⟨by rfl, ?_⟩) ?_ ?_
      rotate_left
      · intro w'
        go_simp
        with_reducible rfl
      rotate_left
      · simp only [Act.put, List.setIfInBounds_toArray, List.set_cons_zero, List.set_cons_succ, i64_w, i32_w]
        rfl
      refine pure_ (i := 10) (N := some 72) (v := ?_) (a' := ?_) #[T_,T_,T_,T_,T_,T_,T_,T_,T_,T_,T_,F_,F_,F_] rfl rfl (by kernel_rfl) (fun _ _ _ h => h) (Or.inl ⟨by rfl, ?_⟩) ?_ ?_
      rotate_left
      · intro w'
        go_simp
        with_reducible rfl
      rotate_left
      · simp only [Act.put, List.setIfInBounds_toArray, List.set_cons_zero, List.set_cons_succ, i64_w, i32_w]
        rfl
      refine one_ (i := 11) (N := some 12) #[T_,T_,T_,T_,T_,T_,T_,T_,T_,T_,T_,T_,F_,F_] rfl rfl (by kernel_rfl) (by decide) (fun K hK => ?_)
      refine value_ (w1 := w6.drew.alloc (.cells #[.string ⟨#[]⟩, .int .i64 0, .int .i64 0, .int .i64 0, .int .i64 0, .string ⟨#[]⟩] 68)) (v := .pointer (some ⟨w6.heap.size, 0, none⟩)) (by rfl) rfl (by go_simp) ?_
      have HZ7 : Aside0 ((w6.drew.alloc (.cells #[.string ⟨#[]⟩, .int .i64 0, .int .i64 0, .int .i64 0, .int .i64 0, .string ⟨#[]⟩] 68)).heap[w6.heap.size]? = some (.cells #[.string ⟨#[]⟩, .int .i64 0, .int .i64 0, .int .i64 0, .int .i64 0, .string ⟨#[]⟩] 68 (0, 0))) := ⟨blk_new w6.drew (.cells #[.string ⟨#[]⟩, .int .i64 0, .int .i64 0, .int .i64 0, .int .i64 0, .string ⟨#[]⟩] 68)⟩
      have HB7a : Below w6.drew.heap.size w6.drew (w6.drew.alloc (.cells #[.string ⟨#[]⟩, .int .i64 0, .int .i64 0, .int .i64 0, .int .i64 0, .string ⟨#[]⟩] 68)) := below_alloc (Below.refl _ _) _
      have HX7 := Aside0.mk (blk_below (w := w6.drew) HX6.out HB7a)
      have HP7q := Aside0.mk (blk_below (w := w6.drew) HL6.out.hP HB7a)
      have HLd2 := HLK.out (w6.drew.alloc (.cells #[.string ⟨#[]⟩, .int .i64 0, .int .i64 0, .int .i64 0, .int .i64 0, .string ⟨#[]⟩] 68)) (HB7a.block mb HL6.out.hM.lt)
      clear HB7a
      refine hK.out _ _ ⟨(rw_cells HP7q.out).2.2, (lnz_cells HX7.out).1, HLd2⟩ (fun hHeld => ?_)
      clear hK K
      refine norm_ (a' := ?_) ?_ ?_
      rotate_left
      · show Act.put _ (some 12) _ = _
        simp only [Act.put, List.setIfInBounds_toArray, List.set_cons_zero, List.set_cons_succ, i64_w, i32_w]
        rfl
      refine last_ (i := 12) (N := none) #[T_,T_,T_,T_,T_,T_,T_,T_,T_,T_,T_,T_,T_,F_] rfl rfl (by kernel_rfl) (by decide) (fun K hK => ?_)
      obtain ⟨z0, z1, z2, z3, z4, z5⟩ := lnz_cells HZ7.out
      have g0 := blk_frozen HZ7.out 0
      have g1 := blk_frozen HZ7.out 1
      have g2 := blk_frozen HZ7.out 2
      have g3 := blk_frozen HZ7.out 3
      have g4 := blk_frozen HZ7.out 4
      have g5 := blk_frozen HZ7.out 5
      refine skip_ (w1 := ?_) (by rfl) rfl ?_ ?_
      rotate_left
      · go_simp
        rfl
      refine hK.out _ _ ?_
      clear hK K
      refine pure_ (i := 13) (N := some 13) (v := ?_) (a' := ?_) #[T_,T_,T_,T_,T_,T_,T_,T_,T_,T_,T_,T_,T_,T_] rfl rfl (by kernel_rfl) (fun _ _ _ h => h) (Or.inl ⟨by rfl, ?_⟩) ?_ ?_
      rotate_left
      · intro w'
        go_simp
        with_reducible rfl
      rotate_left
      · simp only [Act.put, List.setIfInBounds_toArray, List.set_cons_zero, List.set_cons_succ, i64_w, i32_w]
        rfl
      refine done_ (by kernel_rfl) ?_
      clear hHeld
      obtain ⟨w7, hw7⟩ : ∃ y, (w6.alloc (.cells #[.string z.path, .int .i64 z.ino, .int .i64 z.size, .int .i64 z.sec, .int .i64 z.nano, .string z.sum] 68)).drew = y := ⟨_, rfl⟩
      have hb7 : Below w6.heap.size w6 w7 := by rw [← hw7]; exact below_drew (below_alloc (Below.refl _ _) _)
      rw [hw7]
      have HX7w := Aside0.mk (blk_below HX6.out hb7)
      have HL7 := Aside0.mk (HL6.out.below hb7)
      have HS7 := Aside0.mk (HS6.out.below hb7)
      have HB7 := Aside0.mk (ld_step HB6.out hb7)
      have HP7 := Aside0.mk (blk_below HP6.out hb7)
      clear hb7 hw7 z0 z1 z2 z3 z4 z5 g0 g1 g2 g3 g4 g5 HZ7 HX7 HP7q HLd2 HLd HX6 HL6 HS6 HB6 HP6 HLK
      obtain ⟨p0, p1, p2⟩ := rd_cells HP7.out
      cases hbb : b with
      | true =>
        rw [hbb] at HST
        by_cases h2 : e2 = 0
        · have k2 : (e2 == 0) = true := beq_iff_eq.mpr h2
          have qf := blk_frozen HP7.out 2
          have hs11 := HST.out
          rw [if_pos h2, if_pos rfl] at hs11
          have HE9 : Aside0 (((11 : Int) = 0 → (N : Int) ≤ room ∧ RT = finR m (rdLines O (N - (i + 1)) a2 S)) ∧ ((11 : Int) ≠ 0 → RT = (11, []))) := ⟨⟨fun h => absurd h (by decide), fun _ => by rw [HRr.out.2, hs11]; unfold finR; rw [if_pos (by show (11 : Int) ≠ 0; decide)]⟩⟩
          obtain ⟨w9, hw9⟩ : ∃ z, w7.setCell ⟨pr, 2, none⟩ (.int .i64 11) = z := ⟨_, rfl⟩
          have HP9 : Aside0 (w9.heap[pr]? = some (.cells #[.slice A m c, .int .i64 a2, .int .i64 11] 78 (0, 0))) := ⟨by rw [← hw9]; exact blk_set HP7.out 2 _⟩
          have hB9 : Bm pr pr w7 w9 := by rw [← hw9]; exact (Bm.refl _ _ _).setCell 2 _
          have HL9 : Aside0 (Lg b1 p mb n room v S w9) := ⟨HL7.out.bm1 hB9 HP7.out (by decide)⟩
          have HS9 := Aside0.mk (HS7.out.bm hB9 (.inl rfl) (.inl rfl))
          have HB9 := Aside0.mk (Bm.to hB9 HB7.out (Nat.le_refl _) HNE.out.2.2.1 HNE.out.2.2.1)
          have hk11 : ((11 : Int) == 0) = false := rfl
          have HW9 := Aside0.mk hw9
          clear h2 hs11 hw9 hB9
          go_wp2
          go_roundg (N - (i + 1))
          case measure => have := C1.out; omega
          case rel => rw [HW9.out]; exact ⟨i + 1, n, a2, 11, v, S, rfl, by first | rfl | rw [hadd], ⟨by have := C1.out; have := HI.out; exact ⟨by omega, by omega, by omega, HI.out.2.2.2⟩⟩, HE9, HL9, HP9, HS9, HB9⟩
        · have k2 : (e2 == 0) = false := beq_eq_false_iff_ne.mpr h2
          have hs11 := HST.out
          rw [if_neg h2] at hs11
          have HE9 : Aside0 ((e2 = 0 → (N : Int) ≤ room ∧ RT = finR m (rdLines O (N - (i + 1)) a2 S)) ∧ (e2 ≠ 0 → RT = (e2, []))) := ⟨⟨fun h => absurd h h2, fun _ => by rw [HRr.out.2, hs11]; unfold finR; rw [if_pos h2]⟩⟩
          clear h2 hs11
          go_wp2
          go_roundg (N - (i + 1))
          case measure => have := C1.out; omega
          case rel => exact ⟨i + 1, n, a2, e2, v, S, rfl, by first | rfl | rw [hadd], ⟨by have := C1.out; have := HI.out; exact ⟨by omega, by omega, by omega, HI.out.2.2.2⟩⟩, HE9, HL7, HP7, HS7, HB7⟩
      | false =>
        rw [hbb] at HST HBM
        by_cases h2 : e2 = 0
        rotate_left
        · have k2 : (e2 == 0) = false := beq_eq_false_iff_ne.mpr h2
          have hs11 := HST.out
          rw [if_neg h2] at hs11
          have HE9 : Aside0 ((e2 = 0 → (N : Int) ≤ room ∧ RT = finR m (rdLines O (N - (i + 1)) a2 S)) ∧ (e2 ≠ 0 → RT = (e2, []))) := ⟨⟨fun h => absurd h h2, fun _ => by rw [HRr.out.2, hs11]; unfold finR; rw [if_pos h2]⟩⟩
          clear h2 hs11
          go_wp2
          go_roundg (N - (i + 1))
          case measure => have := C1.out; omega
          case rel => exact ⟨i + 1, n, a2, e2, v, S, rfl, by first | rfl | rw [hadd], ⟨by have := C1.out; have := HI.out; exact ⟨by omega, by omega, by omega, HI.out.2.2.2⟩⟩, HE9, HL7, HP7, HS7, HB7⟩
        subst h2
        have hs11 := HST.out
        rw [if_pos rfl, if_neg (by decide)] at hs11
        have HE9 : Aside0 (((0 : Int) = 0 → (N : Int) ≤ room ∧ RT = finR m (rdLines O (N - (i + 1)) a2 (S ++ [x]))) ∧ ((0 : Int) ≠ 0 → RT = (0, []))) := ⟨⟨fun _ => ⟨HRr.out.1, by rw [HRr.out.2, hs11]⟩, fun h => absurd rfl h⟩⟩
        have HNW : Aside0 (lastS x S = S ++ [x]) := ⟨lastS_new (fun h => by have := HBM.out.2 h; cases this)⟩
        have HLa := Aside0.mk (row_last.at_ b1 p mb n room v S x w7.drew (HL7.out.below (below_drew (Below.refl _ _))) (by have := HPZ.out; omega) (by have := HI.out; have := HRr.out.1; have := HRoom.out; have := C1.out; omega) (by have := HI.out; have := HRr.out.1; have := HRoom.out; have := C1.out; omega))
        rw [HNW.out] at HLa
        unfold lnV at HLa
        clear hs11
        go_wp2_with fail
        refine start_ (n := 7) (S := fun w' => w'.cell? ⟨gx, 0, none⟩ = some (.string x.path) ∧ w'.cell? ⟨gx, 1, none⟩ = some (.int .i64 x.ino) ∧ w'.cell? ⟨gx, 2, none⟩ = some (.int .i64 x.size) ∧ w'.cell? ⟨gx, 3, none⟩ = some (.int .i64 x.sec) ∧ w'.cell? ⟨gx, 4, none⟩ = some (.int .i64 x.nano) ∧ w'.cell? ⟨gx, 5, none⟩ = some (.string x.sum)) (ds := []) #[F_,F_,F_,F_,F_,F_,F_] (by kernel_rfl) rfl rfl ⟨(lnz_cells (w := w7.drew) HX7w.out).1, (lnz_cells (w := w7.drew) HX7w.out).2.1, (lnz_cells (w := w7.drew) HX7w.out).2.2.1, (lnz_cells (w := w7.drew) HX7w.out).2.2.2.1, (lnz_cells (w := w7.drew) HX7w.out).2.2.2.2.1, (lnz_cells (w := w7.drew) HX7w.out).2.2.2.2.2⟩ (fun hHeld => ?_)
        refine pure_ (i := 0) (N := some 89) (v := ?_) (a' := ?_) #[T_,F_,F_,F_,F_,F_,F_] rfl rfl (by kernel_rfl) (fun _ _ _ h => h) (Or.inl ⟨by rfl, ?_⟩) ?_ ?_
        rotate_left
        · intro w'
          go_simp
          with_reducible rfl
        rotate_left
        · simp only [Act.put, List.setIfInBounds_toArray, List.set_cons_zero, List.set_cons_succ, i64_w, i32_w]
          rfl
        refine pure_ (i := 1) (N := some 90) (v := ?_) (a' := ?_) #[T_,T_,F_,F_,F_,F_,F_] rfl rfl (by kernel_rfl) (fun _ _ _ h => h) (Or.inl ⟨by rfl, ?_⟩) ?_ ?_
        rotate_left
        · intro w'
          go_simp
          with_reducible rfl
        rotate_left
        · simp only [Act.put, List.setIfInBounds_toArray, List.set_cons_zero, List.set_cons_succ, i64_w, i32_w]
          rfl
        refine pure_ (i := 2) (N := some 91) (v := ?_) (a' := ?_) #[T_,T_,T_,F_,F_,F_,F_] rfl rfl (by kernel_rfl) (fun _ _ _ h => h) (Or.inl ⟨by rfl, ?_⟩) ?_ ?_
        rotate_left
        · intro w'
          go_simp
          with_reducible rfl
        rotate_left
        · simp only [Act.put, List.setIfInBounds_toArray, List.set_cons_zero, List.set_cons_succ, i64_w, i32_w]
          rfl
        refine pure_ (i := 3) (N := some 92) (v := ?_) (a' := ?_) #[T_,T_,T_,T_,F_,F_,F_] rfl rfl (by kernel_rfl) (fun _ _ _ h => h) (Or.inl ⟨by rfl, ?_⟩) ?_ ?_
        rotate_left
        · intro w'
          go_simp
          with_reducible rfl
        rotate_left
        · simp only [Act.put, List.setIfInBounds_toArray, List.set_cons_zero, List.set_cons_succ, i64_w, i32_w]
          rfl
        refine take_ (i := 4) (N := some 93) (v := ?_) (a' := ?_) #[T_,T_,T_,T_,T_,F_,F_] rfl rfl (by kernel_rfl) (fun _ _ _ h => h) (Or.inl ⟨by rfl, ?_⟩) hHeld ?_ ?_
        rotate_left
        · rintro w' ⟨s0, s1, s2, s3, s4, s5⟩
          go_simp
          with_reducible rfl
        rotate_left
        · simp only [Act.put, List.setIfInBounds_toArray, List.set_cons_zero, List.set_cons_succ, i64_w, i32_w]
          rfl
        refine take_ (i := 5) (N := some 94) (v := ?_) (a' := ?_) #[T_,T_,T_,T_,T_,T_,F_] rfl rfl (by kernel_rfl) (fun _ _ _ h => h) (Or.inl ⟨by rfl, ?_⟩) hHeld ?_ ?_
        rotate_left
        · rintro w' ⟨s0, s1, s2, s3, s4, s5⟩
          go_simp
          with_reducible rfl
        rotate_left
        · simp only [Act.put, List.setIfInBounds_toArray, List.set_cons_zero, List.set_cons_succ, i64_w, i32_w]
          rfl
        refine one_ (i := 6) (N := some 95) #[T_,T_,T_,T_,T_,T_,T_] rfl rfl (by kernel_rfl) (by decide) (fun K hK => ?_)
        refine goes_ Tryd.func42 (by kernel_rfl) rfl #[.pointer (some ⟨p, 1, none⟩), .string x.path, .agg #[.string x.path, .int .i64 x.ino, .int .i64 x.size, .int .i64 x.sec, .int .i64 x.nano, .string x.sum]] (by rfl) rfl rfl (by simp only [List.map_toArray, List.map_cons, List.map_nil]; rfl) ?_
        with_reducible refine (HLa.out).mono ?_
        rintro e w8 ⟨rfl, v8, hL8, hB8, _⟩
        refine ⟨_, rfl, ?_⟩
        have HL8 := Aside0.mk hL8
        have hB8k := Aside0.mk hB8
        have HX8 := Aside0.mk (hB8.blk (w := w7.drew) HX7w.out HGX.out.1 HGX.out.2.1)
        clear hL8 hB8
        refine hK.out _ _ ⟨(lnz_cells HX8.out).1, (lnz_cells HX8.out).2.1, (lnz_cells HX8.out).2.2.1, (lnz_cells HX8.out).2.2.2.1, (lnz_cells HX8.out).2.2.2.2.1, (lnz_cells HX8.out).2.2.2.2.2⟩ (fun hHeld => ?_)
        clear hK K
        refine norm_ (a' := ?_) ?_ ?_
        rotate_left
        · show Act.put _ (some 95) _ = _
          simp only [Act.put, List.setIfInBounds_toArray, List.set_cons_zero, List.set_cons_succ, i64_w, i32_w]
          rfl
        refine done_ (by kernel_rfl) ?_
        clear hHeld HLa
        have HP9 : Aside0 (w8.heap[pr]? = some (.cells #[.slice A m c, .int .i64 a2, .int .i64 0] 78 (0, 0))) := ⟨hB8k.out.blk (w := w7.drew) HP7.out HNE.out.1 HNE.out.2.1⟩
        have HS9 := Aside0.mk ((HS7.out.below (below_drew (Below.refl _ _))).bm hB8k.out (.inr (.inl rfl)) (.inr (.inr rfl)))
        have HB9 := Aside0.mk (Bm.to hB8k.out (below_drew HB7.out) (Nat.le_refl _) HNE.out.2.2.2.1 HNE.out.2.2.2.2)
        go_wp2
        go_roundg (N - (i + 1))
        case measure => have := C1.out; omega
        case rel => exact ⟨i + 1, n + 1, a2, 0, v8, S ++ [x], rfl, by first | rfl | rw [hadd], ⟨by have := C1.out; have := HI.out; exact ⟨by omega, by omega, by simp only [List.length_append, List.length_cons, List.length_nil]; omega, fun y hy => by
          rcases List.mem_append.1 hy with hy | hy
          · exact HI.out.2.2.2 y hy
          · rw [List.mem_singleton.1 hy]; exact HMY.out trivial⟩⟩, ⟨⟨fun _ => HE9.out.1 trivial, HE9.out.2⟩⟩, HL8, HP9, HS9, HB9⟩

/-- A state of type 86 at block g of W; what its slices lead to came in by w0. -/
def IsS86 (w0 W : World) (g : Nat) (f0 : List Int) (f1 : Int) (f2 : Int) : Prop := ∃ A0 c0, W.heap[g]? = some (.cells #[.slice A0 f0.length c0, .int .i64 f1, .int .i64 f2] 86 (0, 0)) ∧ w0.heap.size ≤ g ∧ Kd.C (Kd.int .u8) w0 A0 f0.length f0
theorem IsS86.grown {w0 W : World} {g : Nat} {f0 : List Int} {f1 : Int} {f2 : Int} {W1 : World} {row : Option Nat} (h : IsS86 w0 W g f0 f1 f2) (hw : W.grownBy W1 row) (hne : some g ≠ row) : IsS86 w0 W1 g f0 f1 f2 := by
  obtain ⟨A0, c0, hb, hg, hr0⟩ := h
  exact ⟨A0, c0, blk_grown hb hw hne, hg, hr0⟩
theorem IsS86.kept {w0 W : World} {g : Nat} {f0 : List Int} {f1 : Int} {f2 : Int} {W1 : World} {S : Nat → Prop} (h : IsS86 w0 W g f0 f1 f2) (hk : Kept W W1 S) (hne : ¬ S g) : IsS86 w0 W1 g f0 f1 f2 := by
  obtain ⟨A0, c0, hb, hg, hr0⟩ := h
  exact ⟨A0, c0, blk_kept hb hk hne, hg, hr0⟩
theorem IsS86.below {w0 W : World} {g : Nat} {f0 : List Int} {f1 : Int} {f2 : Int} {W1 : World} (h : IsS86 w0 W g f0 f1 f2) (hw : Below W.heap.size W W1) : IsS86 w0 W1 g f0 f1 f2 := h.grown (grown_of_below hw none) (by simp)
theorem IsS86.alloc {w0 W : World} {g : Nat} {f0 : List Int} {f1 : Int} {f2 : Int} (h : IsS86 w0 W g f0 f1 f2) (o : Obj) : IsS86 w0 (W.alloc o) g f0 f1 f2 := h.below (below_alloc (Below.refl _ _) o)
theorem IsS86.drewN {w0 W : World} {g : Nat} {f0 : List Int} {f1 : Int} {f2 : Int} (h : IsS86 w0 W g f0 f1 f2) (m : Nat) : IsS86 w0 (W.drewN m) g f0 f1 f2 := h
theorem IsS86.drew {w0 W : World} {g : Nat} {f0 : List Int} {f1 : Int} {f2 : Int} (h : IsS86 w0 W g f0 f1 f2) : IsS86 w0 W.drew g f0 f1 f2 := h
theorem IsS86.at_ {w0 W : World} {g : Nat} {f0 : List Int} {f1 : Int} {f2 : Int} {w' : World} {m : Nat} (hq : W.drewN m = w') (h : IsS86 w0 W g f0 f1 f2) : IsS86 w0 w' g f0 f1 f2 := by subst hq; exact IsS86.drewN h m
theorem IsS86.lt {w0 W : World} {g : Nat} {f0 : List Int} {f1 : Int} {f2 : Int} (h : IsS86 w0 W g f0 f1 f2) : g < W.heap.size := by
  obtain ⟨A0, c0, hb, hg, hr0⟩ := h
  exact blk_lt hb
theorem Rl.bm1 {b0 p q ty : Nat} {room : Int} {v : Value} {S : List Ln} {w w' : World} {cs : Array Value} (h : Rl b0 p room v S w) (hb : Bm q q w w') (hq : w.heap[q]? = some (.cells cs ty (0, 0))) (ht : ty ≠ 60 ∧ ty ≠ 71) : Rl b0 p room v S w' := by
  have hp : p ≠ q := fun e => by
    have h1 := h.hP
    rw [e, hq] at h1
    injection h1 with h1
    injection h1 with _ h1
    exact ht.1 h1
  refine ⟨(hb.block p (blk_lt h.hP) hp hp).trans h.hP, ?_, h.hp0, h.hl⟩
  have hE : k71.E = [] := by rfl
  have h2 := Kd.R_types h.hR hq (fun z hz => by rw [hE] at hz; rw [List.mem_singleton.1 hz]; exact Ne.symm ht.2)
  exact Kd.R_mono (Kd.R_step h2 (fun k hk hlt => hb.block k hlt hk.2 hk.2)) (fun k hk => hk.1)
theorem MapOk.at_blk {w w' : World} {mb n : Nat} {S : List Ln} (h : MapOk w mb n S) (hb : w'.heap[mb]? = w.heap[mb]?) : MapOk w' mb n S := by
  obtain ⟨D, ⟨es, c, hmb, hr⟩, h3⟩ := h
  exact ⟨D, ⟨es, c, hb.trans hmb, hr⟩, h3⟩
/-- A ledger under what another one changes. -/
theorem Lg.two {b0 p mb n b1 q mq n1 : Nat} {room room1 : Int} {v v1 : Value} {S S1 : List Ln} {w w' : World} (h : Lg b0 p mb n room v S w) (hb : Bm q mq w w') (hl : Lg b1 q mq n1 room1 v1 S1 w) (h1 : p ≠ q) (h2 : mb ≠ mq) : Lg b0 p mb n room v S w' := by
  obtain ⟨D1, hown1, _⟩ := hl.hM
  obtain ⟨es1, c1, hmq, _⟩ := hown1
  have hpm : p ≠ mq := fun e => by
    rw [← e, h.hP] at hmq
    cases hmq
  have hmq' : mb ≠ q := fun e => by
    obtain ⟨D, hown, _⟩ := h.hM
    obtain ⟨es, c, hmb, _⟩ := hown
    rw [e, hl.hP] at hmb
    cases hmb
  refine ⟨(hb.block p (blk_lt h.hP) h1 hpm).trans h.hP, h.hM.at_blk (hb.block mb h.hM.lt hmq' h2), ?_, h.hN, h.hz, h.hne, h.hp0, h.hm0, h.hl⟩
  have hE : Kd.string.E = [] := by rfl
  have h3 := Kd.R_types h.hR hl.hP (fun z hz => by rw [hE] at hz; rw [List.mem_singleton.1 hz]; decide)
  refine Kd.R_mono (Kd.R_step (Kd.R_bound h3) (fun k hk hlt => hb.block k hlt hk.1.2 (fun e => ?_))) (fun k hk => hk.1.1)
  obtain ⟨_, _, _, z, hz, cells, hc⟩ := hk
  rw [e, hmq] at hc
  cases hc
open Go.Proofs.YtniboafnkiijcaaDoor.Num in
/-- What is read of a ledger's bytes is the ledger. -/
def BackHyp (S : List Ln) : Prop := ∃ (k : Nat) (r O : List Int), ledBytesF k S = some r ∧ crc_Open.f r = some (O, 0) ∧ Byt O ∧ O.length ≤ 1000000 ∧ (∀ room : Int, (S.length : Int) ≤ room → room ≤ 4096 → rdTop O room = (0, S)) ∧
  (∀ a, num_Get.f k O a = some (getS O a)) ∧ (∀ a, num_GetInt.f k O a = some (getIntS O a)) ∧ (∀ a, num_GetText.f k O a 200 = some (getTextS O a 200))
def remoralaw33_LedgerBack.Pure : Prop := ∀ S : List Ln, (∀ x ∈ S, mayF x = 0) → S.length ≤ 300 → (paths S).Nodup → BackHyp S
open Go.Proofs.YtniboafnkiijcaaDoor.Num in
theorem back_read {k : Nat} {r O : List Int} {S : List Ln} (h1 : crc_Open.f r = some (O, 0)) (h2 : Byt O) (h3 : O.length ≤ 1000000) (h4 : ∀ room : Int, (S.length : Int) ≤ room → room ≤ 4096 → rdTop O room = (0, S))
    (g1 : ∀ a, num_Get.f k O a = some (getS O a)) (g2 : ∀ a, num_GetInt.f k O a = some (getIntS O a)) (g3 : ∀ a, num_GetText.f k O a 200 = some (getTextS O a 200))
    (room : Int) (hr0 : 1 ≤ room) (hr1 : room ≤ 4096) (hS : (S.length : Int) ≤ room) (A : Option Addr) (c : Nat) (w : World) (hG : GT w) (hC : Kd.C (Kd.int .u8) w A r.length r) (hc : r.length ≤ c) :
    Calls Tryd.prog 21 #[.slice A r.length c, .int .i64 room] w fun e w' => Below w.heap.size w w' ∧ ∃ p mb n v, e = .returned (.tuple #[.pointer (some ⟨p, 0, none⟩), .int .i64 0]) ∧ Lg w.heap.size p mb n room v S w' ∧ n ≤ 5000 := by
  have h := led_Read.at_ A c r O room w hG hC hc h1 (by rw [Bool.or_eq_false_iff]; exact ⟨decide_eq_false (by omega), decide_eq_false (by omega)⟩) h2 h3
    (fun A c hc a w2 hC => (num_Get.calls k A c O a _ _ _ w2 hC hc (g1 a)).mono fun e w' h => ⟨h.1, h.2.below⟩)
    (fun A c hc a w2 hC => (num_GetInt.calls k A c O a _ _ _ w2 hC hc (g2 a)).mono fun e w' h => ⟨h.1, h.2.below⟩)
    (fun A c hc a w2 hC => (num_GetText.calls k A c O a 200 _ _ _ w2 hC hc (g3 a)).mono fun e w' h => h)
  rw [h4 room hS hr1] at h
  refine h.mono ?_
  rintro e w' ⟨hb, ⟨hne, _⟩ | ⟨_, p, mb, n, v, he, hL, hn, _, _⟩⟩
  · exact absurd rfl hne
  · exact ⟨hb, p, mb, n, v, he, hL, hn⟩
set_option maxHeartbeats 32000000 in
set_option maxRecDepth 100000 in
theorem back_main (P : remoralaw33_LedgerBack.Pure) (a0 rm : Int) (hrm : 1 ≤ rm ∧ rm ≤ 256) (hroom : wrap64 (1 + wrap64 a0) = rm) (A : Option Addr) (c : Nat) (l : List S39) (A2 : Option Addr) (c2 : Nat) (l2 : List S39) (w : World) (hG : GT w) (hr : Kd.C k39 w A l.length l) (hc : l.length ≤ c) (hmx : l.length ≤ 2000000000000) (hr2 : Kd.C k39 w A2 l2.length l2) (hc2 : l2.length ≤ c2) (hmx2 : l2.length ≤ 2000000000000) :
    Calls Tryd.prog 6 #[.int .u8 a0, .slice A l.length c, .slice A2 l2.length c2] w fun e w' => e = .returned (.bool true) ∧ Below w.heap.size w w' := by
  have HNew := Aside0.mk (led_New.at_ rm w (by rw [Bool.or_eq_false_iff]; exact ⟨decide_eq_false (by omega), decide_eq_false (by omega)⟩))
  obtain ⟨b, hb, hbs⟩ := small_f l hmx
  obtain ⟨b2, hb2, hbs2⟩ := small_f l2 hmx2
  have HSm := Aside0.mk (fun (w : World) (h : Kd.C k39 w A l.length l) => remoraref33_Small.calls (l.length + 1) A c l b w h hc hb)
  have HSm2 := Aside0.mk (fun (w : World) (h : Kd.C k39 w A2 l2.length l2) => remoraref33_Small.calls (l2.length + 1) A2 c2 l2 b2 w h hc2 hb2)
  have HBS := Aside0.mk hbs
  have HBS2 := Aside0.mk hbs2
  have HC := Aside0.mk hr
  have HC2 := Aside0.mk hr2
  have HG := Aside0.mk hG
  have HPu := Aside0.mk P
  have HRM := Aside0.mk hrm
  obtain ⟨m, hml⟩ : ∃ m, m = l.length := ⟨_, rfl⟩
  obtain ⟨m2, hml2⟩ : ∃ m2, m2 = l2.length := ⟨_, rfl⟩
  rw [← hml] at HC HSm ⊢
  rw [← hml2] at HC2 HSm2 ⊢
  have HML := Aside0.mk hml
  have HML2 := Aside0.mk hml2
  clear hr hc hb hbs hmx hml hr2 hc2 hb2 hbs2 hmx2 hml2 hG P hrm
  go_enter Tryd.func6, Tryd.ntmps6
  go_wp2_with fail
  refine HNew.out.mono ?_
  rintro e w1 ⟨p, mb, rfl, hL, hB⟩
  have HL1 := Aside0.mk hL
  have HB1 := Aside0.mk hB
  have HP0 : Aside0 (w.heap.size ≤ p ∧ w.heap.size ≤ mb) := ⟨⟨hL.hp0, hL.hm0⟩⟩
  clear hL hB HNew
  obtain ⟨b1, hb1⟩ : ∃ b1, b1 = w.heap.size := ⟨_, rfl⟩
  rw [← hb1] at HL1
  clear hb1
  go_wp2_with fail
  refine (HSm.out w1 (Kd.C_below HC.out HB1.out)).mono ?_
  rintro e w2 ⟨rfl, hd⟩
  have HL2 := Aside0.mk (HL1.out.below hd.below)
  have HB2 := Aside0.mk (ld_step HB1.out hd.below)
  clear hd HSm HL1 HB1
  cases hbb : b with
  | false =>
    go_wp2_with fail
    refine (law_awake.at_ w2).mono ?_
    rintro e wz ⟨rfl, hb3⟩
    have HBz := Aside0.mk (ld_step HB2.out hb3)
    clear hb3
    go_wp2
    go_ret
    exact ⟨rfl, HBz.out⟩
  | true =>
  have HSZ := Aside0.mk (HBS.out hbb)
  clear HBS
  subst hbb
  by_cases h20 : (m2 : Int) > 20
  · have k20 : decide ((m2 : Int) > 20) = true := decide_eq_true h20
    have k20' : decide (20 < (m2 : Int)) = true := k20
    have k20n : decide (20 < m2) = true := decide_eq_true (by omega)
    clear h20
    go_wp2_with fail
    refine (law_awake.at_ w2).mono ?_
    rintro e wz ⟨rfl, hb3⟩
    have HBz := Aside0.mk (ld_step HB2.out hb3)
    clear hb3
    go_wp2
    go_ret
    exact ⟨rfl, HBz.out⟩
  have k20 : decide ((m2 : Int) > 20) = false := decide_eq_false h20
  have k20' : decide (20 < (m2 : Int)) = false := k20
  have k20n : decide (20 < m2) = false := decide_eq_false (by omega)
  have HM2 : Aside0 (m2 ≤ 20) := ⟨by omega⟩
  obtain ⟨rk, hrk⟩ : ∃ rk, wrap64 (rm + (m2 : Int)) = rk := ⟨_, rfl⟩
  have HRK : Aside0 (rk = rm + (m2 : Int)) := ⟨by rw [← hrk]; have := HRM.out; unfold wrap64; omega⟩
  clear h20
  go_wp2_with fail
  refine (HSm2.out w2 (Kd.C_below HC2.out HB2.out)).mono ?_
  rintro e w3 ⟨rfl, hd⟩
  have HL3 := Aside0.mk (HL2.out.below hd.below)
  have HB3 := Aside0.mk (ld_step HB2.out hd.below)
  clear hd HSm2 HL2 HB2
  cases hbb : b2 with
  | false =>
    go_wp2_with fail
    refine (law_awake.at_ w3).mono ?_
    rintro e wz ⟨rfl, hb3⟩
    have HBz := Aside0.mk (ld_step HB3.out hb3)
    clear hb3
    go_wp2
    go_ret
    exact ⟨rfl, HBz.out⟩
  | true =>
  have HSZ2 := Aside0.mk (HBS2.out hbb)
  clear HBS2
  subst hbb
  clear k20 k20' k20n
  go_wp2
  go_loopg [9] m (fun g v9 w' => ∃ (i n : Nat) (v : Value) (S : List Ln), g = m - i ∧ v9 = .int .i64 i ∧ Aside0 (i ≤ m ∧ n ≤ i ∧ (S.length : Int) ≤ rm ∧ ∀ x ∈ S, mayF x = 0) ∧ Aside0 (Lg b1 p mb n rm v S w') ∧ Aside0 (Below w.heap.size w w'))
  case atStart => exact ⟨0, 0, _, [], rfl, rfl, ⟨by have := HRM.out; exact ⟨Nat.zero_le _, Nat.le_refl _, by simp; omega, fun x hx => by cases hx⟩⟩, HL3, HB3⟩
  case round =>
    obtain ⟨i, n, v, S, rfl, rfl, HI, HL, HW⟩ := hrel
    clear HL3 HB3
    by_cases c1 : i < m
    · skip
      have e1 : decide ((i : Int) < (m : Int)) = true := decide_eq_true (by omega)
      have e1' : decide (i < m) = true := decide_eq_true c1
      have e1n : (i < m) = True := eq_true c1
      have e1i : ((i : Int) < (m : Int)) = True := eq_true (by omega)
      have hi0 : (0 ≤ (i : Int)) = True := eq_true (by omega)
      have C1 := Aside0.mk c1
      have haddi : wrap64 ((i : Int) + 1) = ((i + 1 : Nat) : Int) := by have := HML.out; have := HSZ.out.1; unfold wrap64; omega
      clear c1
      obtain ⟨ad, rfl, d0, d1, d2, d3, d4, d5, d6, d7, d8, d9, d10, d11, d12⟩ := act_cells (Kd.C_below HC.out HW.out) i C1.out
      have HX := Aside0.mk (HSZ.out.2 i (by have := C1.out; have := HML.out; omega))
      generalize hrd : rd_T39 l (i : Int) = x at d0 d1 d2 d3 d4 d5 d6 d7 d8 d9 d10 d11 d12 HX
      have HRD := Aside0.mk hrd
      clear hrd
      have hDo := law_Do.at_ b1 p mb n rm v S (acOf x) wr HL.out (by have := HX.out; show x.f1.size ≤ 1000000; omega) (by have := HI.out; have := HRM.out; omega) (by have := HI.out; have := HSZ.out.1; have := HML.out; omega)
      have hRl := doF_len rm S (acOf x) HRM.out.1 HI.out.2.2.1
      have hVa := doF_valid rm S (acOf x) HI.out.2.2.2
      obtain ⟨dr, hdr⟩ : ∃ dr, doF rm S (acOf x) = dr := ⟨_, rfl⟩
      rw [hdr] at hDo hRl hVa
      unfold acV acC acOf at hDo
      dsimp only at hDo
      have HDo := Aside0.mk hDo
      have HRl := Aside0.mk (And.intro hRl hVa)
      clear hDo hRl hdr hVa
      go_wp2_with fail
      refine HDo.out.mono ?_
      rintro e w5 ⟨rfl, v3, hL3, hB3⟩
      have HL5 := Aside0.mk hL3
      have HW5 := Aside0.mk (Bm.to hB3 HW.out (Nat.le_refl _) HP0.out.1 HP0.out.2)
      clear hL3 hB3 HDo HL d0 d1 d2 d3 d4 d5 d6 d7 d8 d9 d10 d11 d12 HW
      go_wp2
      go_roundg (m - (i + 1))
      case measure => have := C1.out; omega
      case rel => exact ⟨i + 1, n + 1, v3, dr.S, rfl, by first | rfl | rw [haddi], ⟨by have := C1.out; have := HI.out; have := HRl.out.1; exact ⟨by omega, by omega, by omega, HRl.out.2⟩⟩, HL5, HW5⟩
    have e1 : decide ((i : Int) < (m : Int)) = false := decide_eq_false (by omega)
    have e1' : decide (i < m) = false := decide_eq_false c1
    obtain ⟨k, r, O, hk1, h1, h2, h3, h4, g1, g2, g3⟩ := HPu.out S HI.out.2.2.2 (by have := HI.out; have := HRM.out; omega) HL.out.hN
    have HK := Aside0.mk hk1
    have HBk := Aside0.mk (fun (room : Int) (hr0 : 1 ≤ room) (hr1 : room ≤ 4096) (hS : (S.length : Int) ≤ room) => back_read h1 h2 h3 h4 g1 g2 g3 room hr0 hr1 hS)
    have HTf := Aside0.mk (texts_f (paths S) (by have := HI.out; have := HRM.out; rw [paths_len]; omega))
    clear c1 hk1 h1 h2 h3 h4 g1 g2 g3
    go_wp2_with fail
    refine (led_Bytes.at_ k b1 p mb n rm v S r wr (HG.out.below HW.out) HL.out HK.out).mono ?_
    rintro e w5 ⟨va, rfl, hRa, hba⟩
    obtain ⟨Aa, ca, rfl, hca, hCa⟩ := Kd.R_reads hRa
    have HL5 := Aside0.mk (HL.out.below hba)
    have HB5 := Aside0.mk (ld_step HW.out hba)
    have HRd := Aside0.mk (HBk.out rm HRM.out.1 (by have := HRM.out; omega) HI.out.2.2.1 Aa ca w5 (HG.out.below HB5.out) hCa hca)
    clear hRa hca hCa hba HL HW
    go_wp2_with fail
    refine HRd.out.mono ?_
    rintro e w6 ⟨hb6, ph, mh, nh, vh, rfl, hLh, hnh⟩
    have HL6 := Aside0.mk (HL5.out.below hb6)
    have HLh6 := Aside0.mk hLh
    have HB6 := Aside0.mk (ld_step HB5.out hb6)
    have HNE : Aside0 (p ≠ ph ∧ mb ≠ mh ∧ w.heap.size ≤ ph ∧ w.heap.size ≤ mh ∧ nh ≤ 5000) := ⟨by have := blk_lt HL5.out.hP; have := HL5.out.hM.lt; have := hLh.hp0; have := hLh.hm0; have := HB5.out.size; omega⟩
    obtain ⟨bh, hbh⟩ : ∃ bh, bh = w5.heap.size := ⟨_, rfl⟩
    rw [← hbh] at HLh6
    clear hb6 hLh hnh hbh HRd HL5 HB5
    go_wp2_with fail
    refine (led_Bytes.at_ k b1 p mb n rm v S r w6 (HG.out.below HB6.out) HL6.out HK.out).mono ?_
    rintro e w7 ⟨va, rfl, hRa, hba⟩
    obtain ⟨Aa2, ca2, rfl, hca, hCa⟩ := Kd.R_reads hRa
    have HL7 := Aside0.mk (HL6.out.below hba)
    have HLh7 := Aside0.mk (HLh6.out.below hba)
    have HB7 := Aside0.mk (ld_step HB6.out hba)
    have HRd := Aside0.mk (HBk.out rk (by have := HRK.out; have := HRM.out; omega) (by have := HRK.out; have := HRM.out; have := HM2.out; omega) (by have := HRK.out; have := HI.out.2.2.1; omega) Aa2 ca2 w7 (HG.out.below HB7.out) hCa hca)
    clear hRa hca hCa hba HL6 HLh6 HB6
    go_wp2_with fail
    refine HRd.out.mono ?_
    rintro e w8 ⟨hb8, pk, mk_, nk, vk, rfl, hLk, hnk⟩
    have HL8 := Aside0.mk (HL7.out.below hb8)
    have HLh8 := Aside0.mk (HLh7.out.below hb8)
    have HLk8 := Aside0.mk hLk
    have HB8 := Aside0.mk (ld_step HB7.out hb8)
    obtain ⟨bk, hbk⟩ : ∃ bk, bk = w7.heap.size := ⟨_, rfl⟩
    rw [← hbk] at HLk8
    clear hb8 hLk hnk hbk HRd HL7 HLh7 HB7
    go_wp2_with fail
    refine (led_Paths.at_ bh ph mh nh rm vh S w8 HLh8.out).mono ?_
    rintro e w9 ⟨va, rfl, hRa, hba⟩
    obtain ⟨Aa, ca, rfl⟩ := Kd.R_slice hRa
    have HL9 := Aside0.mk (HL8.out.below hba)
    have HLh9 := Aside0.mk (HLh8.out.below hba)
    have HLk9 := Aside0.mk (HLk8.out.below hba)
    have HB9 := Aside0.mk (ld_step HB8.out hba)
    have HPa := Aside0.mk (hRa)
    clear hRa hba HL8 HLh8 HLk8 HB8
    go_wp2_with fail
    refine (led_Paths.at_ b1 p mb n rm v S w9 HL9.out).mono ?_
    rintro e w10 ⟨vb, rfl, hRb, hbb⟩
    obtain ⟨Ab, cb, rfl⟩ := Kd.R_slice hRb
    have HL10 := Aside0.mk (HL9.out.below hbb)
    have HLh10 := Aside0.mk (HLh9.out.below hbb)
    have HLk10 := Aside0.mk (HLk9.out.below hbb)
    have HB10 := Aside0.mk (ld_step HB9.out hbb)
    have HPa2 := Aside0.mk (Kd.R_below HPa.out hbb)
    have HTx := Aside0.mk (remoraref17_Texts.calls _ Aa ca (paths S) Ab cb (paths S) true w10 (Kd.R_reads' (Kd.R_below HPa.out hbb)).2.2 (Kd.R_reads' HPa.out).2.1 (Kd.R_reads' hRb).2.2 (Kd.R_reads' hRb).2.1 HTf.out)
    clear hRb hbb HL9 HLh9 HLk9 HB9 HPa HPa2
    go_wp2_with fail
    refine HTx.out.mono ?_
    rintro e w11 ⟨rfl, hd⟩
    have HL11 := Aside0.mk (HL10.out.below hd.below)
    have HLh11 := Aside0.mk (HLh10.out.below hd.below)
    have HLk11 := Aside0.mk (HLk10.out.below hd.below)
    have HB11 := Aside0.mk (ld_step HB10.out hd.below)
    clear hd HTx HL10 HLh10 HLk10 HB10
    go_wp2_with fail
    refine (led_Paths.at_ bk pk mk_ nk rk vk S w11 HLk11.out).mono ?_
    rintro e w12 ⟨vk, rfl, hRk, hbk⟩
    obtain ⟨Ak, ck, rfl⟩ := Kd.R_slice hRk
    have HL12 := Aside0.mk (HL11.out.below hbk)
    have HLh12 := Aside0.mk (HLh11.out.below hbk)
    have HB12 := Aside0.mk (ld_step HB11.out hbk)
    have HPa := Aside0.mk (hRk)
    clear hRk hbk HL11 HLh11 HLk11 HB11
    go_wp2_with fail
    refine (led_Paths.at_ b1 p mb n rm v S w12 HL12.out).mono ?_
    rintro e w13 ⟨vd, rfl, hRd, hbd⟩
    obtain ⟨Ad, cd, rfl⟩ := Kd.R_slice hRd
    have HL13 := Aside0.mk (HL12.out.below hbd)
    have HLh13 := Aside0.mk (HLh12.out.below hbd)
    have HB13 := Aside0.mk (ld_step HB12.out hbd)
    have HTx := Aside0.mk (remoraref17_Texts.calls _ Ak ck (paths S) Ad cd (paths S) true w13 (Kd.R_reads' (Kd.R_below HPa.out hbd)).2.2 (Kd.R_reads' HPa.out).2.1 (Kd.R_reads' hRd).2.2 (Kd.R_reads' hRd).2.1 HTf.out)
    clear hRd hbd HL12 HLh12 HB12 HPa HTf
    go_wp2_with fail
    refine HTx.out.mono ?_
    rintro e w14 ⟨rfl, hd⟩
    have HL14 := Aside0.mk (HL13.out.below hd.below)
    have HLh14 := Aside0.mk (HLh13.out.below hd.below)
    have HB14 := Aside0.mk (ld_step HB13.out hd.below)
    have HI2 := HI
    clear hd HTx HL13 HLh13 HB13 HBk HK e1 e1'
    go_wp2
    go_loopg [14, 15, 16, 17, 18, 19, 20, 21, 22] m2 (fun g v14 v15 v16 v17 v18 v19 v20 v21 v22 w' => ∃ (j n n2 : Nat) (v v2 : Value) (S : List Ln), g = m2 - j ∧ v14 = .int .i64 j ∧ Aside0 (j ≤ m2 ∧ n ≤ 1000 + j ∧ n2 ≤ 5000 + j ∧ (S.length : Int) ≤ rm ∧ ∀ x ∈ S, mayF x = 0) ∧ Aside0 (Lg b1 p mb n rm v S w') ∧ Aside0 (Lg bh ph mh n2 rm v2 S w') ∧ Aside0 (Below w.heap.size w w'))
    case atStart => exact ⟨0, n, nh, v, vh, S, rfl, rfl, ⟨by have := HI2.out; have := HNE.out; have := HSZ.out.1; have := HML.out; exact ⟨Nat.zero_le _, by omega, by omega, HI2.out.2.2⟩⟩, HL14, HLh14, HB14⟩
    case round =>
      clear HL14 HLh14 HB14 HI HI2
      obtain ⟨j, n, n2, v, v2, S, rfl, rfl, HI, HL, HLh, HW⟩ := hrel
      by_cases c1 : j < m2
      · skip
        have e1 : decide ((j : Int) < (m2 : Int)) = true := decide_eq_true (by omega)
        have e1' : decide (j < m2) = true := decide_eq_true c1
        have e1n : (j < m2) = True := eq_true c1
        have e1i : ((j : Int) < (m2 : Int)) = True := eq_true (by omega)
        have hi0 : (0 ≤ (j : Int)) = True := eq_true (by omega)
        have C1 := Aside0.mk c1
        have haddi : wrap64 ((j : Int) + 1) = ((j + 1 : Nat) : Int) := by have := HML2.out; have := HSZ2.out.1; unfold wrap64; omega
        clear c1
        obtain ⟨ad, rfl, d0, d1, d2, d3, d4, d5, d6, d7, d8, d9, d10, d11, d12⟩ := act_cells (Kd.C_below HC2.out HW.out) j C1.out
        have HX := Aside0.mk (HSZ2.out.2 j (by have := C1.out; have := HML2.out; omega))
        generalize hrd : rd_T39 l2 (j : Int) = x at d0 d1 d2 d3 d4 d5 d6 d7 d8 d9 d10 d11 d12 HX
        have HRD := Aside0.mk hrd
        clear hrd
        have hDo := law_Do.at_ b1 p mb n rm v S (acOf x) wr HL.out (by have := HX.out; show x.f1.size ≤ 1000000; omega) (by have := HI.out; have := HRM.out; omega) (by have := HI.out; have := HM2.out; omega)
        have hDo2 := fun (w5 : World) (h : Lg bh ph mh n2 rm v2 S w5) => law_Do.at_ bh ph mh n2 rm v2 S (acOf x) w5 h (by have := HX.out; show x.f1.size ≤ 1000000; omega) (by have := HI.out; have := HRM.out; omega) (by have := HI.out; have := HM2.out; omega)
        have hRl := doF_len rm S (acOf x) HRM.out.1 HI.out.2.2.2.1
        have hVa := doF_valid rm S (acOf x) HI.out.2.2.2.2
        obtain ⟨dr, hdr⟩ : ∃ dr, doF rm S (acOf x) = dr := ⟨_, rfl⟩
        rw [hdr] at hDo hRl hVa
        simp only [hdr] at hDo2
        unfold acV acC acOf reV at hDo hDo2
        dsimp only at hDo hDo2
        have HDo := Aside0.mk hDo
        have HDo2 := Aside0.mk hDo2
        have HRl := Aside0.mk (And.intro hRl hVa)
        clear hDo hDo2 hRl hdr hVa
        go_wp2_with fail
        refine HDo.out.mono ?_
        rintro e w5 ⟨rfl, v3, hL3, hB3⟩
        have HL5 := Aside0.mk hL3
        have HLh5 := Aside0.mk (HLh.out.two hB3 HL.out (Ne.symm HNE.out.1) (Ne.symm HNE.out.2.1))
        have HW5 := Aside0.mk (Bm.to hB3 HW.out (Nat.le_refl _) HP0.out.1 HP0.out.2)
        clear hL3 hB3 HDo HL HLh d0 d1 d2 d3 d4 d5 d6 d7 d8 d9 d10 d11 d12 HW
        obtain ⟨ad3, hadq3, d0, d1, d2, d3, d4, d5, d6, d7, d8, d9, d10, d11, d12⟩ := act_cells (Kd.C_below HC2.out HW5.out) j C1.out
        cases hadq3
        rw [HRD.out] at d0 d1 d2 d3 d4 d5 d6 d7 d8 d9 d10 d11 d12
        go_wp2_with fail
        refine (HDo2.out w5 HLh5.out).mono ?_
        rintro e w6 ⟨rfl, v4, hL4, hB4⟩
        have HLh6 := Aside0.mk hL4
        have HL6 := Aside0.mk (HL5.out.two hB4 HLh5.out HNE.out.1 HNE.out.2.1)
        have HW6 := Aside0.mk (Bm.to hB4 HW5.out (Nat.le_refl _) HNE.out.2.2.1 HNE.out.2.2.2.1)
        clear hL4 hB4 HDo2 HL5 HLh5 d0 d1 d2 d3 d4 d5 d6 d7 d8 d9 d10 d11 d12 HW5
        have hs1 : (dr.sum.toList == dr.sum.toList) = true := by simp
        have hs2 : (dr.sum.toList != dr.sum.toList) = false := by simp
        have hs3 : (dr.ok != dr.ok) = false := by simp
        have hs4 : (dr.e != dr.e) = false := by simp
        have hs5 : (dr.k != dr.k) = false := by simp
        go_wp2
        go_roundg (m2 - (j + 1))
        case measure => have := C1.out; omega
        case rel => exact ⟨j + 1, n + 1, n2 + 1, v3, v4, dr.S, rfl, by first | rfl | rw [haddi], ⟨by have := C1.out; have := HI.out; have := HRl.out.1; exact ⟨by omega, by omega, by omega, by omega, HRl.out.2⟩⟩, HL6, HLh6, HW6⟩
      have e1 : decide ((j : Int) < (m2 : Int)) = false := decide_eq_false (by omega)
      have e1' : decide (j < m2) = false := decide_eq_false c1
      obtain ⟨kb, r2, O2, hk1, -⟩ := HPu.out S HI.out.2.2.2.2 (by have := HI.out; have := HRM.out; omega) HL.out.hN
      obtain ⟨r, hr⟩ : ∃ r, r = r2 := ⟨_, rfl⟩
      rw [← hr] at hk1
      clear hr
      have HK := Aside0.mk hk1
      have HSL := Aside0.mk (show (paths S).length ≤ 2000000000000 from by rw [paths_len]; have := HI.out; have := HRM.out; omega)
      have hss : ((strOfNums r).toList == (strOfNums r).toList) = true := by simp
      have HLd := Aside0.mk (HLh.out.below (below_drew (Below.refl _ _)))
      have HRd := Aside0.mk (HL.out.below (below_drew (Below.refl _ _)))
      have HWd := Aside0.mk (below_drew HW.out)
      clear c1 hk1 HL HLh HW
      go_wp2_with fail
      refine start_ (n := 18) (S := fun w' => True) (ds := []) #[F_,F_,F_,F_,F_,F_,F_,F_,F_,F_,F_,F_,F_,F_,F_,F_,F_,F_] (by kernel_rfl) rfl rfl trivial (fun hHeld => ?_)
      refine pure_ (i := 0) (N := some 155) (v := ?_) (a' := ?_) #[T_,F_,F_,F_,F_,F_,F_,F_,F_,F_,F_,F_,F_,F_,F_,F_,F_,F_] rfl rfl (by kernel_rfl) (fun _ _ _ h => h) (Or.inl ⟨by rfl, ?_⟩) ?_ ?_
      rotate_left
      · intro w'
        go_simp
        with_reducible rfl
      rotate_left
      · simp only [Act.put, List.setIfInBounds_toArray, List.set_cons_zero, List.set_cons_succ, i64_w, i32_w]
        rfl
      refine pure_ (i := 2) (N := some 157) (v := ?_) (a' := ?_) #[T_,F_,T_,F_,F_,F_,F_,F_,F_,F_,F_,F_,F_,F_,F_,F_,F_,F_] rfl rfl (by kernel_rfl) (fun _ _ _ h => h) (Or.inl ⟨by rfl, ?_⟩) ?_ ?_
      rotate_left
      · intro w'
        go_simp
        with_reducible rfl
      rotate_left
      · simp only [Act.put, List.setIfInBounds_toArray, List.set_cons_zero, List.set_cons_succ, i64_w, i32_w]
        rfl
      refine one_ (i := 1) (N := some 156) #[T_,T_,T_,F_,F_,F_,F_,F_,F_,F_,F_,F_,F_,F_,F_,F_,F_,F_] rfl rfl (by kernel_rfl) (by decide) (fun K hK => ?_)
      refine goes_ Tryd.func18 (by kernel_rfl) rfl #[.pointer (some ⟨ph, 0, none⟩)] (by rfl) rfl rfl (by simp only [List.map_toArray, List.map_cons, List.map_nil]; rfl) ?_
      with_reducible refine (led_Paths.at_ bh ph mh n2 rm v2 S wr.drew HLd.out).mono ?_
      rintro e w7 ⟨va7, rfl, hR7, hb7⟩
      refine ⟨_, rfl, ?_⟩
      have HL7 := Aside0.mk (HLd.out.below hb7)
      have HR7 := Aside0.mk (HRd.out.below hb7)
      have HB7 := Aside0.mk (ld_step HWd.out hb7)
      have HP7 := Aside0.mk hR7
      obtain ⟨A7, c7, rfl⟩ := Kd.R_slice hR7
      clear hR7 hb7
      refine hK.out _ _ trivial (fun hHeld => ?_)
      clear hK K
      refine norm_ (a' := ?_) ?_ ?_
      rotate_left
      · show Act.put _ (some 156) _ = _
        simp only [Act.put, List.setIfInBounds_toArray, List.set_cons_zero, List.set_cons_succ, i64_w, i32_w]
        rfl
      refine one_ (i := 3) (N := some 158) #[T_,T_,T_,T_,F_,F_,F_,F_,F_,F_,F_,F_,F_,F_,F_,F_,F_,F_] rfl rfl (by kernel_rfl) (by decide) (fun K hK => ?_)
      refine goes_ Tryd.func18 (by kernel_rfl) rfl #[.pointer (some ⟨p, 0, none⟩)] (by rfl) rfl rfl (by simp only [List.map_toArray, List.map_cons, List.map_nil]; rfl) ?_
      with_reducible refine (led_Paths.at_ b1 p mb n rm v S w7 HR7.out).mono ?_
      rintro e w8 ⟨va8, rfl, hR8, hb8⟩
      refine ⟨_, rfl, ?_⟩
      have HL8 := Aside0.mk (HL7.out.below hb8)
      have HR8 := Aside0.mk (HR7.out.below hb8)
      have HB8 := Aside0.mk (ld_step HB7.out hb8)
      have HP8 := Aside0.mk (Kd.R_below HP7.out hb8)
      have HQ8 := Aside0.mk hR8
      obtain ⟨A8, c8, rfl⟩ := Kd.R_slice hR8
      have HTx := Aside0.mk (remoraref17_Texts.calls _ A7 c7 (paths S) A8 c8 (paths S) true w8 (Kd.R_reads' HP8.out).2.2 (Kd.R_reads' HP8.out).2.1 (Kd.R_reads' HQ8.out).2.2 (Kd.R_reads' HQ8.out).2.1 (texts_f (paths S) HSL.out))
      clear hR8 hb8
      refine hK.out _ _ trivial (fun hHeld => ?_)
      clear hK K
      refine norm_ (a' := ?_) ?_ ?_
      rotate_left
      · show Act.put _ (some 158) _ = _
        simp only [Act.put, List.setIfInBounds_toArray, List.set_cons_zero, List.set_cons_succ, i64_w, i32_w]
        rfl
      refine one_ (i := 4) (N := some 159) #[T_,T_,T_,T_,T_,F_,F_,F_,F_,F_,F_,F_,F_,F_,F_,F_,F_,F_] rfl rfl (by kernel_rfl) (by decide) (fun K hK => ?_)
      refine goes_ Tryd.func17 (by kernel_rfl) rfl #[.slice A7 (paths S).length c7, .slice A8 (paths S).length c8] (by rfl) rfl rfl (by simp only [List.map_toArray, List.map_cons, List.map_nil]; rfl) ?_
      with_reducible refine (HTx.out).mono ?_
      rintro e w9 ⟨rfl, hd9⟩
      refine ⟨_, rfl, ?_⟩
      have HL9 := Aside0.mk (HL8.out.below hd9.below)
      have HR9 := Aside0.mk (HR8.out.below hd9.below)
      have HB9 := Aside0.mk (ld_step HB8.out hd9.below)
      clear hd9
      refine hK.out _ _ trivial (fun hHeld => ?_)
      clear hK K
      refine norm_ (a' := ?_) ?_ ?_
      rotate_left
      · show Act.put _ (some 159) _ = _
        simp only [Act.put, List.setIfInBounds_toArray, List.set_cons_zero, List.set_cons_succ, i64_w, i32_w]
        rfl
      refine pure_ (i := 5) (N := some 160) (v := ?_) (a' := ?_) #[T_,T_,T_,T_,T_,T_,F_,F_,F_,F_,F_,F_,F_,F_,F_,F_,F_,F_] rfl rfl (by kernel_rfl) (fun _ _ _ h => h) (Or.inl ⟨by rfl, ?_⟩) ?_ ?_
      rotate_left
      · intro w'
        go_simp
        with_reducible rfl
      rotate_left
      · simp only [Act.put, List.setIfInBounds_toArray, List.set_cons_zero, List.set_cons_succ, i64_w, i32_w]
        rfl
      refine pure_ (i := 6) (N := some 161) (v := ?_) (a' := ?_) #[T_,T_,T_,T_,T_,T_,T_,F_,F_,F_,F_,F_,F_,F_,F_,F_,F_,F_] rfl rfl (by kernel_rfl) (fun _ _ _ h => h) (Or.inl ⟨by rfl, ?_⟩) ?_ ?_
      rotate_left
      · intro w'
        go_simp
        with_reducible rfl
      rotate_left
      · simp only [Act.put, List.setIfInBounds_toArray, List.set_cons_zero, List.set_cons_succ, i64_w, i32_w]
        rfl
      refine pure_ (i := 9) (N := some 164) (v := ?_) (a' := ?_) #[T_,T_,T_,T_,T_,T_,T_,F_,F_,T_,F_,F_,F_,F_,F_,F_,F_,F_] rfl rfl (by kernel_rfl) (fun _ _ _ h => h) (Or.inl ⟨by rfl, ?_⟩) ?_ ?_
      rotate_left
      · intro w'
        go_simp
        with_reducible rfl
      rotate_left
      · simp only [Act.put, List.setIfInBounds_toArray, List.set_cons_zero, List.set_cons_succ, i64_w, i32_w]
        rfl
      refine one_ (i := 7) (N := some 162) #[T_,T_,T_,T_,T_,T_,T_,T_,F_,T_,F_,F_,F_,F_,F_,F_,F_,F_] rfl rfl (by kernel_rfl) (by decide) (fun K hK => ?_)
      refine goes_ Tryd.func13 (by kernel_rfl) rfl #[.pointer (some ⟨ph, 0, none⟩)] (by rfl) rfl rfl (by simp only [List.map_toArray, List.map_cons, List.map_nil]; rfl) ?_
      with_reducible refine (led_Bytes.at_ kb bh ph mh n2 rm v2 S r w9 (HG.out.below HB9.out) HL9.out HK.out).mono ?_
      rintro e W1 ⟨va, rfl, hRa, hba⟩
      refine ⟨_, rfl, ?_⟩
      obtain ⟨Aa, ca, rfl, hca, hCa⟩ := Kd.R_reads hRa
      have HCa := Aside0.mk hCa
      have HBW1 := Aside0.mk (ld_step HB9.out hba)
      have HBa := Aside0.mk hba
      clear hRa hca hCa hba
      refine hK.out _ _ trivial (fun hHeld => ?_)
      clear hK K
      refine norm_ (a' := ?_) ?_ ?_
      rotate_left
      · show Act.put _ (some 162) _ = _
        simp only [Act.put, List.setIfInBounds_toArray, List.set_cons_zero, List.set_cons_succ, i64_w, i32_w]
        rfl
      refine join_ (σ := Option Addr × Nat) 6 #[T_,T_,T_,T_,T_,T_,T_,T_,T_,T_,T_,T_,F_,F_,F_,F_,F_,F_] (fun s => [(163, .string (strOfNums r)), (165, .slice s.1 r.length s.2), (166, .string (strOfNums r))]) (fun s w' => Below W1.heap.size W1 w') ?_ ?_
      rotate_left
      · intro hCont
        refine two_ (i := 8) (j := 10) (Ni := some 163) (Nj := some 165) #[T_,T_,T_,T_,T_,T_,T_,T_,T_,T_,F_,F_,F_,F_,F_,F_,F_,F_] #[T_,T_,T_,T_,T_,T_,T_,T_,F_,T_,T_,F_,F_,F_,F_,F_,F_,F_] rfl rfl rfl rfl (by kernel_rfl) (by decide) (by decide) (fun K hK => ?_) (fun K hK => ?_)
        · skip
          refine value_ (w1 := W1) (v := .string (strOfNums r)) (by rfl) rfl (cv_step rfl rfl (C_str33 (HCa.out))) ?_
          refine hK.out _ _ trivial (fun hHeld => ?_)
          clear hK K
          refine norm_ (a' := ?_) ?_ ?_
          rotate_left
          · show Act.put _ (some 163) _ = _
            simp only [Act.put, List.setIfInBounds_toArray, List.set_cons_zero, List.set_cons_succ, i64_w, i32_w]
            rfl
          refine one_ (i := 10) (N := some 165) #[T_,T_,T_,T_,T_,T_,T_,T_,T_,T_,T_,F_,F_,F_,F_,F_,F_,F_] rfl rfl (by kernel_rfl) (by decide) (fun K hK => ?_)
          refine goes_ Tryd.func13 (by kernel_rfl) rfl #[.pointer (some ⟨p, 0, none⟩)] (by rfl) rfl rfl (by simp only [List.map_toArray, List.map_cons, List.map_nil]; rfl) ?_
          with_reducible refine (led_Bytes.at_ kb b1 p mb n rm v S r W1 (HG.out.below HBW1.out) (HR9.out.below HBa.out) HK.out).mono ?_
          rintro e W2 ⟨vb, rfl, hRb, hbb⟩
          refine ⟨_, rfl, ?_⟩
          obtain ⟨Ab, cb, rfl, hcb, hCb⟩ := Kd.R_reads hRb
          have HCb := Aside0.mk hCb
          have HBb := Aside0.mk hbb
          clear hRb hcb hCb hbb
          refine hK.out _ _ trivial (fun hHeld => ?_)
          clear hK K
          refine norm_ (a' := ?_) ?_ ?_
          rotate_left
          · show Act.put _ (some 165) _ = _
            simp only [Act.put, List.setIfInBounds_toArray, List.set_cons_zero, List.set_cons_succ, i64_w, i32_w]
            rfl
          refine one_ (i := 11) (N := some 166) #[T_,T_,T_,T_,T_,T_,T_,T_,T_,T_,T_,T_,F_,F_,F_,F_,F_,F_] rfl rfl (by kernel_rfl) (by decide) (fun K hK => ?_)
          refine value_ (w1 := W2) (v := .string (strOfNums r)) (by rfl) rfl (cv_step rfl rfl (C_str33 (HCb.out))) ?_
          refine hK.out _ _ trivial (fun hHeld => ?_)
          clear hK K
          refine norm_ (a' := ?_) ?_ ?_
          rotate_left
          · show Act.put _ (some 166) _ = _
            simp only [Act.put, List.setIfInBounds_toArray, List.set_cons_zero, List.set_cons_succ, i64_w, i32_w]
            rfl
          exact norm_ (by simp only [putAll, Act.put, List.setIfInBounds_toArray, List.set_cons_zero, List.set_cons_succ]) (hCont (Ab, cb) _ HBb.out)
        · skip
          refine goes_ Tryd.func13 (by kernel_rfl) rfl #[.pointer (some ⟨p, 0, none⟩)] (by rfl) rfl rfl (by simp only [List.map_toArray, List.map_cons, List.map_nil]; rfl) ?_
          with_reducible refine (led_Bytes.at_ kb b1 p mb n rm v S r W1 (HG.out.below HBW1.out) (HR9.out.below HBa.out) HK.out).mono ?_
          rintro e W2 ⟨vb, rfl, hRb, hbb⟩
          refine ⟨_, rfl, ?_⟩
          obtain ⟨Ab, cb, rfl, hcb, hCb⟩ := Kd.R_reads hRb
          have HCb := Aside0.mk hCb
          have HBb := Aside0.mk hbb
          clear hRb hcb hCb hbb
          refine hK.out _ _ trivial (fun hHeld => ?_)
          clear hK K
          refine norm_ (a' := ?_) ?_ ?_
          rotate_left
          · show Act.put _ (some 165) _ = _
            simp only [Act.put, List.setIfInBounds_toArray, List.set_cons_zero, List.set_cons_succ, i64_w, i32_w]
            rfl
          refine two_ (i := 8) (j := 11) (Ni := some 163) (Nj := some 166) #[T_,T_,T_,T_,T_,T_,T_,T_,T_,T_,T_,F_,F_,F_,F_,F_,F_,F_] #[T_,T_,T_,T_,T_,T_,T_,T_,F_,T_,T_,T_,F_,F_,F_,F_,F_,F_] rfl rfl rfl rfl (by kernel_rfl) (by decide) (by decide) (fun K hK => ?_) (fun K hK => ?_)
          · skip
            refine value_ (w1 := W2) (v := .string (strOfNums r)) (by rfl) rfl (cv_step rfl rfl (C_str33 (Kd.C_below HCa.out HBb.out))) ?_
            refine hK.out _ _ trivial (fun hHeld => ?_)
            clear hK K
            refine norm_ (a' := ?_) ?_ ?_
            rotate_left
            · show Act.put _ (some 163) _ = _
              simp only [Act.put, List.setIfInBounds_toArray, List.set_cons_zero, List.set_cons_succ, i64_w, i32_w]
              rfl
            refine one_ (i := 11) (N := some 166) #[T_,T_,T_,T_,T_,T_,T_,T_,T_,T_,T_,T_,F_,F_,F_,F_,F_,F_] rfl rfl (by kernel_rfl) (by decide) (fun K hK => ?_)
            refine value_ (w1 := W2) (v := .string (strOfNums r)) (by rfl) rfl (cv_step rfl rfl (C_str33 (HCb.out))) ?_
            refine hK.out _ _ trivial (fun hHeld => ?_)
            clear hK K
            refine norm_ (a' := ?_) ?_ ?_
            rotate_left
            · show Act.put _ (some 166) _ = _
              simp only [Act.put, List.setIfInBounds_toArray, List.set_cons_zero, List.set_cons_succ, i64_w, i32_w]
              rfl
            exact norm_ (by simp only [putAll, Act.put, List.setIfInBounds_toArray, List.set_cons_zero, List.set_cons_succ]) (hCont (Ab, cb) _ HBb.out)
          · skip
            refine value_ (w1 := W2) (v := .string (strOfNums r)) (by rfl) rfl (cv_step rfl rfl (C_str33 (HCb.out))) ?_
            refine hK.out _ _ trivial (fun hHeld => ?_)
            clear hK K
            refine norm_ (a' := ?_) ?_ ?_
            rotate_left
            · show Act.put _ (some 166) _ = _
              simp only [Act.put, List.setIfInBounds_toArray, List.set_cons_zero, List.set_cons_succ, i64_w, i32_w]
              rfl
            refine one_ (i := 8) (N := some 163) #[T_,T_,T_,T_,T_,T_,T_,T_,T_,T_,T_,T_,F_,F_,F_,F_,F_,F_] rfl rfl (by kernel_rfl) (by decide) (fun K hK => ?_)
            refine value_ (w1 := W2) (v := .string (strOfNums r)) (by rfl) rfl (cv_step rfl rfl (C_str33 (Kd.C_below HCa.out HBb.out))) ?_
            refine hK.out _ _ trivial (fun hHeld => ?_)
            clear hK K
            refine norm_ (a' := ?_) ?_ ?_
            rotate_left
            · show Act.put _ (some 163) _ = _
              simp only [Act.put, List.setIfInBounds_toArray, List.set_cons_zero, List.set_cons_succ, i64_w, i32_w]
              rfl
            exact norm_ (by simp only [putAll, Act.put, List.setIfInBounds_toArray, List.set_cons_zero, List.set_cons_succ]) (hCont (Ab, cb) _ HBb.out)
      rintro ⟨Ab, cb⟩ W3 hFk
      have HB3 := Aside0.mk (ld_step HBW1.out hFk)
      have hHeld : True := trivial
      clear hFk
      refine norm_ (a' := ?_) ?_ ?_
      rotate_left
      · simp only [putAll, Act.put, List.setIfInBounds_toArray, List.set_cons_zero, List.set_cons_succ]
        rfl
      refine pure_ (i := 12) (N := some 167) (v := ?_) (a' := ?_) #[T_,T_,T_,T_,T_,T_,T_,T_,T_,T_,T_,T_,T_,F_,F_,F_,F_,F_] rfl rfl (by kernel_rfl) (fun _ _ _ h => h) (Or.inl ⟨by rfl, ?_⟩) ?_ ?_
      rotate_left
      · intro w'
        go_simp
        with_reducible rfl
      rotate_left
      · simp only [Act.put, List.setIfInBounds_toArray, List.set_cons_zero, List.set_cons_succ, i64_w, i32_w]
        rfl
      refine pure_ (i := 13) (N := some 168) (v := ?_) (a' := ?_) #[T_,T_,T_,T_,T_,T_,T_,T_,T_,T_,T_,T_,T_,T_,F_,F_,F_,F_] rfl rfl (by kernel_rfl) (fun _ _ _ h => h) (Or.inl ⟨by rfl, ?_⟩) ?_ ?_
      rotate_left
      · intro w'
        go_simp
        with_reducible rfl
      rotate_left
      · simp only [Act.put, List.setIfInBounds_toArray, List.set_cons_zero, List.set_cons_succ, i64_w, i32_w]
        rfl
      refine pure_ (i := 14) (N := some 169) (v := ?_) (a' := ?_) #[T_,T_,T_,T_,T_,T_,T_,T_,T_,T_,T_,T_,T_,T_,T_,F_,F_,F_] rfl rfl (by kernel_rfl) (fun _ _ _ h => h) (Or.inl ⟨by rfl, ?_⟩) ?_ ?_
      rotate_left
      · intro w'
        go_simp
        with_reducible rfl
      rotate_left
      · simp only [Act.put, List.setIfInBounds_toArray, List.set_cons_zero, List.set_cons_succ, i64_w, i32_w]
        rfl
      refine one_ (i := 15) (N := some 170) #[T_,T_,T_,T_,T_,T_,T_,T_,T_,T_,T_,T_,T_,T_,T_,T_,F_,F_] rfl rfl (by kernel_rfl) (by decide) (fun K hK => ?_)
      refine goes_ Tryd.func10 (by kernel_rfl) rfl #[] (by rfl) rfl rfl (by simp only [List.map_toArray, List.map_nil]) ?_
      with_reducible refine (law_awake.at_ W3).mono ?_
      rintro e W4 ⟨rfl, hb4⟩
      refine ⟨_, rfl, ?_⟩
      have HB4 := Aside0.mk (ld_step HB3.out hb4)
      clear hb4
      refine hK.out _ _ trivial (fun hHeld => ?_)
      clear hK K
      refine norm_ (a' := ?_) ?_ ?_
      rotate_left
      · show Act.put _ (some 170) _ = _
        simp only [Act.put, List.setIfInBounds_toArray, List.set_cons_zero, List.set_cons_succ, i64_w, i32_w]
        rfl
      refine pure_ (i := 16) (N := some 171) (v := ?_) (a' := ?_) #[T_,T_,T_,T_,T_,T_,T_,T_,T_,T_,T_,T_,T_,T_,T_,T_,T_,F_] rfl rfl (by kernel_rfl) (fun _ _ _ h => h) (Or.inl ⟨by rfl, ?_⟩) ?_ ?_
      rotate_left
      · intro w'
        go_simp
        with_reducible rfl
      rotate_left
      · simp only [Act.put, List.setIfInBounds_toArray, List.set_cons_zero, List.set_cons_succ, i64_w, i32_w]
        rfl
      refine pure_ (i := 17) (N := some 6) (v := ?_) (a' := ?_) #[T_,T_,T_,T_,T_,T_,T_,T_,T_,T_,T_,T_,T_,T_,T_,T_,T_,T_] rfl rfl (by kernel_rfl) (fun _ _ _ h => h) (Or.inl ⟨by rfl, ?_⟩) ?_ ?_
      rotate_left
      · intro w'
        go_simp
        with_reducible rfl
      rotate_left
      · simp only [Act.put, List.setIfInBounds_toArray, List.set_cons_zero, List.set_cons_succ, i64_w, i32_w]
        rfl
      refine done_ (by kernel_rfl) ?_
      clear hHeld
      go_wp2
      go_ret
      exact ⟨rfl, HB4.out⟩
theorem remoralaw33_LedgerBack.walk (P : remoralaw33_LedgerBack.Pure) (a0 : Int) (a1 : Option Addr) (cap1 : Nat) (l1 : List S39) (a2 : Option Addr) (cap2 : Nat) (l2 : List S39) (w : World) (hG : GT w) (w0 : (Lit.int .u8 a0).wf = true) (hr1 : Kd.C k39 w a1 l1.length l1) (hc1 : l1.length ≤ cap1) (hm1 : l1.length ≤ maxLen) (y1 : l1.length * 128 ≤ 140737488351232) (hw1 : ∀ x ∈ l1, (((Lit.int .i64 x.f0).wf = true) ∧ (x.f1.size ≤ 140737488351232) ∧ ((((Lit.int .i64 x.f2.f0).wf = true) ∧ ((Lit.int .i64 x.f2.f1).wf = true) ∧ ((Lit.int .i64 x.f2.f2).wf = true) ∧ ((Lit.int .i64 x.f2.f3).wf = true) ∧ ((((Lit.int .i64 x.f2.f4.f0).wf = true) ∧ ((Lit.int .i64 x.f2.f4.f1).wf = true) ∧ ((Lit.int .i64 x.f2.f4.f2).wf = true) ∧ ((Lit.int .i64 x.f2.f4.f3).wf = true) ∧ ((Lit.int .i64 x.f2.f4.f4).wf = true))) ∧ (x.f2.f5.size ≤ 140737488351232))) ∧ (x.f3.size ≤ 140737488351232))) (hr2 : Kd.C k39 w a2 l2.length l2) (hc2 : l2.length ≤ cap2) (hm2 : l2.length ≤ maxLen) (y2 : l2.length * 128 ≤ 140737488351232) (hw2 : ∀ x ∈ l2, (((Lit.int .i64 x.f0).wf = true) ∧ (x.f1.size ≤ 140737488351232) ∧ ((((Lit.int .i64 x.f2.f0).wf = true) ∧ ((Lit.int .i64 x.f2.f1).wf = true) ∧ ((Lit.int .i64 x.f2.f2).wf = true) ∧ ((Lit.int .i64 x.f2.f3).wf = true) ∧ ((((Lit.int .i64 x.f2.f4.f0).wf = true) ∧ ((Lit.int .i64 x.f2.f4.f1).wf = true) ∧ ((Lit.int .i64 x.f2.f4.f2).wf = true) ∧ ((Lit.int .i64 x.f2.f4.f3).wf = true) ∧ ((Lit.int .i64 x.f2.f4.f4).wf = true))) ∧ (x.f2.f5.size ≤ 140737488351232))) ∧ (x.f3.size ≤ 140737488351232))) :
    Calls Tryd.prog 6 #[.int .u8 a0, .slice a1 l1.length cap1, .slice a2 l2.length cap2] w fun e w' => e = .returned (.bool true) ∧ Below w.heap.size w w' := by
  have ha : 0 ≤ a0 ∧ a0 ≤ 255 := by simp [Lit.wf, IntKind.min, IntKind.max, IntKind.signed, IntKind.bits] at w0; omega
  have hw : wrap64 a0 = a0 := by unfold wrap64; omega
  exact back_main P a0 (1 + a0) (by omega) (by rw [hw]; unfold wrap64; omega) a1 cap1 l1 a2 cap2 l2 w hG hr1 hc1 (by omega) hr2 hc2 (by omega)
end Go.Proofs.YtniboafnkiijcaaDoor.P
