-- Written by a program of the session (wip/tool/mk.py) out of the translation; Lean checks it.
import Derived.Test.YtaneollgpllbiaaPx0
import Derived.Test.YtaneollgpllbiaaPx1
namespace Go.Proofs.Ytaneollgpllbiaa.P
open Go.RowKit Go.Proofs.YtaneollgpllbiaaW.PrintWords Go.Proofs.YtaneollgpllbiaaW.PrintLast Go.Proofs.YtaneollgpllbiaaW.PrintMore
attribute [local go_sem] max2_int min2_int max_two min_two max_three min_three max_four min_four   -- for this text's walks alone
set_option linter.unusedVariables false
set_option linter.unusedSimpArgs false

/-! ### squash_finder_upto: function 28, a contract of my own -/
section
open Go.Proofs.Ytaneollgpllbiaa.Num
theorem load_step {P : Program} {o : Oper} {a : Act} {W W' : World} {x : Operand} {ty : TypeId} {u z : Value} (ho : o.op = .load ty x) (hx : a.eval x = u) (hr : (Instr.loadAt ty u).run P W = .ok z W') : (execOp a.eval o).run P W = .ok (.value z) W' := by
  unfold execOp
  simp only [ho, hx, hr, Sem.run_bind, Sem.run_pure, Result.andThen_ok]
theorem lookup_step {P : Program} {o : Oper} {a : Act} {W W' : World} {m x : Operand} {ty : TypeId} {ok : Bool} {u v z : Value} (ho : o.op = .lookup ty m x ok) (hm : a.eval m = u) (hx : a.eval x = v) (hr : (Instr.lookup ty u v ok).run P W = .ok z W') : (execOp a.eval o).run P W = .ok (.value z) W' := by
  unfold execOp
  simp only [ho, hm, hx, hr, Sem.run_bind, Sem.run_pure, Result.andThen_ok]
theorem entry_step {P : Program} {o : Oper} {a : Act} {W W' : World} {m x : Operand} {ty : TypeId} {u v z : Value} (ho : o.op = .mapEntry ty m x) (hm : a.eval m = u) (hx : a.eval x = v) (hr : (Instr.mapEntry ty u v).run P W = .ok z W') : (execOp a.eval o).run P W = .ok (.value z) W' := by
  unfold execOp
  simp only [ho, hm, hx, hr, Sem.run_bind, Sem.run_pure, Result.andThen_ok]
theorem estore_step {P : Program} {o : Oper} {a : Act} {W W' : World} {m s x : Operand} {ty : TypeId} {u v y : Value} (ho : o.op = .entryStore ty m s x) (hm : a.eval m = u) (hs : a.eval s = v) (hx : a.eval x = y) (hr : (Instr.entryStore ty u v y).run P W = .ok () W') : (execOp a.eval o).run P W = .ok .skip W' := by
  unfold execOp
  simp only [ho, hm, hs, hx, hr, Sem.run_bind, Sem.run_pure, Result.andThen_ok]
theorem lastK_neg (K : Nat → List Int) (x : List Int) : ∀ n, ¬ 0 ≤ lastK K x n → lastK K x n = -1
  | 0, _ => rfl
  | j + 1, h => by
    rw [lastK] at h ⊢
    by_cases e : K j = x
    · rw [if_pos e] at h; omega
    · rw [if_neg e] at h ⊢; exact lastK_neg K x j h
theorem rowI_cell {w : World} {b : Nat} {ok : Nat → Prop} {g m c : Nat} {xs : List Int} (h : (Kd.int .i64).R 3 w b ok (.slice (some ⟨g, 0, none⟩) m c) xs) (j : Nat) (hj : j < xs.length) : ∃ y, w.cell? ⟨g, j, none⟩ = some (.int .i64 y) := by
  obtain ⟨e, _, h2⟩ := Kd.R_reads' h
  obtain ⟨ad, e3, hx⟩ := Kd.at_int h2 (j : Int) (by omega) (by omega)
  cases e3
  rw [Int.toNat_natCast] at hx
  by_cases h0 : j = 0
  · subst h0
    exact ⟨_, by simpa [Addr.add] using hx⟩
  · exact ⟨_, by simpa [Addr.add, h0] using hx⟩
theorem key_cells {w : World} {g : Nat} {x0 x1 x2 x3 : Int} (h : w.heap[g]? = some (.cells #[.int .u8 x0, .int .u8 x1, .int .u8 x2, .int .u8 x3] 52 (0, 0))) :
    w.cell? ⟨g, 0, none⟩ = some (.int .u8 x0) ∧ w.cell? ⟨g, 1, none⟩ = some (.int .u8 x1) ∧ w.cell? ⟨g, 2, none⟩ = some (.int .u8 x2) ∧ w.cell? ⟨g, 3, none⟩ = some (.int .u8 x3) := by
  refine ⟨?_, ?_, ?_, ?_⟩ <;> rw [cell_of_row w g _ _ 52 (0, 0) h] <;> rfl
theorem rowI_form {w : World} {b : Nat} {ok : Nat → Prop} {g m c : Nat} {xs : List Int} (h : (Kd.int .i64).R 3 w b ok (.slice (some ⟨g, 0, none⟩) m c) xs) (h0 : 0 < xs.length) : ∃ cells, w.heap[g]? = some (.cells cells 3 (0, 0)) := by
  obtain ⟨g', cap', e, _, _, cells, hcell⟩ := Kd.R_form h h0
  simp only [Value.slice.injEq, Option.some.injEq, Addr.mk.injEq] at e
  obtain ⟨⟨rfl, _⟩, _⟩ := e
  exact ⟨cells, hcell⟩
theorem below_grown {b0 m : Nat} {w0 w w' : World} (h : Below b0 w0 w) (hg : w.grownBy w' (some m)) (hm : b0 ≤ m) (hs : b0 ≤ w0.heap.size := by exact Nat.le_refl _) : Below b0 w0 w' :=
  ⟨hg.os.trans h.os, hg.tape.trans h.tape, hg.output.trans h.output, Nat.le_trans h.size hg.size, fun j hj => (hg.block j (Nat.lt_of_lt_of_le hj (Nat.le_trans hs h.size)) (by simp; omega)).trans (h.block j hj)⟩
theorem load_key {w : World} {g : Nat} {x0 x1 x2 x3 : Int} (h : w.heap[g]? = some (.cells #[.int .u8 x0, .int .u8 x1, .int .u8 x2, .int .u8 x3] 52 (0, 0))) :
    (Instr.loadAt 52 (.pointer (some ⟨g, 0, none⟩))).run Try.prog w = .ok (.agg #[.int .u8 x0, .int .u8 x1, .int .u8 x2, .int .u8 x3]) w := by
  simp only [Instr.loadAt, Instr.sureAddr, Sem.run_bind, Sem.run_pure, Result.andThen_ok, run_loadVar_row w g 52 52 #[.int .u8 x0, .int .u8 x1, .int .u8 x2, .int .u8 x3] (0, 0) _ h Try.underlying52 rfl (by kernel_rfl)]
theorem fd_cells {w : World} {p : Nat} {u m v q : Value} (h : w.heap[p]? = some (.cells #[u, m, v, q] 44 (0, 0))) :
    w.cell? ⟨p, 0, none⟩ = some u ∧ w.cell? ⟨p, 1, none⟩ = some m ∧ w.cell? ⟨p, 2, none⟩ = some v ∧ w.cell? ⟨p, 3, none⟩ = some q := by
  refine ⟨?_, ?_, ?_, ?_⟩ <;> rw [cell_of_row w p _ _ 44 (0, 0) h] <;> rfl
def Ah (B : List Int) (nB k : Nat) : List Int := (List.range k).map (fun j => lastK (key4 B) (key4 B j) j) ++ List.replicate (nB - k) 0
theorem Ah_len (B : List Int) (nB k : Nat) (h : k ≤ nB) : (Ah B nB k).length = nB := by unfold Ah; simp; omega
theorem Ah_set (B : List Int) (nB k : Nat) (h : k < nB) : (Ah B nB k).set k (lastK (key4 B) (key4 B k) k) = Ah B nB (k + 1) := by
  unfold Ah
  rw [List.set_append_right _ _ (by simp)]
  simp only [List.length_map, List.length_range, Nat.sub_self]
  rw [show nB - k = (nB - (k + 1)) + 1 by omega, List.replicate_succ, List.set_cons_zero, List.range_succ, List.map_append]
  simp
theorem Ah_rd (B : List Int) (nB k j : Nat) (h : j < k) : rd (Ah B nB k) (j : Int) = lastK (key4 B) (key4 B j) j := by
  unfold Ah
  have e : (List.map (fun j => lastK (key4 B) (key4 B j) j) (List.range k) ++ List.replicate (nB - k) 0)[j]? = some (lastK (key4 B) (key4 B j) j) := by
    rw [List.getElem?_append_left (by simpa using h)]
    simp [h]
  simp [rd, List.getD_eq_getElem?_getD, e]
/-- The finder in memory: k places noted. -/
structure XOk (X : World → Prop) (OK : Nat → Prop) (p mb : Nat) : Prop where
  below : ∀ w w', X w → Below w.heap.size w w' → X w'
  setp : ∀ w v, X w → X (w.setCell ⟨p, 3, none⟩ v)
  setA : ∀ g j w v, OK g → X w → X (w.setCell ⟨g, j, none⟩ v)
  grow : ∀ w w', X w → w.grownBy w' (some mb) → X w'
structure Fd (X : World → Prop) (OK : Nat → Prop) (w0 : World) (p : Nat) (u : Value) (B : List Int) (nB mb k : Nat) (va : Value) (w : World) : Prop where
  hb0 : w0.heap.size ≤ p
  hmb : w0.heap.size ≤ mb
  hne : mb ≠ p
  hB : Below w0.heap.size w0 w
  hP : w.heap[p]? = some (.cells #[u, .map (some mb), va, .int .i64 (k : Int)] 44 (0, 0))
  hM : w.ownsMap Try.prog 52 PE mb k (mD (key4 B) k)
  hA : (Kd.int .i64).R 3 w w0.heap.size (fun j => j ≠ p ∧ j ≠ mb ∧ OK j) va (Ah B nB k)
  hX : X w
  hXO : XOk X OK p mb
theorem Fd.below {X : World → Prop} {OK : Nat → Prop} {w0 : World} {p : Nat} {u : Value} {B : List Int} {nB mb k : Nat} {va : Value} {w w' : World} (h : Fd X OK w0 p u B nB mb k va w) (hb : Below w.heap.size w w') : Fd X OK w0 p u B nB mb k va w' :=
  ⟨h.hb0, h.hmb, h.hne, below_step h.hB hb, (hb.block p (blk_lt h.hP)).trans h.hP, h.hM.kept (row := none) (grown_of_below hb none) (by simp), Kd.R_below h.hA hb, h.hXO.below _ _ h.hX hb, h.hXO⟩
set_option maxHeartbeats 8000000 in
theorem fd_upto (X : World → Prop) (OK : Nat → Prop) (w0 : World) (p : Nat) (A0 : Option Addr) (nB c0 : Nat) (B : List Int) (mb k0 i : Nat) (va : Value) (w : World) (h : Fd X OK w0 p (.slice A0 nB c0) B nB mb k0 va w) (hB : B.length = nB) (hC : Kd.C (Kd.int .u8) w0 A0 nB B) (hc0 : nB ≤ c0) (hk : k0 ≤ i) (hi : i + 4 ≤ nB) (hnB : nB ≤ 65536) (hby : ∀ x ∈ B, 0 ≤ x ∧ x ≤ 255) :
    Calls Try.prog 28 #[.pointer (some ⟨p, 0, none⟩), .int .i64 i] w fun e w' => e = .returned (.tuple #[]) ∧ Fd X OK w0 p (.slice A0 nB c0) B nB mb i va w' := by
  obtain ⟨ga, ca, rfl⟩ : ∃ ga ca, va = .slice (some ⟨ga, 0, none⟩) nB ca := by
    obtain ⟨_, inner, hown, _⟩ := h.hA
    rcases hown.2 with ⟨_, hn⟩ | ⟨g, cap, cur, e, _⟩
    · rw [Ah_len B nB k0 (by omega)] at hn; omega
    · exact ⟨g, cap, by rw [e, Ah_len B nB k0 (by omega)]⟩
  have hK4 : ∀ j, j < i → K4 (key4 B j) := fun j hj => ⟨by rw [key4_eq B j (by omega)]; rfl, fun x hx => hby x (List.mem_of_mem_drop (List.mem_of_mem_take hx))⟩
  have HK4 := Aside0.mk hK4
  have HBL := Aside0.mk hB
  have HC := Aside0.mk hC
  have HC0 := Aside0.mk hc0
  have HI := Aside0.mk (And.intro hi hnB)
  have HF0 := Aside0.mk h
  have HK0 := Aside0.mk hk
  clear h hB hC hc0 hk hi hnB hby hK4
  go_enter Try.func28, Try.ntmps28
  go_wp2
  go_loopg [4] (i - k0) (fun g v4 w' => ∃ k : Nat, g = i - k ∧ Aside0 (k ≤ i) ∧ Aside0 (Fd X OK w0 p (.slice A0 nB c0) B nB mb k (.slice (some ⟨ga, 0, none⟩) nB ca) w'))
  case atStart => exact ⟨k0, rfl, HK0, HF0⟩
  case round =>
    clear HF0 HK0
    obtain ⟨k, rfl, HKI, HF⟩ := hrel
    by_cases c1 : k < i
    · have hI := HI.out
      have e1 : decide ((k : Int) < (i : Int)) = true := decide_eq_true (by omega)
      have e1' : decide (k < i) = true := decide_eq_true c1
      have e1t : (k < i) = True := eq_true c1
      obtain ⟨k4, hk4⟩ : ∃ k4 : Nat, k4 = k + 4 := ⟨_, rfl⟩
      have hadd : wrap64 ((k : Int) + 4) = (k4 : Int) := by unfold wrap64; omega
      have e2 : decide ((k4 : Int) ≤ (nB : Int)) = true := decide_eq_true (by omega)
      have e2' : decide (k4 ≤ nB) = true := decide_eq_true (by omega)
      have e2t : (k4 ≤ nB) = True := eq_true (by omega)
      have HX := Aside0.mk (show k < i ∧ k + 4 ≤ nB from ⟨c1, by omega⟩)
      clear hI hk4 c1
      go_wp2_with fail
      refine start_ (n := 19) (S := fun w' => w'.cell? ⟨p, 3, none⟩ = some (.int .i64 (k : Int)) ∧ w'.cell? ⟨p, 0, none⟩ = some (.slice A0 nB c0)) (ds := []) #[false, false, false, false, false, false, false, false, false, false, false, false, false, false, false, false, false, false, false] (by kernel_rfl) rfl rfl ⟨(fd_cells HF.out.hP).2.2.2, (fd_cells HF.out.hP).1⟩ (fun hHeld => ?_)
      refine pure_ (i := 0) (N := some 7) (v := ?_) (a' := ?_) #[true, false, false, false, false, false, false, false, false, false, false, false, false, false, false, false, false, false, false] rfl rfl (by kernel_rfl) (fun _ _ _ h => h) (Or.inl ⟨by rfl, ?_⟩) ?_ ?_
      rotate_left
      · intro w'
        go_simp
        with_reducible rfl
      rotate_left
      · simp only [Act.put, List.setIfInBounds_toArray, List.set_cons_zero, List.set_cons_succ, i64_w, i32_w]
        rfl
      refine pure_ (i := 1) (N := some 8) (v := ?_) (a' := ?_) #[true, true, false, false, false, false, false, false, false, false, false, false, false, false, false, false, false, false, false] rfl rfl (by kernel_rfl) (fun _ _ _ h => h) (Or.inl ⟨by rfl, ?_⟩) ?_ ?_
      rotate_left
      · intro w'
        go_simp
        with_reducible rfl
      rotate_left
      · simp only [Act.put, List.setIfInBounds_toArray, List.set_cons_zero, List.set_cons_succ, i64_w, i32_w]
        rfl
      refine pure_ (i := 2) (N := some 9) (v := ?_) (a' := ?_) #[true, true, true, false, false, false, false, false, false, false, false, false, false, false, false, false, false, false, false] rfl rfl (by kernel_rfl) (fun _ _ _ h => h) (Or.inl ⟨by rfl, ?_⟩) ?_ ?_
      rotate_left
      · intro w'
        go_simp
        with_reducible rfl
      rotate_left
      · simp only [Act.put, List.setIfInBounds_toArray, List.set_cons_zero, List.set_cons_succ, i64_w, i32_w]
        rfl
      refine pure_ (i := 4) (N := some 11) (v := ?_) (a' := ?_) #[true, true, true, false, true, false, false, false, false, false, false, false, false, false, false, false, false, false, false] rfl rfl (by kernel_rfl) (fun _ _ _ h => h) (Or.inl ⟨by rfl, ?_⟩) ?_ ?_
      rotate_left
      · intro w'
        go_simp
        with_reducible rfl
      rotate_left
      · simp only [Act.put, List.setIfInBounds_toArray, List.set_cons_zero, List.set_cons_succ, i64_w, i32_w]
        rfl
      refine take_ (i := 3) (N := some 10) (v := ?_) (a' := ?_) #[true, true, true, true, true, false, false, false, false, false, false, false, false, false, false, false, false, false, false] rfl rfl (by kernel_rfl) (fun _ _ _ h => h) (Or.inl ⟨by rfl, ?_⟩) hHeld ?_ ?_
      rotate_left
      · rintro w' ⟨s0, s1⟩
        go_simp
        with_reducible rfl
      rotate_left
      · simp only [Act.put, List.setIfInBounds_toArray, List.set_cons_zero, List.set_cons_succ, i64_w, i32_w]
        rfl
      refine pure_ (i := 5) (N := some 12) (v := ?_) (a' := ?_) #[true, true, true, true, true, true, false, false, false, false, false, false, false, false, false, false, false, false, false] rfl rfl (by kernel_rfl) (fun _ _ _ h => h) (Or.inl ⟨by rfl, ?_⟩) ?_ ?_
      rotate_left
      · intro w'
        go_simp
        with_reducible rfl
      rotate_left
      · simp only [Act.put, List.setIfInBounds_toArray, List.set_cons_zero, List.set_cons_succ, i64_w, i32_w]
        rfl
      refine pure_ (i := 6) (N := some 13) (v := ?_) (a' := ?_) #[true, true, true, true, true, true, true, false, false, false, false, false, false, false, false, false, false, false, false] rfl rfl (by kernel_rfl) (fun _ _ _ h => h) (Or.inl ⟨by rfl, ?_⟩) ?_ ?_
      rotate_left
      · intro w'
        go_simp
        with_reducible rfl
      rotate_left
      · simp only [Act.put, List.setIfInBounds_toArray, List.set_cons_zero, List.set_cons_succ, i64_w, i32_w]
        rfl
      refine pure_ (i := 7) (N := some 14) (v := ?_) (a' := ?_) #[true, true, true, true, true, true, true, true, false, false, false, false, false, false, false, false, false, false, false] rfl rfl (by kernel_rfl) (fun _ _ _ h => h) (Or.inl ⟨by rfl, ?_⟩) ?_ ?_
      rotate_left
      · intro w'
        go_simp
        with_reducible rfl
      rotate_left
      · simp only [Act.put, List.setIfInBounds_toArray, List.set_cons_zero, List.set_cons_succ, i64_w, i32_w]
        rfl
      refine pure_ (i := 8) (N := some 15) (v := ?_) (a' := ?_) #[true, true, true, true, true, true, true, true, true, false, false, false, false, false, false, false, false, false, false] rfl rfl (by kernel_rfl) (fun _ _ _ h => h) (Or.inl ⟨by rfl, ?_⟩) ?_ ?_
      rotate_left
      · intro w'
        go_simp
        with_reducible rfl
      rotate_left
      · simp only [Act.put, List.setIfInBounds_toArray, List.set_cons_zero, List.set_cons_succ, i64_w, i32_w]
        rfl
      refine pure_ (i := 9) (N := some 16) (v := ?_) (a' := ?_) #[true, true, true, true, true, true, true, true, true, true, false, false, false, false, false, false, false, false, false] rfl rfl (by kernel_rfl) (fun _ _ _ h => h) (Or.inl ⟨by rfl, ?_⟩) ?_ ?_
      rotate_left
      · intro w'
        go_simp
        with_reducible rfl
      rotate_left
      · simp only [Act.put, List.setIfInBounds_toArray, List.set_cons_zero, List.set_cons_succ, i64_w, i32_w]
        rfl
      refine pure_ (i := 12) (N := some 19) (v := ?_) (a' := ?_) #[true, true, true, true, true, true, true, true, true, true, false, false, true, false, false, false, false, false, false] rfl rfl (by kernel_rfl) (fun _ _ _ h => h) (Or.inl ⟨by rfl, ?_⟩) ?_ ?_
      rotate_left
      · intro w'
        go_simp
        with_reducible rfl
      rotate_left
      · simp only [Act.put, List.setIfInBounds_toArray, List.set_cons_zero, List.set_cons_succ, i64_w, i32_w]
        rfl
      refine pure_ (i := 13) (N := some 20) (v := ?_) (a' := ?_) #[true, true, true, true, true, true, true, true, true, true, false, false, true, true, false, false, false, false, false] rfl rfl (by kernel_rfl) (fun _ _ _ h => h) (Or.inl ⟨by rfl, ?_⟩) ?_ ?_
      rotate_left
      · intro w'
        go_simp
        with_reducible rfl
      rotate_left
      · simp only [Act.put, List.setIfInBounds_toArray, List.set_cons_zero, List.set_cons_succ, i64_w, i32_w]
        rfl
      refine pure_ (i := 14) (N := some 21) (v := ?_) (a' := ?_) #[true, true, true, true, true, true, true, true, true, true, false, false, true, true, true, false, false, false, false] rfl rfl (by kernel_rfl) (fun _ _ _ h => h) (Or.inl ⟨by rfl, ?_⟩) ?_ ?_
      rotate_left
      · intro w'
        go_simp
        with_reducible rfl
      rotate_left
      · simp only [Act.put, List.setIfInBounds_toArray, List.set_cons_zero, List.set_cons_succ, i64_w, i32_w]
        rfl
      refine take_ (i := 10) (N := some 17) (v := ?_) (a' := ?_) #[true, true, true, true, true, true, true, true, true, true, true, false, true, true, true, false, false, false, false] rfl rfl (by kernel_rfl) (fun _ _ _ h => h) (Or.inl ⟨by rfl, ?_⟩) hHeld ?_ ?_
      rotate_left
      · rintro w' ⟨s0, s1⟩
        go_simp
        with_reducible rfl
      rotate_left
      · simp only [Act.put, List.setIfInBounds_toArray, List.set_cons_zero, List.set_cons_succ, i64_w, i32_w]
        rfl
      refine pure_ (i := 11) (N := some 18) (v := ?_) (a' := ?_) #[true, true, true, true, true, true, true, true, true, true, true, true, true, true, true, false, false, false, false] rfl rfl (by kernel_rfl) (fun _ _ _ h => h) (Or.inl ⟨by rfl, ?_⟩) ?_ ?_
      rotate_left
      · intro w'
        go_simp
        with_reducible rfl
      rotate_left
      · simp only [Act.put, List.setIfInBounds_toArray, List.set_cons_zero, List.set_cons_succ, i64_w, i32_w]
        rfl
      refine take_ (i := 15) (N := some 22) (v := ?_) (a' := ?_) #[true, true, true, true, true, true, true, true, true, true, true, true, true, true, true, true, false, false, false] rfl rfl (by kernel_rfl) (fun _ _ _ h => h) (Or.inl ⟨by rfl, ?_⟩) hHeld ?_ ?_
      rotate_left
      · rintro w' ⟨s0, s1⟩
        go_simp
        with_reducible rfl
      rotate_left
      · simp only [Act.put, List.setIfInBounds_toArray, List.set_cons_zero, List.set_cons_succ, i64_w, i32_w]
        rfl
      refine pure_ (i := 16) (N := some 23) (v := ?_) (a' := ?_) #[true, true, true, true, true, true, true, true, true, true, true, true, true, true, true, true, true, false, false] rfl rfl (by kernel_rfl) (fun _ _ _ h => h) (Or.inl ⟨by rfl, ?_⟩) ?_ ?_
      rotate_left
      · intro w'
        go_simp
        with_reducible rfl
      rotate_left
      · simp only [Act.put, List.setIfInBounds_toArray, List.set_cons_zero, List.set_cons_succ, i64_w, i32_w]
        rfl
      refine pure_ (i := 17) (N := some 24) (v := ?_) (a' := ?_) #[true, true, true, true, true, true, true, true, true, true, true, true, true, true, true, true, true, true, false] rfl rfl (by kernel_rfl) (fun _ _ _ h => h) (Or.inl ⟨by rfl, ?_⟩) ?_ ?_
      rotate_left
      · intro w'
        go_simp
        with_reducible rfl
      rotate_left
      · simp only [Act.put, List.setIfInBounds_toArray, List.set_cons_zero, List.set_cons_succ, i64_w, i32_w]
        rfl
      refine pure_ (i := 18) (N := some 25) (v := ?_) (a' := ?_) #[true, true, true, true, true, true, true, true, true, true, true, true, true, true, true, true, true, true, true] rfl rfl (by kernel_rfl) (fun _ _ _ h => h) (Or.inl ⟨by rfl, ?_⟩) ?_ ?_
      rotate_left
      · intro w'
        go_simp
        with_reducible rfl
      rotate_left
      · simp only [Act.put, List.setIfInBounds_toArray, List.set_cons_zero, List.set_cons_succ, i64_w, i32_w]
        rfl
      refine done_ (by kernel_rfl) ?_
      have HF1 := Aside0.mk (HF.out.below (below_drew (Below.refl _ _)))
      clear hHeld HF
      generalize wr.drew = w1 at HF1 ⊢
      have q3 := (fd_cells HF1.out.hP).2.2.2
      obtain ⟨x0, x1, x2, x3, hx4⟩ : ∃ x0 x1 x2 x3, key4 B k = [x0, x1, x2, x3] := ⟨_, _, _, _, key4_eq B k (by have := HX.out; have := HBL.out; omega)⟩
      have HX4 := Aside0.mk hx4
      clear hx4
      go_wp2_with fail
      refine (fd_key p A0 nB c0 B k _ (fd_cells HF1.out.hP).1 HBL.out (Kd.C_below HC.out HF1.out.hB) HC0.out HX.out.2 HI.out.2).mono ?_
      rintro e w1' ⟨he, hb1⟩
      rw [HX4.out] at he
      replace he : e = .returned (.agg #[.int .u8 x0, .int .u8 x1, .int .u8 x2, .int .u8 x3]) := he
      subst he
      have HF1' := Aside0.mk (HF1.out.below hb1)
      clear q3 HF1 hb1
      go_wp2_with fail
      have HF2 := Aside0.mk (HF1'.out.below (below_alloc (Below.refl _ w1') (.cells #[.int .u8 x0, .int .u8 x1, .int .u8 x2, .int .u8 x3] 52)))
      have HG2 : Aside0 ((w1'.alloc (.cells #[.int .u8 x0, .int .u8 x1, .int .u8 x2, .int .u8 x3] 52)).heap[w1'.heap.size]? = some (.cells #[.int .u8 x0, .int .u8 x1, .int .u8 x2, .int .u8 x3] 52 (0, 0))) := ⟨by simpa using heap_alloc_new w1' _⟩
      clear HF1'
      generalize w1'.alloc (.cells #[.int .u8 x0, .int .u8 x1, .int .u8 x2, .int .u8 x3] 52) = w2 at HF2 HG2 ⊢
      generalize w1'.heap.size = gk at HG2 ⊢
      have HLd := Aside0.mk (load_key (w := w2.drew) (g := gk) HG2.out)
      obtain ⟨L, hLL⟩ : ∃ L, L = lastK (key4 B) (key4 B k) k := ⟨_, rfl⟩
      obtain ⟨c, hlk, hc⟩ := map_look (HF2.out.hM.drew) (fun j hj => HK4.out j (by have := HX.out; omega)) (HK4.out k HX.out.1)
      rw [← hLL] at hlk hc
      rw [HX4.out] at hlk
      have HLL := Aside0.mk hLL
      clear hLL
      by_cases cL : 0 ≤ L
      · skip
        have HLk := Aside0.mk (decide_eq_true cL ▸ hlk)
        obtain rfl : L = c := (hc cL).symm
        have HcL := Aside0.mk cL
        clear hlk hc cL
        go_wp2_with fail
        refine start_ (n := 11) (S := fun w' => w'.cell? ⟨p, 1, none⟩ = some (.map (some mb))) (ds := []) #[false, false, false, false, false, false, false, false, false, false, false] (by kernel_rfl) rfl rfl ((fd_cells HF2.out.hP).2.1) (fun hHeld => ?_)
        refine pure_ (i := 0) (N := some 40) (v := ?_) (a' := ?_) #[true, false, false, false, false, false, false, false, false, false, false] rfl rfl (by kernel_rfl) (fun _ _ _ h => h) (Or.inl ⟨by rfl, ?_⟩) ?_ ?_
        rotate_left
        · intro w'
          go_simp
          with_reducible rfl
        rotate_left
        · simp only [Act.put, List.setIfInBounds_toArray, List.set_cons_zero, List.set_cons_succ, i64_w, i32_w]
          rfl
        refine pure_ (i := 1) (N := some 41) (v := ?_) (a' := ?_) #[true, true, false, false, false, false, false, false, false, false, false] rfl rfl (by kernel_rfl) (fun _ _ _ h => h) (Or.inl ⟨by rfl, ?_⟩) ?_ ?_
        rotate_left
        · intro w'
          go_simp
          with_reducible rfl
        rotate_left
        · simp only [Act.put, List.setIfInBounds_toArray, List.set_cons_zero, List.set_cons_succ, i64_w, i32_w]
          rfl
        refine pure_ (i := 2) (N := some 42) (v := ?_) (a' := ?_) #[true, true, true, false, false, false, false, false, false, false, false] rfl rfl (by kernel_rfl) (fun _ _ _ h => h) (Or.inl ⟨by rfl, ?_⟩) ?_ ?_
        rotate_left
        · intro w'
          go_simp
          with_reducible rfl
        rotate_left
        · simp only [Act.put, List.setIfInBounds_toArray, List.set_cons_zero, List.set_cons_succ, i64_w, i32_w]
          rfl
        refine take_ (i := 3) (N := some 43) (v := ?_) (a' := ?_) #[true, true, true, true, false, false, false, false, false, false, false] rfl rfl (by kernel_rfl) (fun _ _ _ h => h) (Or.inl ⟨by rfl, ?_⟩) hHeld ?_ ?_
        rotate_left
        · intro w' s0
          go_simp
          with_reducible rfl
        rotate_left
        · simp only [Act.put, List.setIfInBounds_toArray, List.set_cons_zero, List.set_cons_succ, i64_w, i32_w]
          rfl
        refine one_ (i := 4) (N := some 44) #[true, true, true, true, true, false, false, false, false, false, false] rfl rfl (by kernel_rfl) (by decide) (fun K hK => ?_)
        refine value_ (w1 := w2.drew) (by rfl) rfl (load_step rfl rfl HLd.out) ?_
        refine hK.out _ _ ((fd_cells HF2.out.hP).2.1) (fun hHeld => ?_)
        clear hK K
        refine norm_ (a' := ?_) ?_ ?_
        rotate_left
        · show Act.put _ (some 44) _ = _
          simp only [Act.put, List.setIfInBounds_toArray, List.set_cons_zero, List.set_cons_succ, i64_w, i32_w]
          rfl
        refine one_ (i := 5) (N := some 45) #[true, true, true, true, true, true, false, false, false, false, false] rfl rfl (by kernel_rfl) (by decide) (fun K hK => ?_)
        refine value_ (w1 := w2.drew) (by rfl) rfl (lookup_step rfl rfl rfl HLk.out) ?_
        refine hK.out _ _ ((fd_cells HF2.out.hP).2.1) (fun hHeld => ?_)
        clear hK K
        refine norm_ (a' := ?_) ?_ ?_
        rotate_left
        · show Act.put _ (some 45) _ = _
          simp only [Act.put, List.setIfInBounds_toArray, List.set_cons_zero, List.set_cons_succ, i64_w, i32_w]
          rfl
        refine pure_ (i := 6) (N := some 39) (v := ?_) (a' := ?_) #[true, true, true, true, true, true, true, false, false, false, false] rfl rfl (by kernel_rfl) (fun _ _ _ h => h) (Or.inl ⟨by rfl, ?_⟩) ?_ ?_
        rotate_left
        · intro w'
          go_simp
          with_reducible rfl
        rotate_left
        · simp only [Act.put, List.setIfInBounds_toArray, List.set_cons_zero, List.set_cons_succ, i64_w, i32_w]
          rfl
        refine pure_ (i := 7) (N := some 46) (v := ?_) (a' := ?_) #[true, true, true, true, true, true, true, true, false, false, false] rfl rfl (by kernel_rfl) (fun _ _ _ h => h) (Or.inl ⟨by rfl, ?_⟩) ?_ ?_
        rotate_left
        · intro w'
          go_simp
          with_reducible rfl
        rotate_left
        · simp only [Act.put, List.setIfInBounds_toArray, List.set_cons_zero, List.set_cons_succ, i64_w, i32_w]
          rfl
        refine pure_ (i := 8) (N := some 47) (v := ?_) (a' := ?_) #[true, true, true, true, true, true, true, true, true, false, false] rfl rfl (by kernel_rfl) (fun _ _ _ h => h) (Or.inl ⟨by rfl, ?_⟩) ?_ ?_
        rotate_left
        · intro w'
          go_simp
          with_reducible rfl
        rotate_left
        · simp only [Act.put, List.setIfInBounds_toArray, List.set_cons_zero, List.set_cons_succ, i64_w, i32_w]
          rfl
        refine pure_ (i := 9) (N := some 5) (v := ?_) (a' := ?_) #[true, true, true, true, true, true, true, true, true, true, false] rfl rfl (by kernel_rfl) (fun _ _ _ h => h) (Or.inl ⟨by rfl, ?_⟩) ?_ ?_
        rotate_left
        · intro w'
          go_simp
          with_reducible rfl
        rotate_left
        · simp only [Act.put, List.setIfInBounds_toArray, List.set_cons_zero, List.set_cons_succ, i64_w, i32_w]
          rfl
        refine pure_ (i := 10) (N := some 6) (v := ?_) (a' := ?_) #[true, true, true, true, true, true, true, true, true, true, true] rfl rfl (by kernel_rfl) (fun _ _ _ h => h) (Or.inl ⟨by rfl, ?_⟩) ?_ ?_
        rotate_left
        · intro w'
          go_simp
          with_reducible rfl
        rotate_left
        · simp only [Act.put, List.setIfInBounds_toArray, List.set_cons_zero, List.set_cons_succ, i64_w, i32_w]
          rfl
        refine done_ (by kernel_rfl) ?_
        have HF3 := Aside0.mk (HF2.out.below (below_drew (Below.refl _ _)))
        have HK3_ : Aside0 (w2.drew.heap[gk]? = _) := HG2
        clear hHeld HF2 HLk HLd HG2
        generalize w2.drew = w3 at HF3 HK3_ ⊢
        have hgp := HF3.out.hA.1 ga rfl
        have HGP := Aside0.mk hgp
        have hkn : k < nB := by have := HX.out; omega
        have kk1 : (0 ≤ (k : Int)) = True := eq_true (by omega)
        have kk2 : ((k : Int) < (nB : Int)) = True := eq_true (by omega)
        have kk3 : (k < nB) = True := eq_true hkn
        obtain ⟨y, hy⟩ : ∃ y, w3.cell? ⟨ga, k, none⟩ = some (.int .i64 y) := rowI_cell HF3.out.hA k (by rw [Ah_len B nB k (by omega)]; exact hkn)
        have hyf : w3.frozen? ⟨ga, k, none⟩ = false := by
          obtain ⟨cells, hcell⟩ := rowI_form HF3.out.hA (by rw [Ah_len B nB k (by omega)]; omega)
          exact blk_frozen hcell k
        have HPUT := Aside0.mk (Kd.R_putg (enc := Value.int .i64) (h1 := fun _ => rfl) HF3.out.hA (k : Int) L)
        rw [Int.toNat_natCast] at HPUT
        have HP4 : Aside0 (((w3.setCell ⟨ga, k, none⟩ (.int .i64 L)).drew).heap[p]? = some (.cells #[.slice A0 nB c0, .map (some mb), .slice (some ⟨ga, 0, none⟩) nB ca, .int .i64 (k : Int)] 44 (0, 0))) := ⟨blk_far HF3.out.hP (p := ⟨ga, k, none⟩) (Ne.symm hgp.1) _⟩
        obtain ⟨v0, st, w5, w6, hr1, hg1, hs1, hr2, hown, hg2, hs2⟩ := map_store (w := (w3.setCell ⟨ga, k, none⟩ (.int .i64 L)).drew) (b := mb) (n := k) (K := key4 B) ((HF3.out.hM.kept HPUT.out.2 (by simpa using Ne.symm hgp.2.1)).drew) (HK4.out k HX.out.1) (by have := HI.out; omega)
        have hgm : gk ≠ mb := fun e => by
          obtain ⟨es, cl, hm, _⟩ := HF3.out.hM
          have := HK3_.out
          rw [e, hm] at this
          cases this
        have hgga : gk ≠ ga := fun e => by
          obtain ⟨cells, hcell⟩ := rowI_form HF3.out.hA (by rw [Ah_len B nB k (by omega)]; omega)
          have := HK3_.out
          rw [e, hcell] at this
          cases this
        have HK4_ : Aside0 (((w3.setCell ⟨ga, k, none⟩ (.int .i64 L)).drew).heap[gk]? = some (.cells #[.int .u8 x0, .int .u8 x1, .int .u8 x2, .int .u8 x3] 52 (0, 0))) := ⟨blk_far HK3_.out (p := ⟨ga, k, none⟩) hgga _⟩
        have HK5_ := Aside0.mk ((hg1.block gk (blk_lt HK4_.out) (by simpa using hgm)).trans HK4_.out)
        rw [HX4.out] at hr1
        have HE1 := Aside0.mk hr1
        have HE2 := Aside0.mk hr2
        have HP5 := Aside0.mk ((hg1.block p (blk_lt HP4.out) (by simpa using Ne.symm HF3.out.hne)).trans HP4.out)
        have HP6 := Aside0.mk ((hg2.block p (blk_lt HP4.out) (by simpa using Ne.symm HF3.out.hne)).trans HP4.out)
        have HOWN := Aside0.mk hown
        have HG2' := Aside0.mk hg2
        have HS2 := Aside0.mk hs2
        clear hr1 hr2 hown hg1 hg2 hs1 hs2 hgp hkn hgm hgga
        go_wp2_with fail
        refine start_ (n := 23) (S := fun w' => w'.cell? ⟨p, 1, none⟩ = some (.map (some mb)) ∧ w'.cell? ⟨p, 2, none⟩ = some (.slice (some ⟨ga, 0, none⟩) nB ca) ∧ w'.cell? ⟨p, 3, none⟩ = some (.int .i64 (k : Int)) ∧ w'.cell? ⟨gk, 0, none⟩ = some (.int .u8 x0) ∧ w'.cell? ⟨gk, 1, none⟩ = some (.int .u8 x1) ∧ w'.cell? ⟨gk, 2, none⟩ = some (.int .u8 x2) ∧ w'.cell? ⟨gk, 3, none⟩ = some (.int .u8 x3)) (ds := [22]) #[false, false, false, false, false, false, false, false, false, false, false, false, false, false, false, false, false, false, false, false, false, false, false] (by kernel_rfl) rfl rfl ⟨(fd_cells HF3.out.hP).2.1, (fd_cells HF3.out.hP).2.2.1, (fd_cells HF3.out.hP).2.2.2, (key_cells HK3_.out).1, (key_cells HK3_.out).2.1, (key_cells HK3_.out).2.2.1, (key_cells HK3_.out).2.2.2⟩ (fun hHeld => ?_)
        refine pure_ (i := 0) (N := some 50) (v := ?_) (a' := ?_) #[true, false, false, false, false, false, false, false, false, false, false, false, false, false, false, false, false, false, false, false, false, false, false] rfl rfl (by kernel_rfl) (fun _ _ _ h => h) (Or.inl ⟨by rfl, ?_⟩) ?_ ?_
        rotate_left
        · intro w'
          go_simp
          with_reducible rfl
        rotate_left
        · simp only [Act.put, List.setIfInBounds_toArray, List.set_cons_zero, List.set_cons_succ, i64_w, i32_w]
          rfl
        refine pure_ (i := 1) (N := some 51) (v := ?_) (a' := ?_) #[true, true, false, false, false, false, false, false, false, false, false, false, false, false, false, false, false, false, false, false, false, false, false] rfl rfl (by kernel_rfl) (fun _ _ _ h => h) (Or.inl ⟨by rfl, ?_⟩) ?_ ?_
        rotate_left
        · intro w'
          go_simp
          with_reducible rfl
        rotate_left
        · simp only [Act.put, List.setIfInBounds_toArray, List.set_cons_zero, List.set_cons_succ, i64_w, i32_w]
          rfl
        refine pure_ (i := 2) (N := some 52) (v := ?_) (a' := ?_) #[true, true, true, false, false, false, false, false, false, false, false, false, false, false, false, false, false, false, false, false, false, false, false] rfl rfl (by kernel_rfl) (fun _ _ _ h => h) (Or.inl ⟨by rfl, ?_⟩) ?_ ?_
        rotate_left
        · intro w'
          go_simp
          with_reducible rfl
        rotate_left
        · simp only [Act.put, List.setIfInBounds_toArray, List.set_cons_zero, List.set_cons_succ, i64_w, i32_w]
          rfl
        refine pure_ (i := 4) (N := some 54) (v := ?_) (a' := ?_) #[true, true, true, false, true, false, false, false, false, false, false, false, false, false, false, false, false, false, false, false, false, false, false] rfl rfl (by kernel_rfl) (fun _ _ _ h => h) (Or.inl ⟨by rfl, ?_⟩) ?_ ?_
        rotate_left
        · intro w'
          go_simp
          with_reducible rfl
        rotate_left
        · simp only [Act.put, List.setIfInBounds_toArray, List.set_cons_zero, List.set_cons_succ, i64_w, i32_w]
          rfl
        refine pure_ (i := 5) (N := some 55) (v := ?_) (a' := ?_) #[true, true, true, false, true, true, false, false, false, false, false, false, false, false, false, false, false, false, false, false, false, false, false] rfl rfl (by kernel_rfl) (fun _ _ _ h => h) (Or.inl ⟨by rfl, ?_⟩) ?_ ?_
        rotate_left
        · intro w'
          go_simp
          with_reducible rfl
        rotate_left
        · simp only [Act.put, List.setIfInBounds_toArray, List.set_cons_zero, List.set_cons_succ, i64_w, i32_w]
          rfl
        refine pure_ (i := 6) (N := some 56) (v := ?_) (a' := ?_) #[true, true, true, false, true, true, true, false, false, false, false, false, false, false, false, false, false, false, false, false, false, false, false] rfl rfl (by kernel_rfl) (fun _ _ _ h => h) (Or.inl ⟨by rfl, ?_⟩) ?_ ?_
        rotate_left
        · intro w'
          go_simp
          with_reducible rfl
        rotate_left
        · simp only [Act.put, List.setIfInBounds_toArray, List.set_cons_zero, List.set_cons_succ, i64_w, i32_w]
          rfl
        refine pure_ (i := 8) (N := some 58) (v := ?_) (a' := ?_) #[true, true, true, false, true, true, true, false, true, false, false, false, false, false, false, false, false, false, false, false, false, false, false] rfl rfl (by kernel_rfl) (fun _ _ _ h => h) (Or.inl ⟨by rfl, ?_⟩) ?_ ?_
        rotate_left
        · intro w'
          go_simp
          with_reducible rfl
        rotate_left
        · simp only [Act.put, List.setIfInBounds_toArray, List.set_cons_zero, List.set_cons_succ, i64_w, i32_w]
          rfl
        refine pure_ (i := 9) (N := some 59) (v := ?_) (a' := ?_) #[true, true, true, false, true, true, true, false, true, true, false, false, false, false, false, false, false, false, false, false, false, false, false] rfl rfl (by kernel_rfl) (fun _ _ _ h => h) (Or.inl ⟨by rfl, ?_⟩) ?_ ?_
        rotate_left
        · intro w'
          go_simp
          with_reducible rfl
        rotate_left
        · simp only [Act.put, List.setIfInBounds_toArray, List.set_cons_zero, List.set_cons_succ, i64_w, i32_w]
          rfl
        refine pure_ (i := 10) (N := some 60) (v := ?_) (a' := ?_) #[true, true, true, false, true, true, true, false, true, true, true, false, false, false, false, false, false, false, false, false, false, false, false] rfl rfl (by kernel_rfl) (fun _ _ _ h => h) (Or.inl ⟨by rfl, ?_⟩) ?_ ?_
        rotate_left
        · intro w'
          go_simp
          with_reducible rfl
        rotate_left
        · simp only [Act.put, List.setIfInBounds_toArray, List.set_cons_zero, List.set_cons_succ, i64_w, i32_w]
          rfl
        refine pure_ (i := 13) (N := some 63) (v := ?_) (a' := ?_) #[true, true, true, false, true, true, true, false, true, true, true, false, false, true, false, false, false, false, false, false, false, false, false] rfl rfl (by kernel_rfl) (fun _ _ _ h => h) (Or.inl ⟨by rfl, ?_⟩) ?_ ?_
        rotate_left
        · intro w'
          go_simp
          with_reducible rfl
        rotate_left
        · simp only [Act.put, List.setIfInBounds_toArray, List.set_cons_zero, List.set_cons_succ, i64_w, i32_w]
          rfl
        refine pure_ (i := 14) (N := some 64) (v := ?_) (a' := ?_) #[true, true, true, false, true, true, true, false, true, true, true, false, false, true, true, false, false, false, false, false, false, false, false] rfl rfl (by kernel_rfl) (fun _ _ _ h => h) (Or.inl ⟨by rfl, ?_⟩) ?_ ?_
        rotate_left
        · intro w'
          go_simp
          with_reducible rfl
        rotate_left
        · simp only [Act.put, List.setIfInBounds_toArray, List.set_cons_zero, List.set_cons_succ, i64_w, i32_w]
          rfl
        refine pure_ (i := 15) (N := some 65) (v := ?_) (a' := ?_) #[true, true, true, false, true, true, true, false, true, true, true, false, false, true, true, true, false, false, false, false, false, false, false] rfl rfl (by kernel_rfl) (fun _ _ _ h => h) (Or.inl ⟨by rfl, ?_⟩) ?_ ?_
        rotate_left
        · intro w'
          go_simp
          with_reducible rfl
        rotate_left
        · simp only [Act.put, List.setIfInBounds_toArray, List.set_cons_zero, List.set_cons_succ, i64_w, i32_w]
          rfl
        refine pure_ (i := 16) (N := some 66) (v := ?_) (a' := ?_) #[true, true, true, false, true, true, true, false, true, true, true, false, false, true, true, true, true, false, false, false, false, false, false] rfl rfl (by kernel_rfl) (fun _ _ _ h => h) (Or.inl ⟨by rfl, ?_⟩) ?_ ?_
        rotate_left
        · intro w'
          go_simp
          with_reducible rfl
        rotate_left
        · simp only [Act.put, List.setIfInBounds_toArray, List.set_cons_zero, List.set_cons_succ, i64_w, i32_w]
          rfl
        refine take_ (i := 3) (N := some 53) (v := ?_) (a' := ?_) #[true, true, true, true, true, true, true, false, true, true, true, false, false, true, true, true, true, false, false, false, false, false, false] rfl rfl (by kernel_rfl) (fun _ _ _ h => h) (Or.inl ⟨by rfl, ?_⟩) hHeld ?_ ?_
        rotate_left
        · rintro w' ⟨s0, s1, s2, s3, s4, s5, s6⟩
          go_simp
          with_reducible rfl
        rotate_left
        · simp only [Act.put, List.setIfInBounds_toArray, List.set_cons_zero, List.set_cons_succ, i64_w, i32_w]
          rfl
        refine take_ (i := 7) (N := some 57) (v := ?_) (a' := ?_) #[true, true, true, true, true, true, true, true, true, true, true, false, false, true, true, true, true, false, false, false, false, false, false] rfl rfl (by kernel_rfl) (fun _ _ _ h => h) (Or.inl ⟨by rfl, ?_⟩) hHeld ?_ ?_
        rotate_left
        · rintro w' ⟨s0, s1, s2, s3, s4, s5, s6⟩
          go_simp
          with_reducible rfl
        rotate_left
        · simp only [Act.put, List.setIfInBounds_toArray, List.set_cons_zero, List.set_cons_succ, i64_w, i32_w]
          rfl
        refine take_ (i := 11) (N := some 61) (v := ?_) (a' := ?_) #[true, true, true, true, true, true, true, true, true, true, true, true, false, true, true, true, true, false, false, false, false, false, false] rfl rfl (by kernel_rfl) (fun _ _ _ h => h) (Or.inl ⟨by rfl, ?_⟩) hHeld ?_ ?_
        rotate_left
        · rintro w' ⟨s0, s1, s2, s3, s4, s5, s6⟩
          go_simp
          with_reducible rfl
        rotate_left
        · simp only [Act.put, List.setIfInBounds_toArray, List.set_cons_zero, List.set_cons_succ, i64_w, i32_w]
          rfl
        refine take_ (i := 12) (N := some 62) (v := ?_) (a' := ?_) #[true, true, true, true, true, true, true, true, true, true, true, true, true, true, true, true, true, false, false, false, false, false, false] rfl rfl (by kernel_rfl) (fun _ _ _ h => h) (Or.inl ⟨by rfl, ?_⟩) hHeld ?_ ?_
        rotate_left
        · rintro w' ⟨s0, s1, s2, s3, s4, s5, s6⟩
          go_simp
          with_reducible rfl
        rotate_left
        · simp only [Act.put, List.setIfInBounds_toArray, List.set_cons_zero, List.set_cons_succ, i64_w, i32_w]
          rfl
        refine take_ (i := 17) (N := some 67) (v := ?_) (a' := ?_) #[true, true, true, true, true, true, true, true, true, true, true, true, true, true, true, true, true, true, false, false, false, false, false] rfl rfl (by kernel_rfl) (fun _ _ _ h => h) (Or.inl ⟨by rfl, ?_⟩) hHeld ?_ ?_
        rotate_left
        · rintro w' ⟨s0, s1, s2, s3, s4, s5, s6⟩
          go_simp
          with_reducible rfl
        rotate_left
        · simp only [Act.put, List.setIfInBounds_toArray, List.set_cons_zero, List.set_cons_succ, i64_w, i32_w]
          rfl
        refine pure_ (i := 18) (N := some 68) (v := ?_) (a' := ?_) #[true, true, true, true, true, true, true, true, true, true, true, true, true, true, true, true, true, true, true, false, false, false, false] rfl rfl (by kernel_rfl) (fun _ _ _ h => h) (Or.inl ⟨by rfl, ?_⟩) ?_ ?_
        rotate_left
        · intro w'
          go_simp
          with_reducible rfl
        rotate_left
        · simp only [Act.put, List.setIfInBounds_toArray, List.set_cons_zero, List.set_cons_succ, i64_w, i32_w]
          rfl
        refine one_ (i := 19) (N := none) #[true, true, true, true, true, true, true, true, true, true, true, true, true, true, true, true, true, true, true, true, false, false, false] rfl rfl (by kernel_rfl) (by decide) (fun K hK => ?_)
        refine skip_ (w1 := ?_) (by rfl) rfl ?_ ?_
        rotate_left
        · go_simp
          rfl
        refine hK.out _ _ ⟨(fd_cells HP4.out).2.1, (fd_cells HP4.out).2.2.1, (fd_cells HP4.out).2.2.2, (key_cells HK4_.out).1, (key_cells HK4_.out).2.1, (key_cells HK4_.out).2.2.1, (key_cells HK4_.out).2.2.2⟩ (fun hHeld => ?_)
        clear hK K
        refine one_ (i := 20) (N := some 69) #[true, true, true, true, true, true, true, true, true, true, true, true, true, true, true, true, true, true, true, true, true, false, false] rfl rfl (by kernel_rfl) (by decide) (fun K hK => ?_)
        refine value_ (w1 := w5) (by rfl) rfl (entry_step rfl rfl rfl HE1.out) ?_
        refine hK.out _ _ ⟨(fd_cells HP5.out).2.1, (fd_cells HP5.out).2.2.1, (fd_cells HP5.out).2.2.2, (key_cells HK5_.out).1, (key_cells HK5_.out).2.1, (key_cells HK5_.out).2.2.1, (key_cells HK5_.out).2.2.2⟩ (fun hHeld => ?_)
        clear hK K
        refine norm_ (a' := ?_) ?_ ?_
        rotate_left
        · show Act.put _ (some 69) _ = _
          simp only [Act.put, List.setIfInBounds_toArray, List.set_cons_zero, List.set_cons_succ, i64_w, i32_w]
          rfl
        refine pure_ (i := 21) (N := some 70) (v := ?_) (a' := ?_) #[true, true, true, true, true, true, true, true, true, true, true, true, true, true, true, true, true, true, true, true, true, true, false] rfl rfl (by kernel_rfl) (fun _ _ _ h => h) (Or.inl ⟨by rfl, ?_⟩) ?_ ?_
        rotate_left
        · intro w'
          go_simp
          with_reducible rfl
        rotate_left
        · simp only [Act.put, List.setIfInBounds_toArray, List.set_cons_zero, List.set_cons_succ, i64_w, i32_w]
          rfl
        refine last_ (i := 22) (N := none) #[true, true, true, true, true, true, true, true, true, true, true, true, true, true, true, true, true, true, true, true, true, true, true] rfl rfl (by kernel_rfl) (by decide) (fun K hK => ?_)
        refine skip_ (w1 := w6) (by rfl) rfl (estore_step rfl rfl rfl rfl HE2.out) ?_
        refine hK.out _ _ ?_
        clear hK K
        refine done_ (by kernel_rfl) ?_
        have HA6 : Aside0 ((Kd.int .i64).R 3 w6 w0.heap.size (fun j => j ≠ p ∧ j ≠ mb ∧ OK j) (.slice (some ⟨ga, 0, none⟩) nB ca) (Ah B nB (k + 1))) := by
          refine ⟨Kd.R_grown ?_ HG2'.out (fun j hj => by simpa using hj.2.1)⟩
          rw [← Ah_set B nB k (by have := HX.out; omega), ← HLL.out]
          exact Kd.R_drew HPUT.out.1
        have HB6 : Aside0 (Below w0.heap.size w0 w6) := ⟨below_grown (below_drew (Below.setCell HF3.out.hB (p := ⟨ga, k, none⟩) (Kd.R_base HF3.out.hA ga rfl) _)) HG2'.out HF3.out.hmb⟩
        have HXO := Aside0.mk HF3.out.hXO
        have HX6 : Aside0 (X (w6.setCell ⟨p, 3, none⟩ (.int .i64 ((k + 1 : Nat) : Int)))) := ⟨HXO.out.setp _ _ (HXO.out.grow _ _ (HXO.out.below _ _ (HXO.out.setA ga k _ _ HGP.out.2.2 HF3.out.hX) (below_drew (Below.refl _ _))) HG2'.out)⟩
        have HS := Aside0.mk (And.intro HF3.out.hb0 (And.intro HF3.out.hmb HF3.out.hne))
        have hadd1 : wrap64 ((k : Int) + 1) = ((k + 1 : Nat) : Int) := by have := HX.out; have := HI.out; unfold wrap64; omega
        clear hHeld HPUT HP4 HE1 HE2 HP5 HK3_ HK4_ HK5_ hy hyf HF3 HG2' HS2
        have q3 := (fd_cells HP6.out).2.2.2
        have f3 := blk_frozen HP6.out 3
        go_wp2
        go_roundg (i - (k + 1))
        case measure => have := HX.out; omega
        case rel =>
          obtain ⟨s1, s2, s3⟩ := HS.out
          exact ⟨k + 1, rfl, ⟨HX.out.1⟩, ⟨⟨s1, s2, s3, Below.setCell HB6.out (p := ⟨p, 3, none⟩) s1 _, blk_set HP6.out 3 (.int .i64 ((k + 1 : Nat) : Int)), HOWN.out.setCell s3 _, Kd.R_far HA6.out (p := ⟨p, 3, none⟩) (fun j hj => hj.1) _, HX6.out, HXO.out⟩⟩⟩
      · skip
        have HLk := Aside0.mk (decide_eq_false cL ▸ hlk)
        obtain rfl : L = -1 := by rw [HLL.out]; exact lastK_neg _ _ _ (by rw [← HLL.out]; exact cL)
        clear hlk hc cL
        go_wp2_with fail
        refine start_ (n := 11) (S := fun w' => w'.cell? ⟨p, 1, none⟩ = some (.map (some mb))) (ds := []) #[false, false, false, false, false, false, false, false, false, false, false] (by kernel_rfl) rfl rfl ((fd_cells HF2.out.hP).2.1) (fun hHeld => ?_)
        refine pure_ (i := 0) (N := some 40) (v := ?_) (a' := ?_) #[true, false, false, false, false, false, false, false, false, false, false] rfl rfl (by kernel_rfl) (fun _ _ _ h => h) (Or.inl ⟨by rfl, ?_⟩) ?_ ?_
        rotate_left
        · intro w'
          go_simp
          with_reducible rfl
        rotate_left
        · simp only [Act.put, List.setIfInBounds_toArray, List.set_cons_zero, List.set_cons_succ, i64_w, i32_w]
          rfl
        refine pure_ (i := 1) (N := some 41) (v := ?_) (a' := ?_) #[true, true, false, false, false, false, false, false, false, false, false] rfl rfl (by kernel_rfl) (fun _ _ _ h => h) (Or.inl ⟨by rfl, ?_⟩) ?_ ?_
        rotate_left
        · intro w'
          go_simp
          with_reducible rfl
        rotate_left
        · simp only [Act.put, List.setIfInBounds_toArray, List.set_cons_zero, List.set_cons_succ, i64_w, i32_w]
          rfl
        refine pure_ (i := 2) (N := some 42) (v := ?_) (a' := ?_) #[true, true, true, false, false, false, false, false, false, false, false] rfl rfl (by kernel_rfl) (fun _ _ _ h => h) (Or.inl ⟨by rfl, ?_⟩) ?_ ?_
        rotate_left
        · intro w'
          go_simp
          with_reducible rfl
        rotate_left
        · simp only [Act.put, List.setIfInBounds_toArray, List.set_cons_zero, List.set_cons_succ, i64_w, i32_w]
          rfl
        refine take_ (i := 3) (N := some 43) (v := ?_) (a' := ?_) #[true, true, true, true, false, false, false, false, false, false, false] rfl rfl (by kernel_rfl) (fun _ _ _ h => h) (Or.inl ⟨by rfl, ?_⟩) hHeld ?_ ?_
        rotate_left
        · intro w' s0
          go_simp
          with_reducible rfl
        rotate_left
        · simp only [Act.put, List.setIfInBounds_toArray, List.set_cons_zero, List.set_cons_succ, i64_w, i32_w]
          rfl
        refine one_ (i := 4) (N := some 44) #[true, true, true, true, true, false, false, false, false, false, false] rfl rfl (by kernel_rfl) (by decide) (fun K hK => ?_)
        refine value_ (w1 := w2.drew) (by rfl) rfl (load_step rfl rfl HLd.out) ?_
        refine hK.out _ _ ((fd_cells HF2.out.hP).2.1) (fun hHeld => ?_)
        clear hK K
        refine norm_ (a' := ?_) ?_ ?_
        rotate_left
        · show Act.put _ (some 44) _ = _
          simp only [Act.put, List.setIfInBounds_toArray, List.set_cons_zero, List.set_cons_succ, i64_w, i32_w]
          rfl
        refine one_ (i := 5) (N := some 45) #[true, true, true, true, true, true, false, false, false, false, false] rfl rfl (by kernel_rfl) (by decide) (fun K hK => ?_)
        refine value_ (w1 := w2.drew) (by rfl) rfl (lookup_step rfl rfl rfl HLk.out) ?_
        refine hK.out _ _ ((fd_cells HF2.out.hP).2.1) (fun hHeld => ?_)
        clear hK K
        refine norm_ (a' := ?_) ?_ ?_
        rotate_left
        · show Act.put _ (some 45) _ = _
          simp only [Act.put, List.setIfInBounds_toArray, List.set_cons_zero, List.set_cons_succ, i64_w, i32_w]
          rfl
        refine pure_ (i := 6) (N := some 39) (v := ?_) (a' := ?_) #[true, true, true, true, true, true, true, false, false, false, false] rfl rfl (by kernel_rfl) (fun _ _ _ h => h) (Or.inl ⟨by rfl, ?_⟩) ?_ ?_
        rotate_left
        · intro w'
          go_simp
          with_reducible rfl
        rotate_left
        · simp only [Act.put, List.setIfInBounds_toArray, List.set_cons_zero, List.set_cons_succ, i64_w, i32_w]
          rfl
        refine pure_ (i := 7) (N := some 46) (v := ?_) (a' := ?_) #[true, true, true, true, true, true, true, true, false, false, false] rfl rfl (by kernel_rfl) (fun _ _ _ h => h) (Or.inl ⟨by rfl, ?_⟩) ?_ ?_
        rotate_left
        · intro w'
          go_simp
          with_reducible rfl
        rotate_left
        · simp only [Act.put, List.setIfInBounds_toArray, List.set_cons_zero, List.set_cons_succ, i64_w, i32_w]
          rfl
        refine pure_ (i := 8) (N := some 47) (v := ?_) (a' := ?_) #[true, true, true, true, true, true, true, true, true, false, false] rfl rfl (by kernel_rfl) (fun _ _ _ h => h) (Or.inl ⟨by rfl, ?_⟩) ?_ ?_
        rotate_left
        · intro w'
          go_simp
          with_reducible rfl
        rotate_left
        · simp only [Act.put, List.setIfInBounds_toArray, List.set_cons_zero, List.set_cons_succ, i64_w, i32_w]
          rfl
        refine pure_ (i := 9) (N := some 5) (v := ?_) (a' := ?_) #[true, true, true, true, true, true, true, true, true, true, false] rfl rfl (by kernel_rfl) (fun _ _ _ h => h) (Or.inl ⟨by rfl, ?_⟩) ?_ ?_
        rotate_left
        · intro w'
          go_simp
          with_reducible rfl
        rotate_left
        · simp only [Act.put, List.setIfInBounds_toArray, List.set_cons_zero, List.set_cons_succ, i64_w, i32_w]
          rfl
        refine pure_ (i := 10) (N := some 6) (v := ?_) (a' := ?_) #[true, true, true, true, true, true, true, true, true, true, true] rfl rfl (by kernel_rfl) (fun _ _ _ h => h) (Or.inl ⟨by rfl, ?_⟩) ?_ ?_
        rotate_left
        · intro w'
          go_simp
          with_reducible rfl
        rotate_left
        · simp only [Act.put, List.setIfInBounds_toArray, List.set_cons_zero, List.set_cons_succ, i64_w, i32_w]
          rfl
        refine done_ (by kernel_rfl) ?_
        have HF3 := Aside0.mk (HF2.out.below (below_drew (Below.refl _ _)))
        have HK3_ : Aside0 (w2.drew.heap[gk]? = _) := HG2
        clear hHeld HF2 HLk HLd HG2
        generalize w2.drew = w3 at HF3 HK3_ ⊢
        have hgp := HF3.out.hA.1 ga rfl
        have HGP := Aside0.mk hgp
        have hkn : k < nB := by have := HX.out; omega
        have kk1 : (0 ≤ (k : Int)) = True := eq_true (by omega)
        have kk2 : ((k : Int) < (nB : Int)) = True := eq_true (by omega)
        have kk3 : (k < nB) = True := eq_true hkn
        obtain ⟨y, hy⟩ : ∃ y, w3.cell? ⟨ga, k, none⟩ = some (.int .i64 y) := rowI_cell HF3.out.hA k (by rw [Ah_len B nB k (by omega)]; exact hkn)
        have hyf : w3.frozen? ⟨ga, k, none⟩ = false := by
          obtain ⟨cells, hcell⟩ := rowI_form HF3.out.hA (by rw [Ah_len B nB k (by omega)]; omega)
          exact blk_frozen hcell k
        have HPUT := Aside0.mk (Kd.R_putg (enc := Value.int .i64) (h1 := fun _ => rfl) HF3.out.hA (k : Int) (-1))
        rw [Int.toNat_natCast] at HPUT
        have HP4 : Aside0 (((w3.setCell ⟨ga, k, none⟩ (.int .i64 (-1))).drew).heap[p]? = some (.cells #[.slice A0 nB c0, .map (some mb), .slice (some ⟨ga, 0, none⟩) nB ca, .int .i64 (k : Int)] 44 (0, 0))) := ⟨blk_far HF3.out.hP (p := ⟨ga, k, none⟩) (Ne.symm hgp.1) _⟩
        obtain ⟨v0, st, w5, w6, hr1, hg1, hs1, hr2, hown, hg2, hs2⟩ := map_store (w := (w3.setCell ⟨ga, k, none⟩ (.int .i64 (-1))).drew) (b := mb) (n := k) (K := key4 B) ((HF3.out.hM.kept HPUT.out.2 (by simpa using Ne.symm hgp.2.1)).drew) (HK4.out k HX.out.1) (by have := HI.out; omega)
        have hgm : gk ≠ mb := fun e => by
          obtain ⟨es, cl, hm, _⟩ := HF3.out.hM
          have := HK3_.out
          rw [e, hm] at this
          cases this
        have hgga : gk ≠ ga := fun e => by
          obtain ⟨cells, hcell⟩ := rowI_form HF3.out.hA (by rw [Ah_len B nB k (by omega)]; omega)
          have := HK3_.out
          rw [e, hcell] at this
          cases this
        have HK4_ : Aside0 (((w3.setCell ⟨ga, k, none⟩ (.int .i64 (-1))).drew).heap[gk]? = some (.cells #[.int .u8 x0, .int .u8 x1, .int .u8 x2, .int .u8 x3] 52 (0, 0))) := ⟨blk_far HK3_.out (p := ⟨ga, k, none⟩) hgga _⟩
        have HK5_ := Aside0.mk ((hg1.block gk (blk_lt HK4_.out) (by simpa using hgm)).trans HK4_.out)
        rw [HX4.out] at hr1
        have HE1 := Aside0.mk hr1
        have HE2 := Aside0.mk hr2
        have HP5 := Aside0.mk ((hg1.block p (blk_lt HP4.out) (by simpa using Ne.symm HF3.out.hne)).trans HP4.out)
        have HP6 := Aside0.mk ((hg2.block p (blk_lt HP4.out) (by simpa using Ne.symm HF3.out.hne)).trans HP4.out)
        have HOWN := Aside0.mk hown
        have HG2' := Aside0.mk hg2
        have HS2 := Aside0.mk hs2
        clear hr1 hr2 hown hg1 hg2 hs1 hs2 hgp hkn hgm hgga
        go_wp2_with fail
        refine start_ (n := 23) (S := fun w' => w'.cell? ⟨p, 1, none⟩ = some (.map (some mb)) ∧ w'.cell? ⟨p, 2, none⟩ = some (.slice (some ⟨ga, 0, none⟩) nB ca) ∧ w'.cell? ⟨p, 3, none⟩ = some (.int .i64 (k : Int)) ∧ w'.cell? ⟨gk, 0, none⟩ = some (.int .u8 x0) ∧ w'.cell? ⟨gk, 1, none⟩ = some (.int .u8 x1) ∧ w'.cell? ⟨gk, 2, none⟩ = some (.int .u8 x2) ∧ w'.cell? ⟨gk, 3, none⟩ = some (.int .u8 x3)) (ds := [22]) #[false, false, false, false, false, false, false, false, false, false, false, false, false, false, false, false, false, false, false, false, false, false, false] (by kernel_rfl) rfl rfl ⟨(fd_cells HF3.out.hP).2.1, (fd_cells HF3.out.hP).2.2.1, (fd_cells HF3.out.hP).2.2.2, (key_cells HK3_.out).1, (key_cells HK3_.out).2.1, (key_cells HK3_.out).2.2.1, (key_cells HK3_.out).2.2.2⟩ (fun hHeld => ?_)
        refine pure_ (i := 0) (N := some 50) (v := ?_) (a' := ?_) #[true, false, false, false, false, false, false, false, false, false, false, false, false, false, false, false, false, false, false, false, false, false, false] rfl rfl (by kernel_rfl) (fun _ _ _ h => h) (Or.inl ⟨by rfl, ?_⟩) ?_ ?_
        rotate_left
        · intro w'
          go_simp
          with_reducible rfl
        rotate_left
        · simp only [Act.put, List.setIfInBounds_toArray, List.set_cons_zero, List.set_cons_succ, i64_w, i32_w]
          rfl
        refine pure_ (i := 1) (N := some 51) (v := ?_) (a' := ?_) #[true, true, false, false, false, false, false, false, false, false, false, false, false, false, false, false, false, false, false, false, false, false, false] rfl rfl (by kernel_rfl) (fun _ _ _ h => h) (Or.inl ⟨by rfl, ?_⟩) ?_ ?_
        rotate_left
        · intro w'
          go_simp
          with_reducible rfl
        rotate_left
        · simp only [Act.put, List.setIfInBounds_toArray, List.set_cons_zero, List.set_cons_succ, i64_w, i32_w]
          rfl
        refine pure_ (i := 2) (N := some 52) (v := ?_) (a' := ?_) #[true, true, true, false, false, false, false, false, false, false, false, false, false, false, false, false, false, false, false, false, false, false, false] rfl rfl (by kernel_rfl) (fun _ _ _ h => h) (Or.inl ⟨by rfl, ?_⟩) ?_ ?_
        rotate_left
        · intro w'
          go_simp
          with_reducible rfl
        rotate_left
        · simp only [Act.put, List.setIfInBounds_toArray, List.set_cons_zero, List.set_cons_succ, i64_w, i32_w]
          rfl
        refine pure_ (i := 4) (N := some 54) (v := ?_) (a' := ?_) #[true, true, true, false, true, false, false, false, false, false, false, false, false, false, false, false, false, false, false, false, false, false, false] rfl rfl (by kernel_rfl) (fun _ _ _ h => h) (Or.inl ⟨by rfl, ?_⟩) ?_ ?_
        rotate_left
        · intro w'
          go_simp
          with_reducible rfl
        rotate_left
        · simp only [Act.put, List.setIfInBounds_toArray, List.set_cons_zero, List.set_cons_succ, i64_w, i32_w]
          rfl
        refine pure_ (i := 5) (N := some 55) (v := ?_) (a' := ?_) #[true, true, true, false, true, true, false, false, false, false, false, false, false, false, false, false, false, false, false, false, false, false, false] rfl rfl (by kernel_rfl) (fun _ _ _ h => h) (Or.inl ⟨by rfl, ?_⟩) ?_ ?_
        rotate_left
        · intro w'
          go_simp
          with_reducible rfl
        rotate_left
        · simp only [Act.put, List.setIfInBounds_toArray, List.set_cons_zero, List.set_cons_succ, i64_w, i32_w]
          rfl
        refine pure_ (i := 6) (N := some 56) (v := ?_) (a' := ?_) #[true, true, true, false, true, true, true, false, false, false, false, false, false, false, false, false, false, false, false, false, false, false, false] rfl rfl (by kernel_rfl) (fun _ _ _ h => h) (Or.inl ⟨by rfl, ?_⟩) ?_ ?_
        rotate_left
        · intro w'
          go_simp
          with_reducible rfl
        rotate_left
        · simp only [Act.put, List.setIfInBounds_toArray, List.set_cons_zero, List.set_cons_succ, i64_w, i32_w]
          rfl
        refine pure_ (i := 8) (N := some 58) (v := ?_) (a' := ?_) #[true, true, true, false, true, true, true, false, true, false, false, false, false, false, false, false, false, false, false, false, false, false, false] rfl rfl (by kernel_rfl) (fun _ _ _ h => h) (Or.inl ⟨by rfl, ?_⟩) ?_ ?_
        rotate_left
        · intro w'
          go_simp
          with_reducible rfl
        rotate_left
        · simp only [Act.put, List.setIfInBounds_toArray, List.set_cons_zero, List.set_cons_succ, i64_w, i32_w]
          rfl
        refine pure_ (i := 9) (N := some 59) (v := ?_) (a' := ?_) #[true, true, true, false, true, true, true, false, true, true, false, false, false, false, false, false, false, false, false, false, false, false, false] rfl rfl (by kernel_rfl) (fun _ _ _ h => h) (Or.inl ⟨by rfl, ?_⟩) ?_ ?_
        rotate_left
        · intro w'
          go_simp
          with_reducible rfl
        rotate_left
        · simp only [Act.put, List.setIfInBounds_toArray, List.set_cons_zero, List.set_cons_succ, i64_w, i32_w]
          rfl
        refine pure_ (i := 10) (N := some 60) (v := ?_) (a' := ?_) #[true, true, true, false, true, true, true, false, true, true, true, false, false, false, false, false, false, false, false, false, false, false, false] rfl rfl (by kernel_rfl) (fun _ _ _ h => h) (Or.inl ⟨by rfl, ?_⟩) ?_ ?_
        rotate_left
        · intro w'
          go_simp
          with_reducible rfl
        rotate_left
        · simp only [Act.put, List.setIfInBounds_toArray, List.set_cons_zero, List.set_cons_succ, i64_w, i32_w]
          rfl
        refine pure_ (i := 13) (N := some 63) (v := ?_) (a' := ?_) #[true, true, true, false, true, true, true, false, true, true, true, false, false, true, false, false, false, false, false, false, false, false, false] rfl rfl (by kernel_rfl) (fun _ _ _ h => h) (Or.inl ⟨by rfl, ?_⟩) ?_ ?_
        rotate_left
        · intro w'
          go_simp
          with_reducible rfl
        rotate_left
        · simp only [Act.put, List.setIfInBounds_toArray, List.set_cons_zero, List.set_cons_succ, i64_w, i32_w]
          rfl
        refine pure_ (i := 14) (N := some 64) (v := ?_) (a' := ?_) #[true, true, true, false, true, true, true, false, true, true, true, false, false, true, true, false, false, false, false, false, false, false, false] rfl rfl (by kernel_rfl) (fun _ _ _ h => h) (Or.inl ⟨by rfl, ?_⟩) ?_ ?_
        rotate_left
        · intro w'
          go_simp
          with_reducible rfl
        rotate_left
        · simp only [Act.put, List.setIfInBounds_toArray, List.set_cons_zero, List.set_cons_succ, i64_w, i32_w]
          rfl
        refine pure_ (i := 15) (N := some 65) (v := ?_) (a' := ?_) #[true, true, true, false, true, true, true, false, true, true, true, false, false, true, true, true, false, false, false, false, false, false, false] rfl rfl (by kernel_rfl) (fun _ _ _ h => h) (Or.inl ⟨by rfl, ?_⟩) ?_ ?_
        rotate_left
        · intro w'
          go_simp
          with_reducible rfl
        rotate_left
        · simp only [Act.put, List.setIfInBounds_toArray, List.set_cons_zero, List.set_cons_succ, i64_w, i32_w]
          rfl
        refine pure_ (i := 16) (N := some 66) (v := ?_) (a' := ?_) #[true, true, true, false, true, true, true, false, true, true, true, false, false, true, true, true, true, false, false, false, false, false, false] rfl rfl (by kernel_rfl) (fun _ _ _ h => h) (Or.inl ⟨by rfl, ?_⟩) ?_ ?_
        rotate_left
        · intro w'
          go_simp
          with_reducible rfl
        rotate_left
        · simp only [Act.put, List.setIfInBounds_toArray, List.set_cons_zero, List.set_cons_succ, i64_w, i32_w]
          rfl
        refine take_ (i := 3) (N := some 53) (v := ?_) (a' := ?_) #[true, true, true, true, true, true, true, false, true, true, true, false, false, true, true, true, true, false, false, false, false, false, false] rfl rfl (by kernel_rfl) (fun _ _ _ h => h) (Or.inl ⟨by rfl, ?_⟩) hHeld ?_ ?_
        rotate_left
        · rintro w' ⟨s0, s1, s2, s3, s4, s5, s6⟩
          go_simp
          with_reducible rfl
        rotate_left
        · simp only [Act.put, List.setIfInBounds_toArray, List.set_cons_zero, List.set_cons_succ, i64_w, i32_w]
          rfl
        refine take_ (i := 7) (N := some 57) (v := ?_) (a' := ?_) #[true, true, true, true, true, true, true, true, true, true, true, false, false, true, true, true, true, false, false, false, false, false, false] rfl rfl (by kernel_rfl) (fun _ _ _ h => h) (Or.inl ⟨by rfl, ?_⟩) hHeld ?_ ?_
        rotate_left
        · rintro w' ⟨s0, s1, s2, s3, s4, s5, s6⟩
          go_simp
          with_reducible rfl
        rotate_left
        · simp only [Act.put, List.setIfInBounds_toArray, List.set_cons_zero, List.set_cons_succ, i64_w, i32_w]
          rfl
        refine take_ (i := 11) (N := some 61) (v := ?_) (a' := ?_) #[true, true, true, true, true, true, true, true, true, true, true, true, false, true, true, true, true, false, false, false, false, false, false] rfl rfl (by kernel_rfl) (fun _ _ _ h => h) (Or.inl ⟨by rfl, ?_⟩) hHeld ?_ ?_
        rotate_left
        · rintro w' ⟨s0, s1, s2, s3, s4, s5, s6⟩
          go_simp
          with_reducible rfl
        rotate_left
        · simp only [Act.put, List.setIfInBounds_toArray, List.set_cons_zero, List.set_cons_succ, i64_w, i32_w]
          rfl
        refine take_ (i := 12) (N := some 62) (v := ?_) (a' := ?_) #[true, true, true, true, true, true, true, true, true, true, true, true, true, true, true, true, true, false, false, false, false, false, false] rfl rfl (by kernel_rfl) (fun _ _ _ h => h) (Or.inl ⟨by rfl, ?_⟩) hHeld ?_ ?_
        rotate_left
        · rintro w' ⟨s0, s1, s2, s3, s4, s5, s6⟩
          go_simp
          with_reducible rfl
        rotate_left
        · simp only [Act.put, List.setIfInBounds_toArray, List.set_cons_zero, List.set_cons_succ, i64_w, i32_w]
          rfl
        refine take_ (i := 17) (N := some 67) (v := ?_) (a' := ?_) #[true, true, true, true, true, true, true, true, true, true, true, true, true, true, true, true, true, true, false, false, false, false, false] rfl rfl (by kernel_rfl) (fun _ _ _ h => h) (Or.inl ⟨by rfl, ?_⟩) hHeld ?_ ?_
        rotate_left
        · rintro w' ⟨s0, s1, s2, s3, s4, s5, s6⟩
          go_simp
          with_reducible rfl
        rotate_left
        · simp only [Act.put, List.setIfInBounds_toArray, List.set_cons_zero, List.set_cons_succ, i64_w, i32_w]
          rfl
        refine pure_ (i := 18) (N := some 68) (v := ?_) (a' := ?_) #[true, true, true, true, true, true, true, true, true, true, true, true, true, true, true, true, true, true, true, false, false, false, false] rfl rfl (by kernel_rfl) (fun _ _ _ h => h) (Or.inl ⟨by rfl, ?_⟩) ?_ ?_
        rotate_left
        · intro w'
          go_simp
          with_reducible rfl
        rotate_left
        · simp only [Act.put, List.setIfInBounds_toArray, List.set_cons_zero, List.set_cons_succ, i64_w, i32_w]
          rfl
        refine one_ (i := 19) (N := none) #[true, true, true, true, true, true, true, true, true, true, true, true, true, true, true, true, true, true, true, true, false, false, false] rfl rfl (by kernel_rfl) (by decide) (fun K hK => ?_)
        refine skip_ (w1 := ?_) (by rfl) rfl ?_ ?_
        rotate_left
        · go_simp
          rfl
        refine hK.out _ _ ⟨(fd_cells HP4.out).2.1, (fd_cells HP4.out).2.2.1, (fd_cells HP4.out).2.2.2, (key_cells HK4_.out).1, (key_cells HK4_.out).2.1, (key_cells HK4_.out).2.2.1, (key_cells HK4_.out).2.2.2⟩ (fun hHeld => ?_)
        clear hK K
        refine one_ (i := 20) (N := some 69) #[true, true, true, true, true, true, true, true, true, true, true, true, true, true, true, true, true, true, true, true, true, false, false] rfl rfl (by kernel_rfl) (by decide) (fun K hK => ?_)
        refine value_ (w1 := w5) (by rfl) rfl (entry_step rfl rfl rfl HE1.out) ?_
        refine hK.out _ _ ⟨(fd_cells HP5.out).2.1, (fd_cells HP5.out).2.2.1, (fd_cells HP5.out).2.2.2, (key_cells HK5_.out).1, (key_cells HK5_.out).2.1, (key_cells HK5_.out).2.2.1, (key_cells HK5_.out).2.2.2⟩ (fun hHeld => ?_)
        clear hK K
        refine norm_ (a' := ?_) ?_ ?_
        rotate_left
        · show Act.put _ (some 69) _ = _
          simp only [Act.put, List.setIfInBounds_toArray, List.set_cons_zero, List.set_cons_succ, i64_w, i32_w]
          rfl
        refine pure_ (i := 21) (N := some 70) (v := ?_) (a' := ?_) #[true, true, true, true, true, true, true, true, true, true, true, true, true, true, true, true, true, true, true, true, true, true, false] rfl rfl (by kernel_rfl) (fun _ _ _ h => h) (Or.inl ⟨by rfl, ?_⟩) ?_ ?_
        rotate_left
        · intro w'
          go_simp
          with_reducible rfl
        rotate_left
        · simp only [Act.put, List.setIfInBounds_toArray, List.set_cons_zero, List.set_cons_succ, i64_w, i32_w]
          rfl
        refine last_ (i := 22) (N := none) #[true, true, true, true, true, true, true, true, true, true, true, true, true, true, true, true, true, true, true, true, true, true, true] rfl rfl (by kernel_rfl) (by decide) (fun K hK => ?_)
        refine skip_ (w1 := w6) (by rfl) rfl (estore_step rfl rfl rfl rfl HE2.out) ?_
        refine hK.out _ _ ?_
        clear hK K
        refine done_ (by kernel_rfl) ?_
        have HA6 : Aside0 ((Kd.int .i64).R 3 w6 w0.heap.size (fun j => j ≠ p ∧ j ≠ mb ∧ OK j) (.slice (some ⟨ga, 0, none⟩) nB ca) (Ah B nB (k + 1))) := by
          refine ⟨Kd.R_grown ?_ HG2'.out (fun j hj => by simpa using hj.2.1)⟩
          rw [← Ah_set B nB k (by have := HX.out; omega), ← HLL.out]
          exact Kd.R_drew HPUT.out.1
        have HB6 : Aside0 (Below w0.heap.size w0 w6) := ⟨below_grown (below_drew (Below.setCell HF3.out.hB (p := ⟨ga, k, none⟩) (Kd.R_base HF3.out.hA ga rfl) _)) HG2'.out HF3.out.hmb⟩
        have HXO := Aside0.mk HF3.out.hXO
        have HX6 : Aside0 (X (w6.setCell ⟨p, 3, none⟩ (.int .i64 ((k + 1 : Nat) : Int)))) := ⟨HXO.out.setp _ _ (HXO.out.grow _ _ (HXO.out.below _ _ (HXO.out.setA ga k _ _ HGP.out.2.2 HF3.out.hX) (below_drew (Below.refl _ _))) HG2'.out)⟩
        have HS := Aside0.mk (And.intro HF3.out.hb0 (And.intro HF3.out.hmb HF3.out.hne))
        have hadd1 : wrap64 ((k : Int) + 1) = ((k + 1 : Nat) : Int) := by have := HX.out; have := HI.out; unfold wrap64; omega
        clear hHeld HPUT HP4 HE1 HE2 HP5 HK3_ HK4_ HK5_ hy hyf HF3 HG2' HS2
        have q3 := (fd_cells HP6.out).2.2.2
        have f3 := blk_frozen HP6.out 3
        go_wp2
        go_roundg (i - (k + 1))
        case measure => have := HX.out; omega
        case rel =>
          obtain ⟨s1, s2, s3⟩ := HS.out
          exact ⟨k + 1, rfl, ⟨HX.out.1⟩, ⟨⟨s1, s2, s3, Below.setCell HB6.out (p := ⟨p, 3, none⟩) s1 _, blk_set HP6.out 3 (.int .i64 ((k + 1 : Nat) : Int)), HOWN.out.setCell s3 _, Kd.R_far HA6.out (p := ⟨p, 3, none⟩) (fun j hj => hj.1) _, HX6.out, HXO.out⟩⟩⟩
    · have e1 : decide ((k : Int) < (i : Int)) = false := decide_eq_false (by omega)
      have e1' : decide (k < i) = false := decide_eq_false c1
      have e1t : (k < i) = False := eq_false c1
      have HX := Aside0.mk (show k = i by have := HKI.out; omega)
      clear c1
      go_wp2_with fail
      refine start_ (n := 19) (S := fun w' => w'.cell? ⟨p, 3, none⟩ = some (.int .i64 (k : Int)) ∧ w'.cell? ⟨p, 0, none⟩ = some (.slice A0 nB c0)) (ds := []) #[false, false, false, false, false, false, false, false, false, false, false, false, false, false, false, false, false, false, false] (by kernel_rfl) rfl rfl ⟨(fd_cells HF.out.hP).2.2.2, (fd_cells HF.out.hP).1⟩ (fun hHeld => ?_)
      refine pure_ (i := 0) (N := some 7) (v := ?_) (a' := ?_) #[true, false, false, false, false, false, false, false, false, false, false, false, false, false, false, false, false, false, false] rfl rfl (by kernel_rfl) (fun _ _ _ h => h) (Or.inl ⟨by rfl, ?_⟩) ?_ ?_
      rotate_left
      · intro w'
        go_simp
        with_reducible rfl
      rotate_left
      · simp only [Act.put, List.setIfInBounds_toArray, List.set_cons_zero, List.set_cons_succ, i64_w, i32_w]
        rfl
      refine pure_ (i := 1) (N := some 8) (v := ?_) (a' := ?_) #[true, true, false, false, false, false, false, false, false, false, false, false, false, false, false, false, false, false, false] rfl rfl (by kernel_rfl) (fun _ _ _ h => h) (Or.inl ⟨by rfl, ?_⟩) ?_ ?_
      rotate_left
      · intro w'
        go_simp
        with_reducible rfl
      rotate_left
      · simp only [Act.put, List.setIfInBounds_toArray, List.set_cons_zero, List.set_cons_succ, i64_w, i32_w]
        rfl
      refine pure_ (i := 2) (N := some 9) (v := ?_) (a' := ?_) #[true, true, true, false, false, false, false, false, false, false, false, false, false, false, false, false, false, false, false] rfl rfl (by kernel_rfl) (fun _ _ _ h => h) (Or.inl ⟨by rfl, ?_⟩) ?_ ?_
      rotate_left
      · intro w'
        go_simp
        with_reducible rfl
      rotate_left
      · simp only [Act.put, List.setIfInBounds_toArray, List.set_cons_zero, List.set_cons_succ, i64_w, i32_w]
        rfl
      refine pure_ (i := 4) (N := some 11) (v := ?_) (a' := ?_) #[true, true, true, false, true, false, false, false, false, false, false, false, false, false, false, false, false, false, false] rfl rfl (by kernel_rfl) (fun _ _ _ h => h) (Or.inl ⟨by rfl, ?_⟩) ?_ ?_
      rotate_left
      · intro w'
        go_simp
        with_reducible rfl
      rotate_left
      · simp only [Act.put, List.setIfInBounds_toArray, List.set_cons_zero, List.set_cons_succ, i64_w, i32_w]
        rfl
      refine take_ (i := 3) (N := some 10) (v := ?_) (a' := ?_) #[true, true, true, true, true, false, false, false, false, false, false, false, false, false, false, false, false, false, false] rfl rfl (by kernel_rfl) (fun _ _ _ h => h) (Or.inl ⟨by rfl, ?_⟩) hHeld ?_ ?_
      rotate_left
      · rintro w' ⟨s0, s1⟩
        go_simp
        with_reducible rfl
      rotate_left
      · simp only [Act.put, List.setIfInBounds_toArray, List.set_cons_zero, List.set_cons_succ, i64_w, i32_w]
        rfl
      refine pure_ (i := 5) (N := some 12) (v := ?_) (a' := ?_) #[true, true, true, true, true, true, false, false, false, false, false, false, false, false, false, false, false, false, false] rfl rfl (by kernel_rfl) (fun _ _ _ h => h) (Or.inl ⟨by rfl, ?_⟩) ?_ ?_
      rotate_left
      · intro w'
        go_simp
        with_reducible rfl
      rotate_left
      · simp only [Act.put, List.setIfInBounds_toArray, List.set_cons_zero, List.set_cons_succ, i64_w, i32_w]
        rfl
      refine pure_ (i := 6) (N := some 13) (v := ?_) (a' := ?_) #[true, true, true, true, true, true, true, false, false, false, false, false, false, false, false, false, false, false, false] rfl rfl (by kernel_rfl) (fun _ _ _ h => h) (Or.inl ⟨by rfl, ?_⟩) ?_ ?_
      rotate_left
      · intro w'
        go_simp
        with_reducible rfl
      rotate_left
      · simp only [Act.put, List.setIfInBounds_toArray, List.set_cons_zero, List.set_cons_succ, i64_w, i32_w]
        rfl
      refine pure_ (i := 7) (N := some 14) (v := undef) (a' := ?_) #[true, true, true, true, true, true, true, true, false, false, false, false, false, false, false, false, false, false, false] rfl rfl (by kernel_rfl) (fun _ _ _ h => h) (Or.inr ⟨by rfl, rfl⟩) ?_ ?_
      rotate_left
      · simp only [Act.put, List.setIfInBounds_toArray, List.set_cons_zero, List.set_cons_succ, i64_w, i32_w]
        rfl
      refine pure_ (i := 8) (N := some 15) (v := undef) (a' := ?_) #[true, true, true, true, true, true, true, true, true, false, false, false, false, false, false, false, false, false, false] rfl rfl (by kernel_rfl) (fun _ _ _ h => h) (Or.inr ⟨by rfl, rfl⟩) ?_ ?_
      rotate_left
      · simp only [Act.put, List.setIfInBounds_toArray, List.set_cons_zero, List.set_cons_succ, i64_w, i32_w]
        rfl
      refine pure_ (i := 9) (N := some 16) (v := undef) (a' := ?_) #[true, true, true, true, true, true, true, true, true, true, false, false, false, false, false, false, false, false, false] rfl rfl (by kernel_rfl) (fun _ _ _ h => h) (Or.inr ⟨by rfl, rfl⟩) ?_ ?_
      rotate_left
      · simp only [Act.put, List.setIfInBounds_toArray, List.set_cons_zero, List.set_cons_succ, i64_w, i32_w]
        rfl
      refine pure_ (i := 10) (N := some 17) (v := undef) (a' := ?_) #[true, true, true, true, true, true, true, true, true, true, true, false, false, false, false, false, false, false, false] rfl rfl (by kernel_rfl) (fun _ _ _ h => h) (Or.inr ⟨by rfl, rfl⟩) ?_ ?_
      rotate_left
      · simp only [Act.put, List.setIfInBounds_toArray, List.set_cons_zero, List.set_cons_succ, i64_w, i32_w]
        rfl
      refine pure_ (i := 11) (N := some 18) (v := undef) (a' := ?_) #[true, true, true, true, true, true, true, true, true, true, true, true, false, false, false, false, false, false, false] rfl rfl (by kernel_rfl) (fun _ _ _ h => h) (Or.inr ⟨by rfl, rfl⟩) ?_ ?_
      rotate_left
      · simp only [Act.put, List.setIfInBounds_toArray, List.set_cons_zero, List.set_cons_succ, i64_w, i32_w]
        rfl
      refine pure_ (i := 12) (N := some 19) (v := undef) (a' := ?_) #[true, true, true, true, true, true, true, true, true, true, true, true, true, false, false, false, false, false, false] rfl rfl (by kernel_rfl) (fun _ _ _ h => h) (Or.inr ⟨by rfl, rfl⟩) ?_ ?_
      rotate_left
      · simp only [Act.put, List.setIfInBounds_toArray, List.set_cons_zero, List.set_cons_succ, i64_w, i32_w]
        rfl
      refine pure_ (i := 13) (N := some 20) (v := undef) (a' := ?_) #[true, true, true, true, true, true, true, true, true, true, true, true, true, true, false, false, false, false, false] rfl rfl (by kernel_rfl) (fun _ _ _ h => h) (Or.inr ⟨by rfl, rfl⟩) ?_ ?_
      rotate_left
      · simp only [Act.put, List.setIfInBounds_toArray, List.set_cons_zero, List.set_cons_succ, i64_w, i32_w]
        rfl
      refine pure_ (i := 14) (N := some 21) (v := undef) (a' := ?_) #[true, true, true, true, true, true, true, true, true, true, true, true, true, true, true, false, false, false, false] rfl rfl (by kernel_rfl) (fun _ _ _ h => h) (Or.inr ⟨by rfl, rfl⟩) ?_ ?_
      rotate_left
      · simp only [Act.put, List.setIfInBounds_toArray, List.set_cons_zero, List.set_cons_succ, i64_w, i32_w]
        rfl
      refine pure_ (i := 15) (N := some 22) (v := undef) (a' := ?_) #[true, true, true, true, true, true, true, true, true, true, true, true, true, true, true, true, false, false, false] rfl rfl (by kernel_rfl) (fun _ _ _ h => h) (Or.inr ⟨by rfl, rfl⟩) ?_ ?_
      rotate_left
      · simp only [Act.put, List.setIfInBounds_toArray, List.set_cons_zero, List.set_cons_succ, i64_w, i32_w]
        rfl
      refine pure_ (i := 16) (N := some 23) (v := undef) (a' := ?_) #[true, true, true, true, true, true, true, true, true, true, true, true, true, true, true, true, true, false, false] rfl rfl (by kernel_rfl) (fun _ _ _ h => h) (Or.inr ⟨by rfl, rfl⟩) ?_ ?_
      rotate_left
      · simp only [Act.put, List.setIfInBounds_toArray, List.set_cons_zero, List.set_cons_succ, i64_w, i32_w]
        rfl
      refine pure_ (i := 17) (N := some 24) (v := undef) (a' := ?_) #[true, true, true, true, true, true, true, true, true, true, true, true, true, true, true, true, true, true, false] rfl rfl (by kernel_rfl) (fun _ _ _ h => h) (Or.inr ⟨by rfl, rfl⟩) ?_ ?_
      rotate_left
      · simp only [Act.put, List.setIfInBounds_toArray, List.set_cons_zero, List.set_cons_succ, i64_w, i32_w]
        rfl
      refine pure_ (i := 18) (N := some 25) (v := ?_) (a' := ?_) #[true, true, true, true, true, true, true, true, true, true, true, true, true, true, true, true, true, true, true] rfl rfl (by kernel_rfl) (fun _ _ _ h => h) (Or.inl ⟨by rfl, ?_⟩) ?_ ?_
      rotate_left
      · intro w'
        go_simp
        with_reducible rfl
      rotate_left
      · simp only [Act.put, List.setIfInBounds_toArray, List.set_cons_zero, List.set_cons_succ, i64_w, i32_w]
        rfl
      refine done_ (by kernel_rfl) ?_
      clear hHeld
      go_wp2
      refine bodyPost_end (results_none rfl _ _ _) rfl ?_
      have hx := HX.out
      subst hx
      exact ⟨rfl, HF.out.below (below_drew (Below.refl _ _))⟩
end


end Go.Proofs.Ytaneollgpllbiaa.P
