-- Written by a program of the session (wip/tool/mk.py) out of the translation; Lean checks it.
import Derived.Test.YtaneollgpllbiaaPx0
import Derived.Test.YtaneollgpllbiaaPx6
namespace Go.Proofs.Ytaneollgpllbiaa.P
open Go.RowKit Go.Proofs.YtaneollgpllbiaaW.PrintWords Go.Proofs.YtaneollgpllbiaaW.PrintLast Go.Proofs.YtaneollgpllbiaaW.PrintMore
attribute [local go_sem] max2_int min2_int max_two min_two max_three min_three max_four min_four   -- for this text's walks alone
set_option linter.unusedVariables false
set_option linter.unusedSimpArgs false

/-! ### squash_unpacked: function 26, a contract of my own -/
theorem wh_cells {w : World} {p : Nat} {u v : Value} {a : Int} {r : Bool} (h : w.heap[p]? = some (.cells #[u, .int .i64 a, v, .bool r] 61 (0, 0))) :
    w.cell? ⟨p, 0, none⟩ = some u ∧ w.cell? ⟨p, 1, none⟩ = some (.int .i64 a) ∧ w.cell? ⟨p, 2, none⟩ = some v ∧ w.cell? ⟨p, 3, none⟩ = some (.bool r) := by
  refine ⟨?_, ?_, ?_, ?_⟩ <;> rw [cell_of_row w p _ _ 61 (0, 0) h] <;> rfl
/-- whole in memory: at p, text a row of its own; nothing below w0's size has changed. -/
structure Wh (w0 : World) (p : Nat) (u : Value) (at_ : Int) (T : List Int) (r : Bool) (v : Value) (w : World) : Prop where
  hb0 : w0.heap.size ≤ p
  hB : Below w0.heap.size w0 w
  hP : w.heap[p]? = some (.cells #[u, .int .i64 at_, v, .bool r] 61 (0, 0))
  hR : (Kd.int .u8).R 5 w w0.heap.size (fun k => k ≠ p) v T
theorem Wh.slice {w0 : World} {p : Nat} {u : Value} {at_ : Int} {T : List Int} {r : Bool} {v : Value} {w : World} (h : Wh w0 p u at_ T r v w) : ∃ A c, v = .slice A T.length c ∧ T.length ≤ c ∧ Kd.C (Kd.int .u8) w A T.length T := by
  obtain ⟨A, c, rfl⟩ := Kd.R_slice h.hR
  obtain ⟨_, h2, h3⟩ := Kd.R_reads' h.hR
  exact ⟨A, c, rfl, h2, h3⟩
theorem Wh.drew {w0 : World} {p : Nat} {u : Value} {at_ : Int} {T : List Int} {r : Bool} {v : Value} {w w' : World} (h : Wh w0 p u at_ T r v w) (hd : Drawn0 w w') : Wh w0 p u at_ T r v w' :=
  ⟨h.hb0, below_step h.hB hd.below, (hd.below.block p (blk_lt h.hP)).trans h.hP, Kd.R_below h.hR hd.below⟩
theorem wh_room.at_ (p : Nat) (A : Option Addr) (m c : Nat) (n x : Int) (w : World) (h2 : w.cell? ⟨p, 2, none⟩ = some (.slice A m c)) (hm : m ≤ 65536) (hx : (if n > 65536 - (m : Int) then (7 : Int) else 0) = x) :
    Calls Try.prog 38 #[.pointer (some ⟨p, 0, none⟩), .int .i64 n] w fun e w' => e = .returned (.int .i64 x) ∧ w' = w := by
  have hw : wrap64 (65536 - (m : Int)) = 65536 - (m : Int) := by unfold wrap64; omega
  by_cases hc : n > 65536 - (m : Int)
  · rw [if_pos hc] at hx
    subst hx
    have hc' : decide (65536 - (m : Int) < n) = true := decide_eq_true hc
    clear hm hc
    go_enter Try.func38, Try.ntmps38
    go_wp2
    go_ret
    exact ⟨rfl, rfl⟩
  · rw [if_neg hc] at hx
    subst hx
    have hc' : decide (65536 - (m : Int) < n) = false := decide_eq_false hc
    clear hm hc
    go_enter Try.func38, Try.ntmps38
    go_wp2
    go_ret
    exact ⟨rfl, rfl⟩
theorem Wh.room {w0 : World} {p : Nat} {u : Value} {at_ : Int} {T : List Int} {r : Bool} {v : Value} {w : World} (h : Wh w0 p u at_ T r v w) (hm : T.length ≤ 65536) (n x : Int) (hx : (if n > 65536 - (T.length : Int) then (7 : Int) else 0) = x) :
    Calls Try.prog 38 #[.pointer (some ⟨p, 0, none⟩), .int .i64 n] w fun e w' => e = .returned (.int .i64 x) ∧ w' = w := by
  obtain ⟨A, c, rfl, _, _⟩ := h.slice
  exact wh_room.at_ p A T.length c n x w (wh_cells h.hP).2.2.1 hm hx
set_option maxHeartbeats 4000000 in
theorem wh_told.got (w0 : World) (p : Nat) (A0 : Option Addr) (nB c0 : Nat) (B L : List Int) (n : Int) (a : Int) (v : Value) (w : World) (h : Wh w0 p (.slice A0 nB c0) a L false v w) (hB : B.length = nB) (hC : Kd.C (Kd.int .u8) w0 A0 nB B) (hc0 : nB ≤ c0)
    (hn : 0 < n) (hr : n ≤ 65536 - (L.length : Int)) (hL : L.length ≤ 65536) (ha : 0 ≤ a) (hn2 : a + n ≤ (nB : Int)) (hnB : nB ≤ 140737488355328) :
    Calls Try.prog 35 #[.pointer (some ⟨p, 0, none⟩), .int .i64 n] w fun e w' => e = .returned (.int .i64 0) ∧ ∃ v', Wh w0 p (.slice A0 nB c0) (a + n) (L ++ (B.take (a + n).toNat).drop a.toNat) false v' w' := by
  have Hroom := Aside0.mk (h.room hL n 0 (if_neg (by omega)))
  obtain ⟨A, c, rfl, hc, hCL⟩ := h.slice
  have hn0 : ((n == 0) = false) := beq_eq_false_iff_ne.mpr (by omega)
  have hb0 := Aside0.mk h.hb0
  have hsub : wrap64 ((nB : Int) - a) = (nB : Int) - a := by unfold wrap64; omega
  have hlt : decide ((nB : Int) - a < n) = false := decide_eq_false (by omega)
  obtain ⟨hi, hhi⟩ : ∃ hi : Int, hi = a + n := ⟨_, rfl⟩
  have hadd : wrap64 (a + n) = hi := by unfold wrap64; omega
  obtain ⟨i0, hi0, _, hsz0, _⟩ := info_parts info5
  have hcut0 := cut_mid (P := Try.prog) 23 5 .i64 .i64 Try.underlying23 hi0 1 hsz0 A0 nB c0 a hi ha (by omega) (by omega) hc0
  have hCD := Kd.C_mid (k := Kd.int .u8) (w := w0) (A := A0) (xs := B) (c := c0) (lo := a.toNat) (hi := hi.toNat) (hB.symm ▸ hC) (by omega) (by omega) (by omega)
  have hdl : ((B.take hi.toNat).drop a.toNat).length = hi.toNat - a.toNat := by rw [List.length_drop, List.length_take]; omega
  rw [hdl] at hCD
  rw [← hhi]
  generalize hD : (B.take hi.toNat).drop a.toNat = D at hCD hdl ⊢
  have hCD' : Kd.C (Kd.int .u8) w0 (if c0 = a.toNat then A0 else A0.map (·.add (a.toNat * 1))) (hi.toNat - a.toNat) D := hCD
  obtain ⟨md, hmd⟩ : ∃ md, md = hi.toNat - a.toNat := ⟨_, rfl⟩
  rw [← hmd] at hcut0 hCD'
  generalize (if c0 = a.toNat then A0 else A0.map (·.add (a.toNat * 1))) = Bd at hcut0 hCD'
  generalize c0 - a.toNat = cd at hcut0
  have hcut : ∀ W : World, (Instr.slice 23 (.slice A0 nB c0) (some (.int .i64 a)) (some (.int .i64 hi)) none).run Try.prog W = .ok (.slice Bd md cd) W := hcut0
  have HL : Aside0 ((L.length + md) * 1 ≤ 140737488355328) := ⟨by omega⟩
  obtain ⟨m, hm⟩ : ∃ m, m = L.length := ⟨_, rfl⟩
  have HB1 := Aside0.mk h.hB
  have HR1 := Aside0.mk h.hR
  have HP := Aside0.mk h.hP
  have HCD := Aside0.mk (Kd.C_below hCD' h.hB)
  rw [← hm] at HR1 HP
  have HM := Aside0.mk hm
  have HHI := Aside0.mk hhi
  clear h hB hC hc0 hn hr hL ha hn2 hnB hc hCL hCD hcut0 hCD' hdl hmd hi0 hsz0 hm hhi hD
  have hq1 := (wh_cells HP.out).1
  have hq2 := (wh_cells HP.out).2.1
  have hq3 := (wh_cells HP.out).2.2.1
  have hq4 := (wh_cells HP.out).2.2.2
  go_enter Try.func35, Try.ntmps35
  go_wp2_with fail
  refine Hroom.out.mono ?_
  rintro e w1 ⟨rfl, rfl⟩
  go_wp2_with fail
  refine start_ (n := 12) (S := fun w' => w'.cell? ⟨p, 0, none⟩ = some (.slice A0 nB c0) ∧ w'.cell? ⟨p, 1, none⟩ = some (.int .i64 a)) (ds := []) #[false, false, false, false, false, false, false, false, false, false, false, false] (by kernel_rfl) rfl rfl ⟨(wh_cells HP.out).1, (wh_cells HP.out).2.1⟩ (fun hHeld => ?_)
  refine pure_ (i := 0) (N := some 20) (v := ?_) (a' := ?_) #[true, false, false, false, false, false, false, false, false, false, false, false] rfl rfl (by kernel_rfl) (fun _ _ _ h => h) (Or.inl ⟨by rfl, ?_⟩) ?_ ?_
  rotate_left
  · intro w'
    go_simp
    with_reducible rfl
  rotate_left
  · simp only [Act.put, List.setIfInBounds_toArray, List.set_cons_zero, List.set_cons_succ, i64_w, i32_w]
    rfl
  refine pure_ (i := 1) (N := some 21) (v := ?_) (a' := ?_) #[true, true, false, false, false, false, false, false, false, false, false, false] rfl rfl (by kernel_rfl) (fun _ _ _ h => h) (Or.inl ⟨by rfl, ?_⟩) ?_ ?_
  rotate_left
  · intro w'
    go_simp
    with_reducible rfl
  rotate_left
  · simp only [Act.put, List.setIfInBounds_toArray, List.set_cons_zero, List.set_cons_succ, i64_w, i32_w]
    rfl
  refine pure_ (i := 2) (N := some 22) (v := ?_) (a' := ?_) #[true, true, true, false, false, false, false, false, false, false, false, false] rfl rfl (by kernel_rfl) (fun _ _ _ h => h) (Or.inl ⟨by rfl, ?_⟩) ?_ ?_
  rotate_left
  · intro w'
    go_simp
    with_reducible rfl
  rotate_left
  · simp only [Act.put, List.setIfInBounds_toArray, List.set_cons_zero, List.set_cons_succ, i64_w, i32_w]
    rfl
  refine pure_ (i := 3) (N := some 23) (v := ?_) (a' := ?_) #[true, true, true, true, false, false, false, false, false, false, false, false] rfl rfl (by kernel_rfl) (fun _ _ _ h => h) (Or.inl ⟨by rfl, ?_⟩) ?_ ?_
  rotate_left
  · intro w'
    go_simp
    with_reducible rfl
  rotate_left
  · simp only [Act.put, List.setIfInBounds_toArray, List.set_cons_zero, List.set_cons_succ, i64_w, i32_w]
    rfl
  refine pure_ (i := 6) (N := some 26) (v := ?_) (a' := ?_) #[true, true, true, true, false, false, true, false, false, false, false, false] rfl rfl (by kernel_rfl) (fun _ _ _ h => h) (Or.inl ⟨by rfl, ?_⟩) ?_ ?_
  rotate_left
  · intro w'
    go_simp
    with_reducible rfl
  rotate_left
  · simp only [Act.put, List.setIfInBounds_toArray, List.set_cons_zero, List.set_cons_succ, i64_w, i32_w]
    rfl
  refine pure_ (i := 7) (N := some 27) (v := ?_) (a' := ?_) #[true, true, true, true, false, false, true, true, false, false, false, false] rfl rfl (by kernel_rfl) (fun _ _ _ h => h) (Or.inl ⟨by rfl, ?_⟩) ?_ ?_
  rotate_left
  · intro w'
    go_simp
    with_reducible rfl
  rotate_left
  · simp only [Act.put, List.setIfInBounds_toArray, List.set_cons_zero, List.set_cons_succ, i64_w, i32_w]
    rfl
  refine pure_ (i := 8) (N := some 28) (v := ?_) (a' := ?_) #[true, true, true, true, false, false, true, true, true, false, false, false] rfl rfl (by kernel_rfl) (fun _ _ _ h => h) (Or.inl ⟨by rfl, ?_⟩) ?_ ?_
  rotate_left
  · intro w'
    go_simp
    with_reducible rfl
  rotate_left
  · simp only [Act.put, List.setIfInBounds_toArray, List.set_cons_zero, List.set_cons_succ, i64_w, i32_w]
    rfl
  refine take_ (i := 4) (N := some 24) (v := ?_) (a' := ?_) #[true, true, true, true, true, false, true, true, true, false, false, false] rfl rfl (by kernel_rfl) (fun _ _ _ h => h) (Or.inl ⟨by rfl, ?_⟩) hHeld ?_ ?_
  rotate_left
  · rintro w' ⟨s0, s1⟩
    go_simp
    with_reducible rfl
  rotate_left
  · simp only [Act.put, List.setIfInBounds_toArray, List.set_cons_zero, List.set_cons_succ, i64_w, i32_w]
    rfl
  refine pure_ (i := 5) (N := some 25) (v := ?_) (a' := ?_) #[true, true, true, true, true, true, true, true, true, false, false, false] rfl rfl (by kernel_rfl) (fun _ _ _ h => h) (Or.inl ⟨by rfl, ?_⟩) ?_ ?_
  rotate_left
  · intro w'
    go_simp
    with_reducible rfl
  rotate_left
  · simp only [Act.put, List.setIfInBounds_toArray, List.set_cons_zero, List.set_cons_succ, i64_w, i32_w]
    rfl
  refine take_ (i := 9) (N := some 29) (v := ?_) (a' := ?_) #[true, true, true, true, true, true, true, true, true, true, false, false] rfl rfl (by kernel_rfl) (fun _ _ _ h => h) (Or.inl ⟨by rfl, ?_⟩) hHeld ?_ ?_
  rotate_left
  · rintro w' ⟨s0, s1⟩
    go_simp
    with_reducible rfl
  rotate_left
  · simp only [Act.put, List.setIfInBounds_toArray, List.set_cons_zero, List.set_cons_succ, i64_w, i32_w]
    rfl
  refine pure_ (i := 10) (N := some 30) (v := ?_) (a' := ?_) #[true, true, true, true, true, true, true, true, true, true, true, false] rfl rfl (by kernel_rfl) (fun _ _ _ h => h) (Or.inl ⟨by rfl, ?_⟩) ?_ ?_
  rotate_left
  · intro w'
    go_simp
    with_reducible rfl
  rotate_left
  · simp only [Act.put, List.setIfInBounds_toArray, List.set_cons_zero, List.set_cons_succ, i64_w, i32_w]
    rfl
  refine pure_ (i := 11) (N := some 31) (v := ?_) (a' := ?_) #[true, true, true, true, true, true, true, true, true, true, true, true] rfl rfl (by kernel_rfl) (fun _ _ _ h => h) (Or.inl ⟨by rfl, ?_⟩) ?_ ?_
  rotate_left
  · intro w'
    go_simp
    with_reducible rfl
  rotate_left
  · simp only [Act.put, List.setIfInBounds_toArray, List.set_cons_zero, List.set_cons_succ, i64_w, i32_w]
    rfl
  refine done_ (by kernel_rfl) ?_
  have HP1 : Aside0 (w1.drew.heap[p]? = _) := HP
  replace HR1 := Aside0.mk (Kd.R_drew HR1.out)
  replace HB1 := Aside0.mk (below_drew HB1.out)
  replace HCD := Aside0.mk (Kd.C_drew HCD.out)
  clear hHeld hq1 hq2 hq3 hq4 HP Hroom
  generalize w1.drew = w2 at HP1 HR1 HB1 HCD ⊢
  go_wp2_with fail
  refine start_ (n := 24) (S := fun w' => w'.cell? ⟨p, 0, none⟩ = some (.slice A0 nB c0) ∧ w'.cell? ⟨p, 1, none⟩ = some (.int .i64 a) ∧ w'.cell? ⟨p, 2, none⟩ = some (.slice A m c)) (ds := [23]) #[false, false, false, false, false, false, false, false, false, false, false, false, false, false, false, false, false, false, false, false, false, false, false, false] (by kernel_rfl) rfl rfl ⟨(wh_cells HP1.out).1, (wh_cells HP1.out).2.1, (wh_cells HP1.out).2.2.1⟩ (fun hHeld => ?_)
  refine pure_ (i := 0) (N := some 32) (v := ?_) (a' := ?_) #[true, false, false, false, false, false, false, false, false, false, false, false, false, false, false, false, false, false, false, false, false, false, false, false] rfl rfl (by kernel_rfl) (fun _ _ _ h => h) (Or.inl ⟨by rfl, ?_⟩) ?_ ?_
  rotate_left
  · intro w'
    go_simp
    with_reducible rfl
  rotate_left
  · simp only [Act.put, List.setIfInBounds_toArray, List.set_cons_zero, List.set_cons_succ, i64_w, i32_w]
    rfl
  refine pure_ (i := 1) (N := some 33) (v := ?_) (a' := ?_) #[true, true, false, false, false, false, false, false, false, false, false, false, false, false, false, false, false, false, false, false, false, false, false, false] rfl rfl (by kernel_rfl) (fun _ _ _ h => h) (Or.inl ⟨by rfl, ?_⟩) ?_ ?_
  rotate_left
  · intro w'
    go_simp
    with_reducible rfl
  rotate_left
  · simp only [Act.put, List.setIfInBounds_toArray, List.set_cons_zero, List.set_cons_succ, i64_w, i32_w]
    rfl
  refine pure_ (i := 2) (N := some 34) (v := ?_) (a' := ?_) #[true, true, true, false, false, false, false, false, false, false, false, false, false, false, false, false, false, false, false, false, false, false, false, false] rfl rfl (by kernel_rfl) (fun _ _ _ h => h) (Or.inl ⟨by rfl, ?_⟩) ?_ ?_
  rotate_left
  · intro w'
    go_simp
    with_reducible rfl
  rotate_left
  · simp only [Act.put, List.setIfInBounds_toArray, List.set_cons_zero, List.set_cons_succ, i64_w, i32_w]
    rfl
  refine pure_ (i := 3) (N := some 35) (v := ?_) (a' := ?_) #[true, true, true, true, false, false, false, false, false, false, false, false, false, false, false, false, false, false, false, false, false, false, false, false] rfl rfl (by kernel_rfl) (fun _ _ _ h => h) (Or.inl ⟨by rfl, ?_⟩) ?_ ?_
  rotate_left
  · intro w'
    go_simp
    with_reducible rfl
  rotate_left
  · simp only [Act.put, List.setIfInBounds_toArray, List.set_cons_zero, List.set_cons_succ, i64_w, i32_w]
    rfl
  refine pure_ (i := 5) (N := some 37) (v := ?_) (a' := ?_) #[true, true, true, true, false, true, false, false, false, false, false, false, false, false, false, false, false, false, false, false, false, false, false, false] rfl rfl (by kernel_rfl) (fun _ _ _ h => h) (Or.inl ⟨by rfl, ?_⟩) ?_ ?_
  rotate_left
  · intro w'
    go_simp
    with_reducible rfl
  rotate_left
  · simp only [Act.put, List.setIfInBounds_toArray, List.set_cons_zero, List.set_cons_succ, i64_w, i32_w]
    rfl
  refine pure_ (i := 6) (N := some 38) (v := ?_) (a' := ?_) #[true, true, true, true, false, true, true, false, false, false, false, false, false, false, false, false, false, false, false, false, false, false, false, false] rfl rfl (by kernel_rfl) (fun _ _ _ h => h) (Or.inl ⟨by rfl, ?_⟩) ?_ ?_
  rotate_left
  · intro w'
    go_simp
    with_reducible rfl
  rotate_left
  · simp only [Act.put, List.setIfInBounds_toArray, List.set_cons_zero, List.set_cons_succ, i64_w, i32_w]
    rfl
  refine pure_ (i := 7) (N := some 39) (v := ?_) (a' := ?_) #[true, true, true, true, false, true, true, true, false, false, false, false, false, false, false, false, false, false, false, false, false, false, false, false] rfl rfl (by kernel_rfl) (fun _ _ _ h => h) (Or.inl ⟨by rfl, ?_⟩) ?_ ?_
  rotate_left
  · intro w'
    go_simp
    with_reducible rfl
  rotate_left
  · simp only [Act.put, List.setIfInBounds_toArray, List.set_cons_zero, List.set_cons_succ, i64_w, i32_w]
    rfl
  refine pure_ (i := 9) (N := some 41) (v := ?_) (a' := ?_) #[true, true, true, true, false, true, true, true, false, true, false, false, false, false, false, false, false, false, false, false, false, false, false, false] rfl rfl (by kernel_rfl) (fun _ _ _ h => h) (Or.inl ⟨by rfl, ?_⟩) ?_ ?_
  rotate_left
  · intro w'
    go_simp
    with_reducible rfl
  rotate_left
  · simp only [Act.put, List.setIfInBounds_toArray, List.set_cons_zero, List.set_cons_succ, i64_w, i32_w]
    rfl
  refine pure_ (i := 10) (N := some 42) (v := ?_) (a' := ?_) #[true, true, true, true, false, true, true, true, false, true, true, false, false, false, false, false, false, false, false, false, false, false, false, false] rfl rfl (by kernel_rfl) (fun _ _ _ h => h) (Or.inl ⟨by rfl, ?_⟩) ?_ ?_
  rotate_left
  · intro w'
    go_simp
    with_reducible rfl
  rotate_left
  · simp only [Act.put, List.setIfInBounds_toArray, List.set_cons_zero, List.set_cons_succ, i64_w, i32_w]
    rfl
  refine pure_ (i := 11) (N := some 43) (v := ?_) (a' := ?_) #[true, true, true, true, false, true, true, true, false, true, true, true, false, false, false, false, false, false, false, false, false, false, false, false] rfl rfl (by kernel_rfl) (fun _ _ _ h => h) (Or.inl ⟨by rfl, ?_⟩) ?_ ?_
  rotate_left
  · intro w'
    go_simp
    with_reducible rfl
  rotate_left
  · simp only [Act.put, List.setIfInBounds_toArray, List.set_cons_zero, List.set_cons_succ, i64_w, i32_w]
    rfl
  refine pure_ (i := 13) (N := some 45) (v := ?_) (a' := ?_) #[true, true, true, true, false, true, true, true, false, true, true, true, false, true, false, false, false, false, false, false, false, false, false, false] rfl rfl (by kernel_rfl) (fun _ _ _ h => h) (Or.inl ⟨by rfl, ?_⟩) ?_ ?_
  rotate_left
  · intro w'
    go_simp
    with_reducible rfl
  rotate_left
  · simp only [Act.put, List.setIfInBounds_toArray, List.set_cons_zero, List.set_cons_succ, i64_w, i32_w]
    rfl
  refine pure_ (i := 14) (N := some 46) (v := ?_) (a' := ?_) #[true, true, true, true, false, true, true, true, false, true, true, true, false, true, true, false, false, false, false, false, false, false, false, false] rfl rfl (by kernel_rfl) (fun _ _ _ h => h) (Or.inl ⟨by rfl, ?_⟩) ?_ ?_
  rotate_left
  · intro w'
    go_simp
    with_reducible rfl
  rotate_left
  · simp only [Act.put, List.setIfInBounds_toArray, List.set_cons_zero, List.set_cons_succ, i64_w, i32_w]
    rfl
  refine pure_ (i := 15) (N := some 47) (v := ?_) (a' := ?_) #[true, true, true, true, false, true, true, true, false, true, true, true, false, true, true, true, false, false, false, false, false, false, false, false] rfl rfl (by kernel_rfl) (fun _ _ _ h => h) (Or.inl ⟨by rfl, ?_⟩) ?_ ?_
  rotate_left
  · intro w'
    go_simp
    with_reducible rfl
  rotate_left
  · simp only [Act.put, List.setIfInBounds_toArray, List.set_cons_zero, List.set_cons_succ, i64_w, i32_w]
    rfl
  refine pure_ (i := 17) (N := some 49) (v := ?_) (a' := ?_) #[true, true, true, true, false, true, true, true, false, true, true, true, false, true, true, true, false, true, false, false, false, false, false, false] rfl rfl (by kernel_rfl) (fun _ _ _ h => h) (Or.inl ⟨by rfl, ?_⟩) ?_ ?_
  rotate_left
  · intro w'
    go_simp
    with_reducible rfl
  rotate_left
  · simp only [Act.put, List.setIfInBounds_toArray, List.set_cons_zero, List.set_cons_succ, i64_w, i32_w]
    rfl
  refine take_ (i := 4) (N := some 36) (v := ?_) (a' := ?_) #[true, true, true, true, true, true, true, true, false, true, true, true, false, true, true, true, false, true, false, false, false, false, false, false] rfl rfl (by kernel_rfl) (fun _ _ _ h => h) (Or.inl ⟨by rfl, ?_⟩) hHeld ?_ ?_
  rotate_left
  · rintro w' ⟨s0, s1, s2⟩
    go_simp
    with_reducible rfl
  rotate_left
  · simp only [Act.put, List.setIfInBounds_toArray, List.set_cons_zero, List.set_cons_succ, i64_w, i32_w]
    rfl
  refine take_ (i := 8) (N := some 40) (v := ?_) (a' := ?_) #[true, true, true, true, true, true, true, true, true, true, true, true, false, true, true, true, false, true, false, false, false, false, false, false] rfl rfl (by kernel_rfl) (fun _ _ _ h => h) (Or.inl ⟨by rfl, ?_⟩) hHeld ?_ ?_
  rotate_left
  · rintro w' ⟨s0, s1, s2⟩
    go_simp
    with_reducible rfl
  rotate_left
  · simp only [Act.put, List.setIfInBounds_toArray, List.set_cons_zero, List.set_cons_succ, i64_w, i32_w]
    rfl
  refine take_ (i := 12) (N := some 44) (v := ?_) (a' := ?_) #[true, true, true, true, true, true, true, true, true, true, true, true, true, true, true, true, false, true, false, false, false, false, false, false] rfl rfl (by kernel_rfl) (fun _ _ _ h => h) (Or.inl ⟨by rfl, ?_⟩) hHeld ?_ ?_
  rotate_left
  · rintro w' ⟨s0, s1, s2⟩
    go_simp
    with_reducible rfl
  rotate_left
  · simp only [Act.put, List.setIfInBounds_toArray, List.set_cons_zero, List.set_cons_succ, i64_w, i32_w]
    rfl
  refine take_ (i := 16) (N := some 48) (v := ?_) (a' := ?_) #[true, true, true, true, true, true, true, true, true, true, true, true, true, true, true, true, true, true, false, false, false, false, false, false] rfl rfl (by kernel_rfl) (fun _ _ _ h => h) (Or.inl ⟨by rfl, ?_⟩) hHeld ?_ ?_
  rotate_left
  · rintro w' ⟨s0, s1, s2⟩
    go_simp
    with_reducible rfl
  rotate_left
  · simp only [Act.put, List.setIfInBounds_toArray, List.set_cons_zero, List.set_cons_succ, i64_w, i32_w]
    rfl
  refine pure_ (i := 18) (N := some 50) (v := ?_) (a' := ?_) #[true, true, true, true, true, true, true, true, true, true, true, true, true, true, true, true, true, true, true, false, false, false, false, false] rfl rfl (by kernel_rfl) (fun _ _ _ h => h) (Or.inl ⟨by rfl, ?_⟩) ?_ ?_
  rotate_left
  · intro w'
    go_simp
    with_reducible rfl
  rotate_left
  · simp only [Act.put, List.setIfInBounds_toArray, List.set_cons_zero, List.set_cons_succ, i64_w, i32_w]
    rfl
  refine pure_ (i := 19) (N := some 51) (v := ?_) (a' := ?_) #[true, true, true, true, true, true, true, true, true, true, true, true, true, true, true, true, true, true, true, true, false, false, false, false] rfl rfl (by kernel_rfl) (fun _ _ _ h => h) (Or.inl ⟨by rfl, ?_⟩) ?_ ?_
  rotate_left
  · intro w'
    go_simp
    with_reducible rfl
  rotate_left
  · simp only [Act.put, List.setIfInBounds_toArray, List.set_cons_zero, List.set_cons_succ, i64_w, i32_w]
    rfl
  refine one_ (i := 20) (N := some 52) #[true, true, true, true, true, true, true, true, true, true, true, true, true, true, true, true, true, true, true, true, true, false, false, false] rfl rfl (by kernel_rfl) (by decide) (fun K hK => ?_)
  refine Kd.R_append_rows_step (Kd.int .u8) (w0 := w0) w0.heap.size (by rfl) (.tmp 36) (.tmp 51) 23 5 (.int .u8 0) 1 rfl Try.underlying23 info5 rfl (by decide) (by omega) (.slice A m c) L D Bd md cd (fun k => k ≠ p) (fun _ => False) rfl rfl (Kd.R_drew HR1.out) (Kd.C_drew HCD.out) (fun _ _ h => h) (fun _ h => h.elim) (fun k hk => Ne.symm (Nat.ne_of_lt (Nat.lt_of_lt_of_le (blk_lt HP1.out) hk))) (below_drew HB1.out) (HB1.out.size) HL.out ?_
  intro v5 w5 ho hb5 hg hat
  clear hat
  obtain ⟨A5, c5, rfl⟩ := Kd.R_slice ho
  generalize hm5 : (L ++ D).length = m5 at ho ⊢
  have HP5 := Aside0.mk ((hg.block p (blk_lt HP1.out) (by exact fun h => (HR1.out.1 p h.symm) rfl)).trans HP1.out)
  have qf5 := blk_frozen HP5.out 2
  refine hK.out _ _ ⟨(wh_cells HP5.out).1, (wh_cells HP5.out).2.1, (wh_cells HP5.out).2.2.1⟩ (fun hHeld => ?_)
  clear hK K
  refine norm_ (a' := ?_) ?_ ?_
  rotate_left
  · show Act.put _ (some 52) _ = _
    simp only [Act.put, List.setIfInBounds_toArray, List.set_cons_zero, List.set_cons_succ, i64_w, i32_w]
    rfl
  refine pure_ (i := 21) (N := some 53) (v := ?_) (a' := ?_) #[true, true, true, true, true, true, true, true, true, true, true, true, true, true, true, true, true, true, true, true, true, true, false, false] rfl rfl (by kernel_rfl) (fun _ _ _ h => h) (Or.inl ⟨by rfl, ?_⟩) ?_ ?_
  rotate_left
  · intro w'
    go_simp
    with_reducible rfl
  rotate_left
  · simp only [Act.put, List.setIfInBounds_toArray, List.set_cons_zero, List.set_cons_succ, i64_w, i32_w]
    rfl
  refine pure_ (i := 22) (N := some 54) (v := ?_) (a' := ?_) #[true, true, true, true, true, true, true, true, true, true, true, true, true, true, true, true, true, true, true, true, true, true, true, false] rfl rfl (by kernel_rfl) (fun _ _ _ h => h) (Or.inl ⟨by rfl, ?_⟩) ?_ ?_
  rotate_left
  · intro w'
    go_simp
    with_reducible rfl
  rotate_left
  · simp only [Act.put, List.setIfInBounds_toArray, List.set_cons_zero, List.set_cons_succ, i64_w, i32_w]
    rfl
  refine last_ (i := 23) (N := none) #[true, true, true, true, true, true, true, true, true, true, true, true, true, true, true, true, true, true, true, true, true, true, true, true] rfl rfl (by kernel_rfl) (by decide) (fun K hK => ?_)
  refine skip_ (w1 := ?_) (by rfl) rfl ?_ ?_
  rotate_left
  · go_simp
    rfl
  refine hK.out _ _ ?_
  clear hK K
  refine done_ (by kernel_rfl) ?_
  have HO5 := Aside0.mk ho
  have HB5 := Aside0.mk hb5
  have HP6 : Aside0 ((w5.setCell ⟨p, 2, none⟩ (.slice A5 m5 c5)).heap[p]? = some (.cells #[.slice A0 nB c0, .int .i64 a, .slice A5 m5 c5, .bool false] 61 (0, 0))) := ⟨blk_set HP5.out 2 (.slice A5 m5 c5)⟩
  have HR6 := Aside0.mk (Kd.R_far HO5.out (p := ⟨p, 2, none⟩) (fun k hk => hk) (.slice A5 m5 c5))
  have HB6 := Aside0.mk (Below.setCell HB5.out (p := ⟨p, 2, none⟩) hb0.out (.slice A5 m5 c5))
  clear ho hb5 hg qf5 HO5 HB5 HP5 HP1 HR1 HB1 HCD hHeld hcut
  generalize w5.setCell ⟨p, 2, none⟩ (.slice A5 m5 c5) = w6 at HP6 HR6 HB6 ⊢
  have q6 := (wh_cells HP6.out).2.1
  have f6 := blk_frozen HP6.out 1
  go_wp2
  go_ret
  exact ⟨rfl, .slice A5 m5 c5, hb0.out, Below.setCell HB6.out (p := ⟨p, 1, none⟩) hb0.out (.int .i64 hi), blk_set HP6.out 1 (.int .i64 hi), Kd.R_far HR6.out (p := ⟨p, 1, none⟩) (fun k hk => hk) (.int .i64 hi)⟩
set_option maxHeartbeats 4000000 in
theorem wh_told.wrong (w0 : World) (p : Nat) (A0 : Option Addr) (nB c0 : Nat) (L : List Int) (r : Bool) (n : Int) (a x : Int) (v : Value) (w : World) (h : Wh w0 p (.slice A0 nB c0) a L r v w)
    (hn : 0 ≤ n) (hL : L.length ≤ 65536) (ha : 0 ≤ a) (ha2 : a ≤ (nB : Int)) (hnB : nB ≤ 140737488355328) (hx : (if n = 0 then (5 : Int) else if r = true then 5 else if n > 65536 - (L.length : Int) then 7 else if n > (nB : Int) - a then 4 else 0) = x) (hx0 : x ≠ 0) :
    Calls Try.prog 35 #[.pointer (some ⟨p, 0, none⟩), .int .i64 n] w fun e w' => e = .returned (.int .i64 x) ∧ Below w0.heap.size w0 w' := by
  have Hroom := Aside0.mk (fun x hx => h.room hL n x hx)
  obtain ⟨A, c, rfl, hc, hCL⟩ := h.slice
  have hsub : wrap64 ((nB : Int) - a) = (nB : Int) - a := by unfold wrap64; omega
  have HB1 := Aside0.mk h.hB
  have HP := Aside0.mk h.hP
  have hq1 := (wh_cells HP.out).1
  have hq2 := (wh_cells HP.out).2.1
  have hq3 := (wh_cells HP.out).2.2.1
  have hq4 := (wh_cells HP.out).2.2.2
  clear h hc hCL hL hnB
  by_cases c0_ : n = 0
  · rw [if_pos c0_] at hx
    have hn0 : ((n == 0) = true) := beq_iff_eq.mpr c0_
    subst hx
    clear c0_ hn ha ha2 hx0
    go_enter Try.func35, Try.ntmps35
    go_wp2
    go_ret
    exact ⟨rfl, HB1.out⟩
  rw [if_neg c0_] at hx
  have hn0 : ((n == 0) = false) := beq_eq_false_iff_ne.mpr c0_
  clear c0_
  cases r with
  | true =>
    rw [if_pos rfl] at hx
    subst hx
    clear hn ha ha2 hx0
    go_enter Try.func35, Try.ntmps35
    go_wp2
    go_ret
    exact ⟨rfl, HB1.out⟩
  | false =>
    rw [if_neg (by decide)] at hx
    by_cases c1 : n > 65536 - (L.length : Int)
    · rw [if_pos c1] at hx
      subst hx
      have Hr := Aside0.mk (Hroom.out 7 (if_pos c1))
      clear c1 hn ha ha2 hx0 Hroom
      go_enter Try.func35, Try.ntmps35
      go_wp2_with fail
      refine Hr.out.mono ?_
      rintro e w1 ⟨rfl, rfl⟩
      go_wp2
      go_ret
      exact ⟨rfl, HB1.out⟩
    · rw [if_neg c1] at hx
      have Hr := Aside0.mk (Hroom.out 0 (if_neg c1))
      by_cases c2 : n > (nB : Int) - a
      · rw [if_pos c2] at hx
        subst hx
        have hlt : decide ((nB : Int) - a < n) = true := decide_eq_true c2
        clear c1 c2 hn ha ha2 hx0 Hroom
        go_enter Try.func35, Try.ntmps35
        go_wp2_with fail
        refine Hr.out.mono ?_
        rintro e w1 ⟨rfl, rfl⟩
        go_wp2_with fail
        refine start_ (n := 12) (S := fun w' => w'.cell? ⟨p, 0, none⟩ = some (.slice A0 nB c0) ∧ w'.cell? ⟨p, 1, none⟩ = some (.int .i64 a)) (ds := []) #[false, false, false, false, false, false, false, false, false, false, false, false] (by kernel_rfl) rfl rfl ⟨(wh_cells HP.out).1, (wh_cells HP.out).2.1⟩ (fun hHeld => ?_)
        refine pure_ (i := 0) (N := some 20) (v := ?_) (a' := ?_) #[true, false, false, false, false, false, false, false, false, false, false, false] rfl rfl (by kernel_rfl) (fun _ _ _ h => h) (Or.inl ⟨by rfl, ?_⟩) ?_ ?_
        rotate_left
        · intro w'
          go_simp
          with_reducible rfl
        rotate_left
        · simp only [Act.put, List.setIfInBounds_toArray, List.set_cons_zero, List.set_cons_succ, i64_w, i32_w]
          rfl
        refine pure_ (i := 1) (N := some 21) (v := ?_) (a' := ?_) #[true, true, false, false, false, false, false, false, false, false, false, false] rfl rfl (by kernel_rfl) (fun _ _ _ h => h) (Or.inl ⟨by rfl, ?_⟩) ?_ ?_
        rotate_left
        · intro w'
          go_simp
          with_reducible rfl
        rotate_left
        · simp only [Act.put, List.setIfInBounds_toArray, List.set_cons_zero, List.set_cons_succ, i64_w, i32_w]
          rfl
        refine pure_ (i := 2) (N := some 22) (v := ?_) (a' := ?_) #[true, true, true, false, false, false, false, false, false, false, false, false] rfl rfl (by kernel_rfl) (fun _ _ _ h => h) (Or.inl ⟨by rfl, ?_⟩) ?_ ?_
        rotate_left
        · intro w'
          go_simp
          with_reducible rfl
        rotate_left
        · simp only [Act.put, List.setIfInBounds_toArray, List.set_cons_zero, List.set_cons_succ, i64_w, i32_w]
          rfl
        refine pure_ (i := 3) (N := some 23) (v := ?_) (a' := ?_) #[true, true, true, true, false, false, false, false, false, false, false, false] rfl rfl (by kernel_rfl) (fun _ _ _ h => h) (Or.inl ⟨by rfl, ?_⟩) ?_ ?_
        rotate_left
        · intro w'
          go_simp
          with_reducible rfl
        rotate_left
        · simp only [Act.put, List.setIfInBounds_toArray, List.set_cons_zero, List.set_cons_succ, i64_w, i32_w]
          rfl
        refine pure_ (i := 6) (N := some 26) (v := ?_) (a' := ?_) #[true, true, true, true, false, false, true, false, false, false, false, false] rfl rfl (by kernel_rfl) (fun _ _ _ h => h) (Or.inl ⟨by rfl, ?_⟩) ?_ ?_
        rotate_left
        · intro w'
          go_simp
          with_reducible rfl
        rotate_left
        · simp only [Act.put, List.setIfInBounds_toArray, List.set_cons_zero, List.set_cons_succ, i64_w, i32_w]
          rfl
        refine pure_ (i := 7) (N := some 27) (v := ?_) (a' := ?_) #[true, true, true, true, false, false, true, true, false, false, false, false] rfl rfl (by kernel_rfl) (fun _ _ _ h => h) (Or.inl ⟨by rfl, ?_⟩) ?_ ?_
        rotate_left
        · intro w'
          go_simp
          with_reducible rfl
        rotate_left
        · simp only [Act.put, List.setIfInBounds_toArray, List.set_cons_zero, List.set_cons_succ, i64_w, i32_w]
          rfl
        refine pure_ (i := 8) (N := some 28) (v := ?_) (a' := ?_) #[true, true, true, true, false, false, true, true, true, false, false, false] rfl rfl (by kernel_rfl) (fun _ _ _ h => h) (Or.inl ⟨by rfl, ?_⟩) ?_ ?_
        rotate_left
        · intro w'
          go_simp
          with_reducible rfl
        rotate_left
        · simp only [Act.put, List.setIfInBounds_toArray, List.set_cons_zero, List.set_cons_succ, i64_w, i32_w]
          rfl
        refine take_ (i := 4) (N := some 24) (v := ?_) (a' := ?_) #[true, true, true, true, true, false, true, true, true, false, false, false] rfl rfl (by kernel_rfl) (fun _ _ _ h => h) (Or.inl ⟨by rfl, ?_⟩) hHeld ?_ ?_
        rotate_left
        · rintro w' ⟨s0, s1⟩
          go_simp
          with_reducible rfl
        rotate_left
        · simp only [Act.put, List.setIfInBounds_toArray, List.set_cons_zero, List.set_cons_succ, i64_w, i32_w]
          rfl
        refine pure_ (i := 5) (N := some 25) (v := ?_) (a' := ?_) #[true, true, true, true, true, true, true, true, true, false, false, false] rfl rfl (by kernel_rfl) (fun _ _ _ h => h) (Or.inl ⟨by rfl, ?_⟩) ?_ ?_
        rotate_left
        · intro w'
          go_simp
          with_reducible rfl
        rotate_left
        · simp only [Act.put, List.setIfInBounds_toArray, List.set_cons_zero, List.set_cons_succ, i64_w, i32_w]
          rfl
        refine take_ (i := 9) (N := some 29) (v := ?_) (a' := ?_) #[true, true, true, true, true, true, true, true, true, true, false, false] rfl rfl (by kernel_rfl) (fun _ _ _ h => h) (Or.inl ⟨by rfl, ?_⟩) hHeld ?_ ?_
        rotate_left
        · rintro w' ⟨s0, s1⟩
          go_simp
          with_reducible rfl
        rotate_left
        · simp only [Act.put, List.setIfInBounds_toArray, List.set_cons_zero, List.set_cons_succ, i64_w, i32_w]
          rfl
        refine pure_ (i := 10) (N := some 30) (v := ?_) (a' := ?_) #[true, true, true, true, true, true, true, true, true, true, true, false] rfl rfl (by kernel_rfl) (fun _ _ _ h => h) (Or.inl ⟨by rfl, ?_⟩) ?_ ?_
        rotate_left
        · intro w'
          go_simp
          with_reducible rfl
        rotate_left
        · simp only [Act.put, List.setIfInBounds_toArray, List.set_cons_zero, List.set_cons_succ, i64_w, i32_w]
          rfl
        refine pure_ (i := 11) (N := some 31) (v := ?_) (a' := ?_) #[true, true, true, true, true, true, true, true, true, true, true, true] rfl rfl (by kernel_rfl) (fun _ _ _ h => h) (Or.inl ⟨by rfl, ?_⟩) ?_ ?_
        rotate_left
        · intro w'
          go_simp
          with_reducible rfl
        rotate_left
        · simp only [Act.put, List.setIfInBounds_toArray, List.set_cons_zero, List.set_cons_succ, i64_w, i32_w]
          rfl
        refine done_ (by kernel_rfl) ?_
        go_wp2
        go_ret
        exact ⟨rfl, below_drew HB1.out⟩
      · rw [if_neg c2] at hx
        exact absurd hx.symm hx0
def wh_copy (far : Int) : Nat → List Int → List Int
  | 0, T => T
  | n + 1, T => wh_copy far n (T ++ [rd T ((T.length : Int) - far)])
theorem get_at (k : Nat) (A0 : Option Addr) (nB c0 : Nat) (B : List Int) (a x y e : Int) (hB : B.length = nB) (hc0 : nB ≤ c0) (hf : num_Get.f k B a = some (x, y, e)) (w : World) (hC : Kd.C (Kd.int .u8) w A0 nB B) :
    Calls Try.prog 20 #[.slice A0 nB c0, .int .i64 a] w fun e' w' => e' = .returned (.tuple #[.int .i64 x, .int .i64 y, .int .i64 e]) ∧ Drawn0 w w' := by
  subst hB
  exact num_Get.calls k A0 c0 B a x y e w hC hc0 hf
theorem wh_match.far (w0 : World) (p : Nat) (u : Value) (L : List Int) (r : Bool) (n : Int) (a : Int) (v : Value) (w : World) (h : Wh w0 p u a L r v w) (hn : n > 130) :
    Calls Try.prog 36 #[.pointer (some ⟨p, 0, none⟩), .int .i64 n] w fun e w' => e = .returned (.int .i64 5) ∧ Below w0.heap.size w0 w' := by
  have HB1 := Aside0.mk h.hB
  have hn' : decide ((130 : Int) < n) = true := decide_eq_true hn
  clear h hn
  go_enter Try.func36, Try.ntmps36
  go_wp2
  go_ret
  exact ⟨rfl, HB1.out⟩
set_option maxHeartbeats 4000000 in
theorem wh_match.wrong (k : Nat) (w0 : World) (p : Nat) (A0 : Option Addr) (nB c0 : Nat) (B L : List Int) (r : Bool) (n : Int) (a x : Int) (far to_ e0 : Int) (v : Value) (w : World) (h : Wh w0 p (.slice A0 nB c0) a L r v w) (hB : B.length = nB) (hC : Kd.C (Kd.int .u8) w0 A0 nB B) (hc0 : nB ≤ c0)
    (hn : n ≤ 130) (hL : L.length ≤ 65536) (hf : num_Get.f k B a = some (far, to_, e0)) (hx : (if e0 ≠ 0 then e0 else if far = 0 then 5 else if far > 4096 then 5 else if far > (L.length : Int) then 5 else if n > 65536 - (L.length : Int) then 7 else 0) = x) (hx0 : x ≠ 0) :
    Calls Try.prog 36 #[.pointer (some ⟨p, 0, none⟩), .int .i64 n] w fun e w' => e = .returned (.int .i64 x) ∧ Below w0.heap.size w0 w' := by
  have HGet := Aside0.mk (get_at k A0 nB c0 B a far to_ e0 hB hc0 hf)
  have HC := Aside0.mk (Kd.C_below hC h.hB)
  have HH := Aside0.mk h
  have HP := Aside0.mk h.hP
  have HL := Aside0.mk hL
  have hn' : decide ((130 : Int) < n) = false := decide_eq_false (by omega)
  have hq1 := (wh_cells HP.out).1
  have hq2 := (wh_cells HP.out).2.1
  clear h hB hC hn hL hf hc0
  have HX := Aside0.mk hx
  have HX0 := Aside0.mk hx0
  clear hx hx0
  go_enter Try.func36, Try.ntmps36
  go_wp2_with fail
  refine start_ (n := 16) (S := fun w' => w'.cell? ⟨p, 0, none⟩ = some (.slice A0 nB c0) ∧ w'.cell? ⟨p, 1, none⟩ = some (.int .i64 a)) (ds := []) #[false, false, false, false, false, false, false, false, false, false, false, false, false, false, false, false] (by kernel_rfl) rfl rfl ⟨(wh_cells HP.out).1, (wh_cells HP.out).2.1⟩ (fun hHeld => ?_)
  refine pure_ (i := 0) (N := some 12) (v := ?_) (a' := ?_) #[true, false, false, false, false, false, false, false, false, false, false, false, false, false, false, false] rfl rfl (by kernel_rfl) (fun _ _ _ h => h) (Or.inl ⟨by rfl, ?_⟩) ?_ ?_
  rotate_left
  · intro w'
    go_simp
    with_reducible rfl
  rotate_left
  · simp only [Act.put, List.setIfInBounds_toArray, List.set_cons_zero, List.set_cons_succ, i64_w, i32_w]
    rfl
  refine pure_ (i := 1) (N := some 13) (v := ?_) (a' := ?_) #[true, true, false, false, false, false, false, false, false, false, false, false, false, false, false, false] rfl rfl (by kernel_rfl) (fun _ _ _ h => h) (Or.inl ⟨by rfl, ?_⟩) ?_ ?_
  rotate_left
  · intro w'
    go_simp
    with_reducible rfl
  rotate_left
  · simp only [Act.put, List.setIfInBounds_toArray, List.set_cons_zero, List.set_cons_succ, i64_w, i32_w]
    rfl
  refine pure_ (i := 2) (N := some 14) (v := ?_) (a' := ?_) #[true, true, true, false, false, false, false, false, false, false, false, false, false, false, false, false] rfl rfl (by kernel_rfl) (fun _ _ _ h => h) (Or.inl ⟨by rfl, ?_⟩) ?_ ?_
  rotate_left
  · intro w'
    go_simp
    with_reducible rfl
  rotate_left
  · simp only [Act.put, List.setIfInBounds_toArray, List.set_cons_zero, List.set_cons_succ, i64_w, i32_w]
    rfl
  refine pure_ (i := 4) (N := some 16) (v := ?_) (a' := ?_) #[true, true, true, false, true, false, false, false, false, false, false, false, false, false, false, false] rfl rfl (by kernel_rfl) (fun _ _ _ h => h) (Or.inl ⟨by rfl, ?_⟩) ?_ ?_
  rotate_left
  · intro w'
    go_simp
    with_reducible rfl
  rotate_left
  · simp only [Act.put, List.setIfInBounds_toArray, List.set_cons_zero, List.set_cons_succ, i64_w, i32_w]
    rfl
  refine pure_ (i := 5) (N := some 17) (v := ?_) (a' := ?_) #[true, true, true, false, true, true, false, false, false, false, false, false, false, false, false, false] rfl rfl (by kernel_rfl) (fun _ _ _ h => h) (Or.inl ⟨by rfl, ?_⟩) ?_ ?_
  rotate_left
  · intro w'
    go_simp
    with_reducible rfl
  rotate_left
  · simp only [Act.put, List.setIfInBounds_toArray, List.set_cons_zero, List.set_cons_succ, i64_w, i32_w]
    rfl
  refine pure_ (i := 6) (N := some 18) (v := ?_) (a' := ?_) #[true, true, true, false, true, true, true, false, false, false, false, false, false, false, false, false] rfl rfl (by kernel_rfl) (fun _ _ _ h => h) (Or.inl ⟨by rfl, ?_⟩) ?_ ?_
  rotate_left
  · intro w'
    go_simp
    with_reducible rfl
  rotate_left
  · simp only [Act.put, List.setIfInBounds_toArray, List.set_cons_zero, List.set_cons_succ, i64_w, i32_w]
    rfl
  refine take_ (i := 3) (N := some 15) (v := ?_) (a' := ?_) #[true, true, true, true, true, true, true, false, false, false, false, false, false, false, false, false] rfl rfl (by kernel_rfl) (fun _ _ _ h => h) (Or.inl ⟨by rfl, ?_⟩) hHeld ?_ ?_
  rotate_left
  · rintro w' ⟨s0, s1⟩
    go_simp
    with_reducible rfl
  rotate_left
  · simp only [Act.put, List.setIfInBounds_toArray, List.set_cons_zero, List.set_cons_succ, i64_w, i32_w]
    rfl
  refine take_ (i := 7) (N := some 19) (v := ?_) (a' := ?_) #[true, true, true, true, true, true, true, true, false, false, false, false, false, false, false, false] rfl rfl (by kernel_rfl) (fun _ _ _ h => h) (Or.inl ⟨by rfl, ?_⟩) hHeld ?_ ?_
  rotate_left
  · rintro w' ⟨s0, s1⟩
    go_simp
    with_reducible rfl
  rotate_left
  · simp only [Act.put, List.setIfInBounds_toArray, List.set_cons_zero, List.set_cons_succ, i64_w, i32_w]
    rfl
  refine one_ (i := 8) (N := some 20) #[true, true, true, true, true, true, true, true, true, false, false, false, false, false, false, false] rfl rfl (by kernel_rfl) (by decide) (fun K hK => ?_)
  refine goes_ Try.func20 (by kernel_rfl) rfl #[.slice A0 nB c0, .int .i64 a] (by rfl) rfl rfl (by simp only [List.map_toArray, List.map_cons, List.map_nil]; rfl) ?_
  with_reducible refine (HGet.out _ (Kd.C_drew HC.out)).mono ?_
  rintro e w3 ⟨rfl, hd3⟩
  refine ⟨_, rfl, ?_⟩
  have HP3 := Aside0.mk ((hd3.below.block p (blk_lt (by exact HP.out))).trans HP.out)
  refine hK.out _ _ ⟨(wh_cells HP3.out).1, (wh_cells HP3.out).2.1⟩ (fun hHeld => ?_)
  clear hK K
  refine norm_ (a' := ?_) ?_ ?_
  rotate_left
  · show Act.put _ (some 20) _ = _
    simp only [Act.put, List.setIfInBounds_toArray, List.set_cons_zero, List.set_cons_succ, i64_w, i32_w]
    rfl
  refine pure_ (i := 9) (N := some 11) (v := ?_) (a' := ?_) #[true, true, true, true, true, true, true, true, true, true, false, false, false, false, false, false] rfl rfl (by kernel_rfl) (fun _ _ _ h => h) (Or.inl ⟨by rfl, ?_⟩) ?_ ?_
  rotate_left
  · intro w'
    go_simp
    with_reducible rfl
  rotate_left
  · simp only [Act.put, List.setIfInBounds_toArray, List.set_cons_zero, List.set_cons_succ, i64_w, i32_w]
    rfl
  refine pure_ (i := 10) (N := some 21) (v := ?_) (a' := ?_) #[true, true, true, true, true, true, true, true, true, true, true, false, false, false, false, false] rfl rfl (by kernel_rfl) (fun _ _ _ h => h) (Or.inl ⟨by rfl, ?_⟩) ?_ ?_
  rotate_left
  · intro w'
    go_simp
    with_reducible rfl
  rotate_left
  · simp only [Act.put, List.setIfInBounds_toArray, List.set_cons_zero, List.set_cons_succ, i64_w, i32_w]
    rfl
  refine pure_ (i := 11) (N := some 22) (v := ?_) (a' := ?_) #[true, true, true, true, true, true, true, true, true, true, true, true, false, false, false, false] rfl rfl (by kernel_rfl) (fun _ _ _ h => h) (Or.inl ⟨by rfl, ?_⟩) ?_ ?_
  rotate_left
  · intro w'
    go_simp
    with_reducible rfl
  rotate_left
  · simp only [Act.put, List.setIfInBounds_toArray, List.set_cons_zero, List.set_cons_succ, i64_w, i32_w]
    rfl
  refine pure_ (i := 12) (N := some 23) (v := ?_) (a' := ?_) #[true, true, true, true, true, true, true, true, true, true, true, true, true, false, false, false] rfl rfl (by kernel_rfl) (fun _ _ _ h => h) (Or.inl ⟨by rfl, ?_⟩) ?_ ?_
  rotate_left
  · intro w'
    go_simp
    with_reducible rfl
  rotate_left
  · simp only [Act.put, List.setIfInBounds_toArray, List.set_cons_zero, List.set_cons_succ, i64_w, i32_w]
    rfl
  refine pure_ (i := 13) (N := some 5) (v := ?_) (a' := ?_) #[true, true, true, true, true, true, true, true, true, true, true, true, true, true, false, false] rfl rfl (by kernel_rfl) (fun _ _ _ h => h) (Or.inl ⟨by rfl, ?_⟩) ?_ ?_
  rotate_left
  · intro w'
    go_simp
    with_reducible rfl
  rotate_left
  · simp only [Act.put, List.setIfInBounds_toArray, List.set_cons_zero, List.set_cons_succ, i64_w, i32_w]
    rfl
  refine pure_ (i := 14) (N := some 6) (v := ?_) (a' := ?_) #[true, true, true, true, true, true, true, true, true, true, true, true, true, true, true, false] rfl rfl (by kernel_rfl) (fun _ _ _ h => h) (Or.inl ⟨by rfl, ?_⟩) ?_ ?_
  rotate_left
  · intro w'
    go_simp
    with_reducible rfl
  rotate_left
  · simp only [Act.put, List.setIfInBounds_toArray, List.set_cons_zero, List.set_cons_succ, i64_w, i32_w]
    rfl
  refine pure_ (i := 15) (N := some 7) (v := ?_) (a' := ?_) #[true, true, true, true, true, true, true, true, true, true, true, true, true, true, true, true] rfl rfl (by kernel_rfl) (fun _ _ _ h => h) (Or.inl ⟨by rfl, ?_⟩) ?_ ?_
  rotate_left
  · intro w'
    go_simp
    with_reducible rfl
  rotate_left
  · simp only [Act.put, List.setIfInBounds_toArray, List.set_cons_zero, List.set_cons_succ, i64_w, i32_w]
    rfl
  refine done_ (by kernel_rfl) ?_
  have HH3 := Aside0.mk ((HH.out.drew (Drawn0.step (Drawn0.refl _) 1)).drew hd3)
  have hx := HX.out
  have hx0 := HX0.out
  clear hHeld hd3 HP3 HP hq1 hq2 HC HGet HX HX0 HH
  by_cases ce : e0 = 0
  · rw [if_neg (by simpa using ce)] at hx
    have ce1 : (e0 != 0) = false := bne_eq_false_iff_eq.mpr ce
    clear ce
    by_cases c1 : far = 0
    · rw [if_pos c1] at hx
      subst hx
      have c1' : (far == 0) = true := beq_iff_eq.mpr c1
      clear c1 hx0
      go_wp2
      go_ret
      exact ⟨rfl, HH3.out.hB⟩
    rw [if_neg c1] at hx
    have c1' : (far == 0) = false := beq_eq_false_iff_ne.mpr c1
    clear c1
    by_cases c2 : far > 4096
    · rw [if_pos c2] at hx
      subst hx
      have c2' : decide (4096 < far) = true := decide_eq_true c2
      clear c2 hx0
      go_wp2
      go_ret
      exact ⟨rfl, HH3.out.hB⟩
    rw [if_neg c2] at hx
    have c2' : decide (4096 < far) = false := decide_eq_false c2
    clear c2
    obtain ⟨A, c, ev, _, _⟩ := HH3.out.slice
    subst ev
    have q3 := (wh_cells HH3.out.hP).2.2.1
    by_cases c3 : far > (L.length : Int)
    · rw [if_pos c3] at hx
      subst hx
      have c3' : decide ((L.length : Int) < far) = true := decide_eq_true c3
      clear c3 hx0
      go_wp2
      go_ret
      exact ⟨rfl, HH3.out.hB⟩
    rw [if_neg c3] at hx
    have c3' : decide ((L.length : Int) < far) = false := decide_eq_false c3
    clear c3
    by_cases c4 : n > 65536 - (L.length : Int)
    · rw [if_pos c4] at hx
      subst hx
      have Hr := Aside0.mk (HH3.out.room HL.out n 7 (if_pos c4))
      clear c4 hx0
      go_wp2_with fail
      refine Hr.out.mono ?_
      rintro e w4 ⟨rfl, rfl⟩
      go_wp2
      go_ret
      exact ⟨rfl, HH3.out.hB⟩
    · rw [if_neg c4] at hx
      exact absurd hx.symm hx0
  · rw [if_pos ce] at hx
    subst hx
    have ce1 : (e0 != 0) = true := bne_iff_ne.mpr ce
    clear ce hx0
    go_wp2
    go_ret
    exact ⟨rfl, HH3.out.hB⟩
theorem Wh.setAt {w0 : World} {p : Nat} {u : Value} {at_ : Int} {T : List Int} {r : Bool} {v : Value} {w : World} (h : Wh w0 p u at_ T r v w) (x : Int) : Wh w0 p u x T r v (w.setCell ⟨p, 1, none⟩ (.int .i64 x)) :=
  ⟨h.hb0, Below.setCell h.hB (p := ⟨p, 1, none⟩) h.hb0 _, blk_set h.hP 1 (.int .i64 x), Kd.R_far h.hR (p := ⟨p, 1, none⟩) (fun k hk => hk) _⟩
theorem Wh.setRun {w0 : World} {p : Nat} {u : Value} {at_ : Int} {T : List Int} {r : Bool} {v : Value} {w : World} (h : Wh w0 p u at_ T r v w) (x : Bool) : Wh w0 p u at_ T x v (w.setCell ⟨p, 3, none⟩ (.bool x)) :=
  ⟨h.hb0, Below.setCell h.hB (p := ⟨p, 3, none⟩) h.hb0 _, blk_set h.hP 3 (.bool x), Kd.R_far h.hR (p := ⟨p, 3, none⟩) (fun k hk => hk) _⟩
theorem blk_alloc_ {w : World} {p : Nat} {o : Obj} (h : w.heap[p]? = some o) (x : Obj) : (w.alloc x).heap[p]? = some o := ((below_alloc (Below.refl _ w) x).block p (blk_lt h)).trans h
theorem row_base {w : World} {b : Nat} {ok : Nat → Prop} {v : Value} {xs : List Int} (h : (Kd.int .u8).R 5 w b ok v xs) (h0 : 0 < xs.length) : ∃ g c, v = .slice (some ⟨g, 0, none⟩) xs.length c := by
  obtain ⟨_, inner, hown, _⟩ := h
  rcases hown.2 with ⟨_, hn⟩ | ⟨g, cap, cur, e, _⟩
  · omega
  · exact ⟨g, cap, e⟩
theorem row_cell {w : World} {b : Nat} {ok : Nat → Prop} {g m c : Nat} {xs : List Int} (h : (Kd.int .u8).R 5 w b ok (.slice (some ⟨g, 0, none⟩) m c) xs) (j : Nat) (hj : j < xs.length) : w.cell? ⟨g, j, none⟩ = some (.int .u8 (rd xs (j : Int))) := by
  obtain ⟨e, _, h2⟩ := Kd.R_reads' h
  obtain ⟨ad, e3, hx⟩ := Kd.at_int h2 (j : Int) (by omega) (by omega)
  cases e3
  rw [Int.toNat_natCast] at hx
  by_cases h0 : j = 0
  · subst h0
    simpa [Addr.add] using hx
  · simpa [Addr.add, h0] using hx
set_option maxHeartbeats 4000000 in
theorem wh_match.got (k : Nat) (w0 : World) (p : Nat) (A0 : Option Addr) (nB c0 : Nat) (B L : List Int) (r : Bool) (n : Nat) (a : Int) (far to_ : Int) (v : Value) (w : World) (h : Wh w0 p (.slice A0 nB c0) a L r v w) (hB : B.length = nB) (hC : Kd.C (Kd.int .u8) w0 A0 nB B) (hc0 : nB ≤ c0)
    (hn : n ≤ 130) (hr : n + L.length ≤ 65536) (hf : num_Get.f k B a = some (far, to_, 0)) (hf0 : 0 < far) (hf1 : far ≤ 4096) (hf2 : far ≤ (L.length : Int)) :
    Calls Try.prog 36 #[.pointer (some ⟨p, 0, none⟩), .int .i64 n] w fun e w' => e = .returned (.int .i64 0) ∧ ∃ v', Wh w0 p (.slice A0 nB c0) to_ (wh_copy far n L) r v' w' := by
  have HGet := Aside0.mk (get_at k A0 nB c0 B a far to_ 0 hB hc0 hf)
  have HC := Aside0.mk (Kd.C_below hC h.hB)
  have HH := Aside0.mk h
  have HP := Aside0.mk h.hP
  have hn' : decide ((130 : Int) < (n : Int)) = false := decide_eq_false (by omega)
  have hq1 := (wh_cells HP.out).1
  have hq2 := (wh_cells HP.out).2.1
  have c1' : (far == 0) = false := beq_eq_false_iff_ne.mpr (by omega)
  have c2' : decide (4096 < far) = false := decide_eq_false (by omega)
  have c3' : decide ((L.length : Int) < far) = false := decide_eq_false (by omega)
  have HN := Aside0.mk (show n + L.length ≤ 65536 ∧ 0 < far ∧ far ≤ (L.length : Int) from ⟨hr, hf0, hf2⟩)
  clear h hB hC hn hf hc0 hr hf0 hf1 hf2
  have ce1 : ((0 : Int) != 0) = false := rfl
  go_enter Try.func36, Try.ntmps36
  go_wp2_with fail
  refine start_ (n := 16) (S := fun w' => w'.cell? ⟨p, 0, none⟩ = some (.slice A0 nB c0) ∧ w'.cell? ⟨p, 1, none⟩ = some (.int .i64 a)) (ds := []) #[false, false, false, false, false, false, false, false, false, false, false, false, false, false, false, false] (by kernel_rfl) rfl rfl ⟨(wh_cells HP.out).1, (wh_cells HP.out).2.1⟩ (fun hHeld => ?_)
  refine pure_ (i := 0) (N := some 12) (v := ?_) (a' := ?_) #[true, false, false, false, false, false, false, false, false, false, false, false, false, false, false, false] rfl rfl (by kernel_rfl) (fun _ _ _ h => h) (Or.inl ⟨by rfl, ?_⟩) ?_ ?_
  rotate_left
  · intro w'
    go_simp
    with_reducible rfl
  rotate_left
  · simp only [Act.put, List.setIfInBounds_toArray, List.set_cons_zero, List.set_cons_succ, i64_w, i32_w]
    rfl
  refine pure_ (i := 1) (N := some 13) (v := ?_) (a' := ?_) #[true, true, false, false, false, false, false, false, false, false, false, false, false, false, false, false] rfl rfl (by kernel_rfl) (fun _ _ _ h => h) (Or.inl ⟨by rfl, ?_⟩) ?_ ?_
  rotate_left
  · intro w'
    go_simp
    with_reducible rfl
  rotate_left
  · simp only [Act.put, List.setIfInBounds_toArray, List.set_cons_zero, List.set_cons_succ, i64_w, i32_w]
    rfl
  refine pure_ (i := 2) (N := some 14) (v := ?_) (a' := ?_) #[true, true, true, false, false, false, false, false, false, false, false, false, false, false, false, false] rfl rfl (by kernel_rfl) (fun _ _ _ h => h) (Or.inl ⟨by rfl, ?_⟩) ?_ ?_
  rotate_left
  · intro w'
    go_simp
    with_reducible rfl
  rotate_left
  · simp only [Act.put, List.setIfInBounds_toArray, List.set_cons_zero, List.set_cons_succ, i64_w, i32_w]
    rfl
  refine pure_ (i := 4) (N := some 16) (v := ?_) (a' := ?_) #[true, true, true, false, true, false, false, false, false, false, false, false, false, false, false, false] rfl rfl (by kernel_rfl) (fun _ _ _ h => h) (Or.inl ⟨by rfl, ?_⟩) ?_ ?_
  rotate_left
  · intro w'
    go_simp
    with_reducible rfl
  rotate_left
  · simp only [Act.put, List.setIfInBounds_toArray, List.set_cons_zero, List.set_cons_succ, i64_w, i32_w]
    rfl
  refine pure_ (i := 5) (N := some 17) (v := ?_) (a' := ?_) #[true, true, true, false, true, true, false, false, false, false, false, false, false, false, false, false] rfl rfl (by kernel_rfl) (fun _ _ _ h => h) (Or.inl ⟨by rfl, ?_⟩) ?_ ?_
  rotate_left
  · intro w'
    go_simp
    with_reducible rfl
  rotate_left
  · simp only [Act.put, List.setIfInBounds_toArray, List.set_cons_zero, List.set_cons_succ, i64_w, i32_w]
    rfl
  refine pure_ (i := 6) (N := some 18) (v := ?_) (a' := ?_) #[true, true, true, false, true, true, true, false, false, false, false, false, false, false, false, false] rfl rfl (by kernel_rfl) (fun _ _ _ h => h) (Or.inl ⟨by rfl, ?_⟩) ?_ ?_
  rotate_left
  · intro w'
    go_simp
    with_reducible rfl
  rotate_left
  · simp only [Act.put, List.setIfInBounds_toArray, List.set_cons_zero, List.set_cons_succ, i64_w, i32_w]
    rfl
  refine take_ (i := 3) (N := some 15) (v := ?_) (a' := ?_) #[true, true, true, true, true, true, true, false, false, false, false, false, false, false, false, false] rfl rfl (by kernel_rfl) (fun _ _ _ h => h) (Or.inl ⟨by rfl, ?_⟩) hHeld ?_ ?_
  rotate_left
  · rintro w' ⟨s0, s1⟩
    go_simp
    with_reducible rfl
  rotate_left
  · simp only [Act.put, List.setIfInBounds_toArray, List.set_cons_zero, List.set_cons_succ, i64_w, i32_w]
    rfl
  refine take_ (i := 7) (N := some 19) (v := ?_) (a' := ?_) #[true, true, true, true, true, true, true, true, false, false, false, false, false, false, false, false] rfl rfl (by kernel_rfl) (fun _ _ _ h => h) (Or.inl ⟨by rfl, ?_⟩) hHeld ?_ ?_
  rotate_left
  · rintro w' ⟨s0, s1⟩
    go_simp
    with_reducible rfl
  rotate_left
  · simp only [Act.put, List.setIfInBounds_toArray, List.set_cons_zero, List.set_cons_succ, i64_w, i32_w]
    rfl
  refine one_ (i := 8) (N := some 20) #[true, true, true, true, true, true, true, true, true, false, false, false, false, false, false, false] rfl rfl (by kernel_rfl) (by decide) (fun K hK => ?_)
  refine goes_ Try.func20 (by kernel_rfl) rfl #[.slice A0 nB c0, .int .i64 a] (by rfl) rfl rfl (by simp only [List.map_toArray, List.map_cons, List.map_nil]; rfl) ?_
  with_reducible refine (HGet.out _ (Kd.C_drew HC.out)).mono ?_
  rintro e w3 ⟨rfl, hd3⟩
  refine ⟨_, rfl, ?_⟩
  have HP3 := Aside0.mk ((hd3.below.block p (blk_lt (by exact HP.out))).trans HP.out)
  refine hK.out _ _ ⟨(wh_cells HP3.out).1, (wh_cells HP3.out).2.1⟩ (fun hHeld => ?_)
  clear hK K
  refine norm_ (a' := ?_) ?_ ?_
  rotate_left
  · show Act.put _ (some 20) _ = _
    simp only [Act.put, List.setIfInBounds_toArray, List.set_cons_zero, List.set_cons_succ, i64_w, i32_w]
    rfl
  refine pure_ (i := 9) (N := some 11) (v := ?_) (a' := ?_) #[true, true, true, true, true, true, true, true, true, true, false, false, false, false, false, false] rfl rfl (by kernel_rfl) (fun _ _ _ h => h) (Or.inl ⟨by rfl, ?_⟩) ?_ ?_
  rotate_left
  · intro w'
    go_simp
    with_reducible rfl
  rotate_left
  · simp only [Act.put, List.setIfInBounds_toArray, List.set_cons_zero, List.set_cons_succ, i64_w, i32_w]
    rfl
  refine pure_ (i := 10) (N := some 21) (v := ?_) (a' := ?_) #[true, true, true, true, true, true, true, true, true, true, true, false, false, false, false, false] rfl rfl (by kernel_rfl) (fun _ _ _ h => h) (Or.inl ⟨by rfl, ?_⟩) ?_ ?_
  rotate_left
  · intro w'
    go_simp
    with_reducible rfl
  rotate_left
  · simp only [Act.put, List.setIfInBounds_toArray, List.set_cons_zero, List.set_cons_succ, i64_w, i32_w]
    rfl
  refine pure_ (i := 11) (N := some 22) (v := ?_) (a' := ?_) #[true, true, true, true, true, true, true, true, true, true, true, true, false, false, false, false] rfl rfl (by kernel_rfl) (fun _ _ _ h => h) (Or.inl ⟨by rfl, ?_⟩) ?_ ?_
  rotate_left
  · intro w'
    go_simp
    with_reducible rfl
  rotate_left
  · simp only [Act.put, List.setIfInBounds_toArray, List.set_cons_zero, List.set_cons_succ, i64_w, i32_w]
    rfl
  refine pure_ (i := 12) (N := some 23) (v := ?_) (a' := ?_) #[true, true, true, true, true, true, true, true, true, true, true, true, true, false, false, false] rfl rfl (by kernel_rfl) (fun _ _ _ h => h) (Or.inl ⟨by rfl, ?_⟩) ?_ ?_
  rotate_left
  · intro w'
    go_simp
    with_reducible rfl
  rotate_left
  · simp only [Act.put, List.setIfInBounds_toArray, List.set_cons_zero, List.set_cons_succ, i64_w, i32_w]
    rfl
  refine pure_ (i := 13) (N := some 5) (v := ?_) (a' := ?_) #[true, true, true, true, true, true, true, true, true, true, true, true, true, true, false, false] rfl rfl (by kernel_rfl) (fun _ _ _ h => h) (Or.inl ⟨by rfl, ?_⟩) ?_ ?_
  rotate_left
  · intro w'
    go_simp
    with_reducible rfl
  rotate_left
  · simp only [Act.put, List.setIfInBounds_toArray, List.set_cons_zero, List.set_cons_succ, i64_w, i32_w]
    rfl
  refine pure_ (i := 14) (N := some 6) (v := ?_) (a' := ?_) #[true, true, true, true, true, true, true, true, true, true, true, true, true, true, true, false] rfl rfl (by kernel_rfl) (fun _ _ _ h => h) (Or.inl ⟨by rfl, ?_⟩) ?_ ?_
  rotate_left
  · intro w'
    go_simp
    with_reducible rfl
  rotate_left
  · simp only [Act.put, List.setIfInBounds_toArray, List.set_cons_zero, List.set_cons_succ, i64_w, i32_w]
    rfl
  refine pure_ (i := 15) (N := some 7) (v := ?_) (a' := ?_) #[true, true, true, true, true, true, true, true, true, true, true, true, true, true, true, true] rfl rfl (by kernel_rfl) (fun _ _ _ h => h) (Or.inl ⟨by rfl, ?_⟩) ?_ ?_
  rotate_left
  · intro w'
    go_simp
    with_reducible rfl
  rotate_left
  · simp only [Act.put, List.setIfInBounds_toArray, List.set_cons_zero, List.set_cons_succ, i64_w, i32_w]
    rfl
  refine done_ (by kernel_rfl) ?_
  have HH3 := Aside0.mk ((HH.out.drew (Drawn0.step (Drawn0.refl _) 1)).drew hd3)
  clear hHeld hd3 HP3 HP hq1 hq2 HC HGet HH
  obtain ⟨A, c, ev, _, _⟩ := HH3.out.slice
  subst ev
  have q3 := (wh_cells HH3.out.hP).2.2.1
  have Hr := Aside0.mk (HH3.out.room (by have := HN.out.1; omega) n 0 (if_neg (by have := HN.out.1; omega)))
  go_wp2_with fail
  refine Hr.out.mono ?_
  rintro e w4 ⟨rfl, rfl⟩
  clear q3 Hr c1' c2' c3'
  have f1 := blk_frozen HH3.out.hP 1
  have q1 := (wh_cells HH3.out.hP).2.1
  go_wp2
  go_loopg [53] n (fun g v53 w' => ∃ (i : Nat) (v : Value) (Li : List Int), i ≤ n ∧ g = n - i ∧ v53 = .int .i64 i ∧ Aside0 (Wh w0 p (.slice A0 nB c0) to_ Li r v w') ∧ Aside0 (Li.length = L.length + i) ∧ Aside0 (wh_copy far (n - i) Li = wh_copy far n L))
  case atStart => exact ⟨0, .slice A L.length c, L, Nat.zero_le _, rfl, rfl, ⟨HH3.out.setAt to_⟩, ⟨rfl⟩, ⟨rfl⟩⟩
  case round =>
    obtain ⟨i, v, Li, hi, rfl, rfl, HH, HLi, HW⟩ := hrel
    clear HH3 hHeld f1 q1
    by_cases hlt : i < n
    · have hN := HN.out
      have hL2 := HLi.out
      obtain ⟨g, c1, rfl⟩ := row_base HH.out.hR (by omega)
      obtain ⟨j, hj⟩ : ∃ j : Nat, (j : Int) = (Li.length : Int) - far := ⟨((Li.length : Int) - far).toNat, by omega⟩
      have hjl : j < Li.length := by omega
      have hy := row_cell HH.out.hR j hjl
      have hsub : wrap64 ((Li.length : Int) - far) = (j : Int) := by rw [← hj]; unfold wrap64; omega
      have HY : Aside0 (rd Li (j : Int) = rd Li ((Li.length : Int) - far)) := ⟨by rw [hj]⟩
      have HL1 : Aside0 ((Li.length + 1) * 1 ≤ 140737488355328) := ⟨by omega⟩
      generalize rd Li (j : Int) = y at hy HY
      have e1 : decide ((i : Int) < (n : Int)) = true := decide_eq_true (by omega)
      have e2 : decide (i < n) = true := decide_eq_true hlt
      have e3 : (i < n) = True := eq_true hlt
      have k0 : (0 ≤ (j : Int)) = True := eq_true (by omega)
      have k1 : ((j : Int) < (Li.length : Int)) = True := eq_true (by omega)
      have k2 : (j < Li.length) = True := eq_true hjl
      have hadd : wrap64 ((i : Int) + 1) = ((i + 1 : Nat) : Int) := by unfold wrap64; omega
      have HLT := Aside0.mk hlt
      have HP1 := Aside0.mk HH.out.hP
      have HR1 := Aside0.mk HH.out.hR
      have HB1 := Aside0.mk HH.out.hB
      have Hb0 := Aside0.mk HH.out.hb0
      clear hN hL2 hj hjl hlt HH
      go_wp2_with fail
      refine start_ (n := 23) (S := fun w' => w'.cell? ⟨p, 2, none⟩ = some (.slice (some ⟨g, 0, none⟩) Li.length c1)) (ds := [22]) #[false, false, false, false, false, false, false, false, false, false, false, false, false, false, false, false, false, false, false, false, false, false, false] (by kernel_rfl) rfl rfl ((wh_cells HP1.out).2.2.1) (fun hHeld => ?_)
      refine pure_ (i := 0) (N := some 55) (v := ?_) (a' := ?_) #[true, false, false, false, false, false, false, false, false, false, false, false, false, false, false, false, false, false, false, false, false, false, false] rfl rfl (by kernel_rfl) (fun _ _ _ h => h) (Or.inl ⟨by rfl, ?_⟩) ?_ ?_
      rotate_left
      · intro w'
        go_simp
        with_reducible rfl
      rotate_left
      · simp only [Act.put, List.setIfInBounds_toArray, List.set_cons_zero, List.set_cons_succ, i64_w, i32_w]
        rfl
      refine pure_ (i := 1) (N := some 56) (v := ?_) (a' := ?_) #[true, true, false, false, false, false, false, false, false, false, false, false, false, false, false, false, false, false, false, false, false, false, false] rfl rfl (by kernel_rfl) (fun _ _ _ h => h) (Or.inl ⟨by rfl, ?_⟩) ?_ ?_
      rotate_left
      · intro w'
        go_simp
        with_reducible rfl
      rotate_left
      · simp only [Act.put, List.setIfInBounds_toArray, List.set_cons_zero, List.set_cons_succ, i64_w, i32_w]
        rfl
      refine pure_ (i := 2) (N := some 57) (v := ?_) (a' := ?_) #[true, true, true, false, false, false, false, false, false, false, false, false, false, false, false, false, false, false, false, false, false, false, false] rfl rfl (by kernel_rfl) (fun _ _ _ h => h) (Or.inl ⟨by rfl, ?_⟩) ?_ ?_
      rotate_left
      · intro w'
        go_simp
        with_reducible rfl
      rotate_left
      · simp only [Act.put, List.setIfInBounds_toArray, List.set_cons_zero, List.set_cons_succ, i64_w, i32_w]
        rfl
      refine pure_ (i := 3) (N := some 58) (v := ?_) (a' := ?_) #[true, true, true, true, false, false, false, false, false, false, false, false, false, false, false, false, false, false, false, false, false, false, false] rfl rfl (by kernel_rfl) (fun _ _ _ h => h) (Or.inl ⟨by rfl, ?_⟩) ?_ ?_
      rotate_left
      · intro w'
        go_simp
        with_reducible rfl
      rotate_left
      · simp only [Act.put, List.setIfInBounds_toArray, List.set_cons_zero, List.set_cons_succ, i64_w, i32_w]
        rfl
      refine pure_ (i := 5) (N := some 60) (v := ?_) (a' := ?_) #[true, true, true, true, false, true, false, false, false, false, false, false, false, false, false, false, false, false, false, false, false, false, false] rfl rfl (by kernel_rfl) (fun _ _ _ h => h) (Or.inl ⟨by rfl, ?_⟩) ?_ ?_
      rotate_left
      · intro w'
        go_simp
        with_reducible rfl
      rotate_left
      · simp only [Act.put, List.setIfInBounds_toArray, List.set_cons_zero, List.set_cons_succ, i64_w, i32_w]
        rfl
      refine pure_ (i := 6) (N := some 61) (v := ?_) (a' := ?_) #[true, true, true, true, false, true, true, false, false, false, false, false, false, false, false, false, false, false, false, false, false, false, false] rfl rfl (by kernel_rfl) (fun _ _ _ h => h) (Or.inl ⟨by rfl, ?_⟩) ?_ ?_
      rotate_left
      · intro w'
        go_simp
        with_reducible rfl
      rotate_left
      · simp only [Act.put, List.setIfInBounds_toArray, List.set_cons_zero, List.set_cons_succ, i64_w, i32_w]
        rfl
      refine pure_ (i := 7) (N := some 62) (v := ?_) (a' := ?_) #[true, true, true, true, false, true, true, true, false, false, false, false, false, false, false, false, false, false, false, false, false, false, false] rfl rfl (by kernel_rfl) (fun _ _ _ h => h) (Or.inl ⟨by rfl, ?_⟩) ?_ ?_
      rotate_left
      · intro w'
        go_simp
        with_reducible rfl
      rotate_left
      · simp only [Act.put, List.setIfInBounds_toArray, List.set_cons_zero, List.set_cons_succ, i64_w, i32_w]
        rfl
      refine pure_ (i := 9) (N := some 64) (v := ?_) (a' := ?_) #[true, true, true, true, false, true, true, true, false, true, false, false, false, false, false, false, false, false, false, false, false, false, false] rfl rfl (by kernel_rfl) (fun _ _ _ h => h) (Or.inl ⟨by rfl, ?_⟩) ?_ ?_
      rotate_left
      · intro w'
        go_simp
        with_reducible rfl
      rotate_left
      · simp only [Act.put, List.setIfInBounds_toArray, List.set_cons_zero, List.set_cons_succ, i64_w, i32_w]
        rfl
      refine pure_ (i := 10) (N := some 65) (v := ?_) (a' := ?_) #[true, true, true, true, false, true, true, true, false, true, true, false, false, false, false, false, false, false, false, false, false, false, false] rfl rfl (by kernel_rfl) (fun _ _ _ h => h) (Or.inl ⟨by rfl, ?_⟩) ?_ ?_
      rotate_left
      · intro w'
        go_simp
        with_reducible rfl
      rotate_left
      · simp only [Act.put, List.setIfInBounds_toArray, List.set_cons_zero, List.set_cons_succ, i64_w, i32_w]
        rfl
      refine pure_ (i := 11) (N := some 66) (v := ?_) (a' := ?_) #[true, true, true, true, false, true, true, true, false, true, true, true, false, false, false, false, false, false, false, false, false, false, false] rfl rfl (by kernel_rfl) (fun _ _ _ h => h) (Or.inl ⟨by rfl, ?_⟩) ?_ ?_
      rotate_left
      · intro w'
        go_simp
        with_reducible rfl
      rotate_left
      · simp only [Act.put, List.setIfInBounds_toArray, List.set_cons_zero, List.set_cons_succ, i64_w, i32_w]
        rfl
      refine pure_ (i := 14) (N := some 69) (v := ?_) (a' := ?_) #[true, true, true, true, false, true, true, true, false, true, true, true, false, false, true, false, false, false, false, false, false, false, false] rfl rfl (by kernel_rfl) (fun _ _ _ h => h) (Or.inl ⟨by rfl, ?_⟩) ?_ ?_
      rotate_left
      · intro w'
        go_simp
        with_reducible rfl
      rotate_left
      · simp only [Act.put, List.setIfInBounds_toArray, List.set_cons_zero, List.set_cons_succ, i64_w, i32_w]
        rfl
      refine take_ (i := 4) (N := some 59) (v := ?_) (a' := ?_) #[true, true, true, true, true, true, true, true, false, true, true, true, false, false, true, false, false, false, false, false, false, false, false] rfl rfl (by kernel_rfl) (fun _ _ _ h => h) (Or.inl ⟨by rfl, ?_⟩) hHeld ?_ ?_
      rotate_left
      · intro w' s0
        go_simp
        with_reducible rfl
      rotate_left
      · simp only [Act.put, List.setIfInBounds_toArray, List.set_cons_zero, List.set_cons_succ, i64_w, i32_w]
        rfl
      refine take_ (i := 8) (N := some 63) (v := ?_) (a' := ?_) #[true, true, true, true, true, true, true, true, true, true, true, true, false, false, true, false, false, false, false, false, false, false, false] rfl rfl (by kernel_rfl) (fun _ _ _ h => h) (Or.inl ⟨by rfl, ?_⟩) hHeld ?_ ?_
      rotate_left
      · intro w' s0
        go_simp
        with_reducible rfl
      rotate_left
      · simp only [Act.put, List.setIfInBounds_toArray, List.set_cons_zero, List.set_cons_succ, i64_w, i32_w]
        rfl
      refine take_ (i := 12) (N := some 67) (v := ?_) (a' := ?_) #[true, true, true, true, true, true, true, true, true, true, true, true, true, false, true, false, false, false, false, false, false, false, false] rfl rfl (by kernel_rfl) (fun _ _ _ h => h) (Or.inl ⟨by rfl, ?_⟩) hHeld ?_ ?_
      rotate_left
      · intro w' s0
        go_simp
        with_reducible rfl
      rotate_left
      · simp only [Act.put, List.setIfInBounds_toArray, List.set_cons_zero, List.set_cons_succ, i64_w, i32_w]
        rfl
      refine pure_ (i := 13) (N := some 68) (v := ?_) (a' := ?_) #[true, true, true, true, true, true, true, true, true, true, true, true, true, true, true, false, false, false, false, false, false, false, false] rfl rfl (by kernel_rfl) (fun _ _ _ h => h) (Or.inl ⟨by rfl, ?_⟩) ?_ ?_
      rotate_left
      · intro w'
        go_simp
        with_reducible rfl
      rotate_left
      · simp only [Act.put, List.setIfInBounds_toArray, List.set_cons_zero, List.set_cons_succ, i64_w, i32_w]
        rfl
      refine pure_ (i := 15) (N := some 70) (v := ?_) (a' := ?_) #[true, true, true, true, true, true, true, true, true, true, true, true, true, true, true, true, false, false, false, false, false, false, false] rfl rfl (by kernel_rfl) (fun _ _ _ h => h) (Or.inl ⟨by rfl, ?_⟩) ?_ ?_
      rotate_left
      · intro w'
        go_simp
        with_reducible rfl
      rotate_left
      · simp only [Act.put, List.setIfInBounds_toArray, List.set_cons_zero, List.set_cons_succ, i64_w, i32_w]
        rfl
      refine pure_ (i := 16) (N := some 71) (v := ?_) (a' := ?_) #[true, true, true, true, true, true, true, true, true, true, true, true, true, true, true, true, true, false, false, false, false, false, false] rfl rfl (by kernel_rfl) (fun _ _ _ h => h) (Or.inl ⟨by rfl, ?_⟩) ?_ ?_
      rotate_left
      · intro w'
        go_simp
        with_reducible rfl
      rotate_left
      · simp only [Act.put, List.setIfInBounds_toArray, List.set_cons_zero, List.set_cons_succ, i64_w, i32_w]
        rfl
      refine one_ (i := 17) (N := some 72) #[true, true, true, true, true, true, true, true, true, true, true, true, true, true, true, true, true, true, false, false, false, false, false] rfl rfl (by kernel_rfl) (by decide) (fun K hK => ?_)
      refine value_ (w1 := ?_) (v := ?_) (by rfl) rfl ?_ ?_
      rotate_left 2
      · go_simp
        constructor
        · rfl
        · rfl
      refine hK.out _ _ ((wh_cells HP1.out).2.2.1) (fun hHeld => ?_)
      clear hK K
      refine norm_ (a' := ?_) ?_ ?_
      rotate_left
      · show Act.put _ (some 72) _ = _
        simp only [Act.put, List.setIfInBounds_toArray, List.set_cons_zero, List.set_cons_succ, i64_w, i32_w]
        rfl
      refine one_ (i := 18) (N := some 73) #[true, true, true, true, true, true, true, true, true, true, true, true, true, true, true, true, true, true, true, false, false, false, false] rfl rfl (by kernel_rfl) (by decide) (fun K hK => ?_)
      refine value_ (w1 := ?_) (v := ?_) (by rfl) rfl ?_ ?_
      rotate_left 2
      · go_simp
        constructor
        · rfl
        · rfl
      have HPa : Aside0 ((wr.drew.alloc (.cells #[.int .u8 y] 5)).heap[p]? = some (.cells #[.slice A0 nB c0, .int .i64 to_, .slice (some ⟨g, 0, none⟩) Li.length c1, .bool r] 61 (0, 0))) := ⟨blk_alloc_ HP1.out _⟩
      refine hK.out _ _ ((wh_cells HPa.out).2.2.1) (fun hHeld => ?_)
      clear hK K
      refine norm_ (a' := ?_) ?_ ?_
      rotate_left
      · show Act.put _ (some 73) _ = _
        simp only [Act.put, List.setIfInBounds_toArray, List.set_cons_zero, List.set_cons_succ, i64_w, i32_w]
        rfl
      refine one_ (i := 19) (N := some 74) #[true, true, true, true, true, true, true, true, true, true, true, true, true, true, true, true, true, true, true, true, false, false, false] rfl rfl (by kernel_rfl) (by decide) (fun K hK => ?_)
      refine Kd.R_append_step (Kd.int .u8) (w0 := w0) (W := wr.drew) w0.heap.size (by rfl) (.tmp 59) (.tmp 73) 23 5 (.int .u8 0) 1 rfl Try.underlying23 info5 rfl (by decide) (by omega) (.slice (some ⟨g, 0, none⟩) Li.length c1) Li y [.int .u8 y] (fun k => k ≠ p) (fun _ => False) rfl rfl rfl (fun _ h => h.elim) (fun k hk => Ne.symm (Nat.ne_of_lt (Nat.lt_of_lt_of_le (blk_lt HP1.out) hk))) (Kd.R_drew HR1.out) (below_drew HB1.out) (HB1.out.size) HL1.out ?_
      intro v5 w5 ho hb5 hg hat
      clear hat
      obtain ⟨A5, c5, rfl⟩ := Kd.R_slice ho
      generalize hm5 : (Li ++ [y]).length = m5 at ho ⊢
      have HP5 := Aside0.mk ((hg.block p (blk_lt HP1.out) (by exact fun h => (HR1.out.1 p h.symm) rfl)).trans HP1.out)
      have qf5 := blk_frozen HP5.out 2
      refine hK.out _ _ ((wh_cells HP5.out).2.2.1) (fun hHeld => ?_)
      clear hK K
      refine norm_ (a' := ?_) ?_ ?_
      rotate_left
      · show Act.put _ (some 74) _ = _
        simp only [Act.put, List.setIfInBounds_toArray, List.set_cons_zero, List.set_cons_succ, i64_w, i32_w]
        rfl
      refine pure_ (i := 20) (N := some 75) (v := ?_) (a' := ?_) #[true, true, true, true, true, true, true, true, true, true, true, true, true, true, true, true, true, true, true, true, true, false, false] rfl rfl (by kernel_rfl) (fun _ _ _ h => h) (Or.inl ⟨by rfl, ?_⟩) ?_ ?_
      rotate_left
      · intro w'
        go_simp
        with_reducible rfl
      rotate_left
      · simp only [Act.put, List.setIfInBounds_toArray, List.set_cons_zero, List.set_cons_succ, i64_w, i32_w]
        rfl
      refine pure_ (i := 21) (N := some 76) (v := ?_) (a' := ?_) #[true, true, true, true, true, true, true, true, true, true, true, true, true, true, true, true, true, true, true, true, true, true, false] rfl rfl (by kernel_rfl) (fun _ _ _ h => h) (Or.inl ⟨by rfl, ?_⟩) ?_ ?_
      rotate_left
      · intro w'
        go_simp
        with_reducible rfl
      rotate_left
      · simp only [Act.put, List.setIfInBounds_toArray, List.set_cons_zero, List.set_cons_succ, i64_w, i32_w]
        rfl
      refine last_ (i := 22) (N := none) #[true, true, true, true, true, true, true, true, true, true, true, true, true, true, true, true, true, true, true, true, true, true, true] rfl rfl (by kernel_rfl) (by decide) (fun K hK => ?_)
      refine skip_ (w1 := ?_) (by rfl) rfl ?_ ?_
      rotate_left
      · go_simp
        rfl
      refine hK.out _ _ ?_
      clear hK K
      refine done_ (by kernel_rfl) ?_
      have HP6 : Aside0 ((w5.setCell ⟨p, 2, none⟩ (.slice A5 m5 c5)).heap[p]? = some (.cells #[.slice A0 nB c0, .int .i64 to_, .slice A5 m5 c5, .bool r] 61 (0, 0))) := ⟨blk_set HP5.out 2 (.slice A5 m5 c5)⟩
      have HR6 := Aside0.mk (Kd.R_far ho (p := ⟨p, 2, none⟩) (fun k hk => hk) (.slice A5 m5 c5))
      have HB6 := Aside0.mk (Below.setCell hb5 (p := ⟨p, 2, none⟩) Hb0.out (.slice A5 m5 c5))
      have HM5 := Aside0.mk hm5
      clear ho hb5 hg qf5 HP5 HP1 HR1 HB1 hHeld hy hm5
      generalize w5.setCell ⟨p, 2, none⟩ (.slice A5 m5 c5) = w6 at HP6 HR6 HB6 ⊢
      go_wp2
      go_roundg (n - (i + 1))
      case measure => have := HLT.out; omega
      case rel =>
        have hlt := HLT.out
        refine ⟨i + 1, .slice A5 m5 c5, Li ++ [y], hlt, rfl, congrArg (Value.int .i64) hadd, ⟨⟨Hb0.out, HB6.out, HP6.out, HR6.out⟩⟩, ⟨?_⟩, ⟨?_⟩⟩
        · rw [List.length_append, HLi.out]; rfl
        · rw [← HW.out, show n - i = (n - (i + 1)) + 1 by omega, wh_copy, ← HY.out]
    · obtain rfl : i = n := by omega
      have e1 : decide ((i : Int) < (i : Int)) = false := decide_eq_false (by omega)
      go_wp2
      go_ret
      refine ⟨rfl, v, ?_⟩
      have hW := HW.out
      rw [Nat.sub_self] at hW
      exact hW ▸ HH.out
def sq_told (run : Bool) (n a : Int) (nB m : Nat) : Int := if n = 0 then (5 : Int) else if run = true then 5 else if n > 65536 - (m : Int) then 7 else if n > (nB : Int) - a then 4 else 0
def sq_match (far e0 n : Int) (m : Nat) : Int := if e0 ≠ 0 then e0 else if far = 0 then 5 else if far > 4096 then 5 else if far > (m : Int) then 5 else if n > 65536 - (m : Int) then 7 else 0
def sq_l (k : Nat) (B : List Int) : Nat → Int → List Int → Bool → Option (List Int × Int)
  | 0, _, _, _ => none
  | q + 1, a, T, run => if a < (B.length : Int) then ((num_Get.f k B a).bind fun g => if g.2.2 = 0 then
      (if 0 ≤ g.2.1 ∧ g.2.1 ≤ (B.length : Int) ∧ 0 ≤ wrap64 (Int.tdiv g.1 2) ∧ wrap64 (Int.tdiv g.1 2) ≤ 4611686018427387903 then
        (if Go.bits .and .i64 g.1 1 = 0 then
          (if sq_told run (wrap64 (Int.tdiv g.1 2)) g.2.1 B.length T.length = 0 then sq_l k B q (g.2.1 + wrap64 (Int.tdiv g.1 2)) (T ++ (B.take (g.2.1 + wrap64 (Int.tdiv g.1 2)).toNat).drop g.2.1.toNat) true else some ([], sq_told run (wrap64 (Int.tdiv g.1 2)) g.2.1 B.length T.length))
        else if wrap64 (Int.tdiv g.1 2) + 4 > 130 then some ([], 5) else (num_Get.f k B g.2.1).bind fun h => (if 0 ≤ h.1 ∧ 0 ≤ h.2.1 then
          (if sq_match h.1 h.2.2 (wrap64 (Int.tdiv g.1 2) + 4) T.length = 0 then sq_l k B q h.2.1 (wh_copy h.1 (wrap64 (Int.tdiv g.1 2) + 4).toNat T) false else some ([], sq_match h.1 h.2.2 (wrap64 (Int.tdiv g.1 2) + 4) T.length)) else none))
       else none) else some ([], g.2.2)) else some (T, 0)
def squash_unpacked.f (l0 : List Int) : Option (List Int × Int) := if l0.length ≤ 140737488355328 then sq_l 40 l0 (l0.length + 1) 0 [] false else none
theorem sq_told_zero {run : Bool} {n a : Int} {nB m : Nat} (h : sq_told run n a nB m = 0) : n ≠ 0 ∧ run = false ∧ n ≤ 65536 - (m : Int) ∧ n ≤ (nB : Int) - a := by
  unfold sq_told at h
  by_cases h1 : n = 0
  · rw [if_pos h1] at h; cases h
  rw [if_neg h1] at h
  by_cases h2 : run = true
  · rw [if_pos h2] at h; cases h
  rw [if_neg h2] at h
  by_cases h3 : n > 65536 - (m : Int)
  · rw [if_pos h3] at h; cases h
  rw [if_neg h3] at h
  by_cases h4 : n > (nB : Int) - a
  · rw [if_pos h4] at h; cases h
  exact ⟨h1, Bool.eq_false_iff.mpr h2, by omega, by omega⟩
theorem sq_match_zero {far e0 n : Int} {m : Nat} (h : sq_match far e0 n m = 0) : e0 = 0 ∧ far ≠ 0 ∧ far ≤ 4096 ∧ far ≤ (m : Int) ∧ n ≤ 65536 - (m : Int) := by
  unfold sq_match at h
  by_cases h0 : e0 = 0
  rotate_left
  · rw [if_pos h0] at h; exact absurd h h0
  rw [if_neg (by simpa using h0)] at h
  by_cases h1 : far = 0
  · rw [if_pos h1] at h; cases h
  rw [if_neg h1] at h
  by_cases h2 : far > 4096
  · rw [if_pos h2] at h; cases h
  rw [if_neg h2] at h
  by_cases h3 : far > (m : Int)
  · rw [if_pos h3] at h; cases h
  rw [if_neg h3] at h
  by_cases h4 : n > 65536 - (m : Int)
  · rw [if_pos h4] at h; cases h
  exact ⟨h0, h1, by omega, by omega, by omega⟩
theorem wh_copy_len (far : Int) : ∀ (n : Nat) (T : List Int), (wh_copy far n T).length = T.length + n
  | 0, T => rfl
  | n + 1, T => by rw [wh_copy, wh_copy_len far n, List.length_append]; simp only [List.length_cons, List.length_nil]; omega
theorem Wh.new (w : World) (u : Value) : Wh w w.heap.size u 0 [] false (.slice none 0 0) (w.alloc (.cells #[u, .int .i64 0, .slice none 0 0, .bool false] 61)) :=
  ⟨Nat.le_refl _, below_alloc (Below.refl _ w) _, by simpa using heap_alloc_new w _, Kd.R_nil _ _ _ _ _⟩
set_option maxHeartbeats 8000000 in
theorem squash_unpacked.calls (A0 : Option Addr) (c0 : Nat) (l0 : List Int) (r1 : List Int) (r2 : Int) (w : World) (hr0 : Kd.C (Kd.int .u8) w A0 l0.length l0) (hc0 : l0.length ≤ c0) (h : squash_unpacked.f l0 = some (r1, r2)) :
    Calls Try.prog 26 #[.slice A0 l0.length c0] w fun e w' => ∃ v0_ : Value, e = .returned (.tuple #[v0_, .int .i64 r2]) ∧ Kd.R (Kd.int .u8) 5 w' w.heap.size (fun _ => True) v0_ r1 ∧ Below w.heap.size w w' := by
  unfold squash_unpacked.f at h
  by_cases hnB : l0.length ≤ 140737488355328
  rotate_left
  · rw [if_neg hnB] at h; cases h
  rw [if_pos hnB] at h
  have HC := Aside0.mk hr0
  have HC0 := Aside0.mk hc0
  have HNB := Aside0.mk hnB
  have HF := Aside0.mk h
  obtain ⟨nB, hnb⟩ : ∃ nB, l0.length = nB := ⟨_, rfl⟩
  have HLB := Aside0.mk hnb
  have H0 := Aside0.mk (Wh.new w (.slice A0 nB c0))
  rw [hnb]
  clear hr0 hc0 h hnB hnb
  go_enter Try.func26, Try.ntmps26
  go_wp2
  go_loopg [5] (l0.length + 1) (fun g v5 w' => ∃ (a : Int) (T : List Int) (run : Bool) (v : Value), 0 ≤ a ∧ Aside0 (T.length ≤ 65536) ∧ Aside0 (sq_l 40 l0 g a T run = some (r1, r2)) ∧ Aside0 (Wh w w.heap.size (.slice A0 nB c0) a T run v w'))
  case atStart => exact ⟨0, [], false, .slice none 0 0, Int.le_refl _, ⟨Nat.zero_le _⟩, HF, H0⟩
  case round =>
    clear HF H0
    obtain ⟨a, T, run, v, ha, HT, HF, HH⟩ := hrel
    cases gk with
    | zero => exact absurd HF.out (by simp [sq_l])
    | succ q =>
      have H := HF.out
      clear HF
      simp only [sq_l] at H
      have q1 := (wh_cells HH.out.hP).2.1
      by_cases ca : a < (l0.length : Int)
      · rw [if_pos ca] at H
        have ca' : decide (a < (nB : Int)) = true := decide_eq_true (by have := HLB.out; omega)
        obtain ⟨⟨x, y, e0⟩, hg, H⟩ := Option.bind_eq_some_iff.mp H
        have HG := Aside0.mk hg
        clear ca hg
        dsimp only at H
        go_wp2_with fail
        refine (get_at 40 A0 nB c0 l0 a x y e0 HLB.out (by have := HLB.out; have := HC0.out; omega) HG.out _ (by have := HLB.out; subst this; exact Kd.C_below HC.out HH.out.hB)).mono ?_
        rintro e w2 ⟨rfl, hd2⟩
        replace HH := Aside0.mk (HH.out.drew hd2)
        clear q1 hd2
        by_cases ce : e0 = 0
        · subst ce
          rw [if_pos rfl] at H
          have ce' : ((0 : Int) != 0) = false := rfl
          by_cases cr : 0 ≤ y ∧ y ≤ (l0.length : Int) ∧ 0 ≤ wrap64 (Int.tdiv x 2) ∧ wrap64 (Int.tdiv x 2) ≤ 4611686018427387903
          rotate_left
          · rw [if_neg cr] at H
            cases H
          rw [if_pos cr] at H
          have q1 := (wh_cells HH.out.hP).2.1
          have f1 := blk_frozen HH.out.hP 1
          have HS := Aside0.mk (HH.out.setAt y)
          clear HH
          obtain ⟨n, hn⟩ : ∃ n, wrap64 (Int.tdiv x 2) = n := ⟨_, rfl⟩
          rw [hn, HLB.out] at H
          rw [hn, HLB.out] at cr
          have CR := Aside0.mk cr
          clear cr
          have HCw := Aside0.mk (HLB.out ▸ HC.out : Kd.C (Kd.int .u8) w A0 nB l0)
          have HC0' : Aside0 (nB ≤ c0) := ⟨by have := HLB.out; have := HC0.out; omega⟩
          have HNB' : Aside0 (nB ≤ 140737488355328) := ⟨by have := HLB.out; have := HNB.out; omega⟩
          by_cases cb : Go.bits .and .i64 x 1 = 0
          · rw [if_pos cb] at H
            have cb' : (Go.bits .and .i64 x 1 == 0) = true := beq_iff_eq.mpr cb
            clear cb
            by_cases hz : sq_told run n y nB T.length = 0
            · rw [if_pos hz] at H
              have HX := Aside0.mk H
              obtain ⟨z1, rfl, z3, z4⟩ := sq_told_zero hz
              have hcr := CR.out
              have HT3 := Aside0.mk (wh_told.got w w.heap.size A0 nB c0 l0 T n y v _ HS.out HLB.out HCw.out HC0'.out (by omega) z3 HT.out hcr.1 (by omega) HNB'.out)
              have HLen : Aside0 ((T ++ (l0.take (y + n).toNat).drop y.toNat).length ≤ 65536 ∧ 0 ≤ y + n) := ⟨by have := HLB.out; rw [List.length_append, List.length_drop, List.length_take]; omega⟩
              clear H hz z1 z3 z4 hcr
              go_wp2_with fail
              refine HT3.out.mono ?_
              rintro e w3 ⟨rfl, v3, h3⟩
              have HH3 := Aside0.mk h3
              have q4 := (wh_cells HH3.out.hP).2.2.2
              have f4 := blk_frozen HH3.out.hP 3
              clear HT3 h3 q1 f1
              go_wp2
              go_roundg q
              case measure => omega
              case rel => exact ⟨y + n, _, true, v3, HLen.out.2, ⟨HLen.out.1⟩, HX, ⟨HH3.out.setRun true⟩⟩
            · rw [if_neg hz] at H
              simp only [Option.some.injEq, Prod.mk.injEq] at H
              obtain ⟨rfl, rfl⟩ := H
              have hcr := CR.out
              have hz' : (sq_told run n y nB T.length != 0) = true := bne_iff_ne.mpr hz
              have HT3 := Aside0.mk (wh_told.wrong w w.heap.size A0 nB c0 T run n y _ v _ HS.out hcr.2.2.1 HT.out hcr.1 hcr.2.1 HNB'.out rfl hz)
              have HT4 : Aside0 (Calls Try.prog 35 #[.pointer (some ⟨w.heap.size, 0, none⟩), .int .i64 n] _ fun e w' => e = .returned (.int .i64 (sq_told run n y nB T.length)) ∧ Below w.heap.size w w') := HT3
              generalize hx3 : sq_told run n y nB T.length = x3 at hz' HT4
              have HX3 := Aside0.mk hx3
              clear hx3 hz hcr HT3
              go_wp2_with fail
              refine HT4.out.mono ?_
              rintro e w3 ⟨rfl, h3⟩
              have HB3 := Aside0.mk h3
              clear HT4 h3 q1 f1
              go_wp2
              go_ret2
              exact ⟨.slice none 0 0, by rw [HX3.out]; rfl, Kd.R_nil _ _ _ _ _, HB3.out⟩
          · rw [if_neg cb] at H
            have cb' : (Go.bits .and .i64 x 1 == 0) = false := beq_eq_false_iff_ne.mpr cb
            clear cb
            obtain ⟨n4, hn4⟩ : ∃ n4 : Nat, wrap64 (n + 4) = (n4 : Int) := ⟨(n + 4).toNat, by have := CR.out; unfold wrap64; omega⟩
            have hn5 : (n4 : Int) = n + 4 := by have := CR.out; rw [← hn4]; unfold wrap64; omega
            rw [← hn5] at H
            have HN4 := Aside0.mk hn5
            clear hn5
            by_cases c130 : (n4 : Int) > 130
            · rw [if_pos c130] at H
              simp only [Option.some.injEq, Prod.mk.injEq] at H
              obtain ⟨rfl, rfl⟩ := H
              have HT4 := Aside0.mk (wh_match.far w w.heap.size (.slice A0 nB c0) T run n4 y v _ HS.out c130)
              have h5 : ((5 : Int) != 0) = true := rfl
              clear c130
              go_wp2_with fail
              refine HT4.out.mono ?_
              rintro e w3 ⟨rfl, h3⟩
              have HB3 := Aside0.mk h3
              clear HT4 h3 q1 f1
              go_wp2
              go_ret2
              exact ⟨_, rfl, Kd.R_nil _ _ _ _ _, HB3.out⟩
            rw [if_neg c130] at H
            obtain ⟨⟨far, to_, e1⟩, hg2, H⟩ := Option.bind_eq_some_iff.mp H
            dsimp only at H
            by_cases cf : 0 ≤ far ∧ 0 ≤ to_
            rotate_left
            · rw [if_neg cf] at H
              cases H
            rw [if_pos cf] at H
            by_cases hz : sq_match far e1 (n4 : Int) T.length = 0
            · rw [if_pos hz, Int.toNat_natCast] at H
              have HX := Aside0.mk H
              obtain ⟨rfl, z2, z3, z4, z5⟩ := sq_match_zero hz
              have HT3 := Aside0.mk (wh_match.got 40 w w.heap.size A0 nB c0 l0 T run n4 y far to_ v _ HS.out HLB.out HCw.out HC0'.out (by omega) (by omega) hg2 (by omega) z3 z4)
              have HLen : Aside0 ((wh_copy far n4 T).length ≤ 65536 ∧ 0 ≤ to_) := ⟨by rw [wh_copy_len]; omega⟩
              clear H hz z2 z3 z4 z5 c130 cf hg2
              go_wp2_with fail
              refine HT3.out.mono ?_
              rintro e w3 ⟨rfl, v3, h3⟩
              have HH3 := Aside0.mk h3
              have q4 := (wh_cells HH3.out.hP).2.2.2
              have f4 := blk_frozen HH3.out.hP 3
              clear HT3 h3 q1 f1
              go_wp2
              go_roundg q
              case measure => omega
              case rel => exact ⟨to_, _, false, v3, HLen.out.2, ⟨HLen.out.1⟩, HX, ⟨HH3.out.setRun false⟩⟩
            · rw [if_neg hz] at H
              simp only [Option.some.injEq, Prod.mk.injEq] at H
              obtain ⟨rfl, rfl⟩ := H
              have hz' : (sq_match far e1 (n4 : Int) T.length != 0) = true := bne_iff_ne.mpr hz
              have HT3 := Aside0.mk (wh_match.wrong 40 w w.heap.size A0 nB c0 l0 T run n4 y _ far to_ e1 v _ HS.out HLB.out HCw.out HC0'.out (by omega) HT.out hg2 rfl hz)
              have HT4 : Aside0 (Calls Try.prog 36 #[.pointer (some ⟨w.heap.size, 0, none⟩), .int .i64 (n4 : Int)] _ fun e w' => e = .returned (.int .i64 (sq_match far e1 (n4 : Int) T.length)) ∧ Below w.heap.size w w') := HT3
              generalize hx3 : sq_match far e1 (n4 : Int) T.length = x3 at hz' HT4
              have HX3 := Aside0.mk hx3
              clear hx3 hz HT3 c130 cf hg2
              go_wp2_with fail
              refine HT4.out.mono ?_
              rintro e w3 ⟨rfl, h3⟩
              have HB3 := Aside0.mk h3
              clear HT4 h3 q1 f1
              go_wp2
              go_ret2
              exact ⟨.slice none 0 0, by rw [HX3.out]; rfl, Kd.R_nil _ _ _ _ _, HB3.out⟩
        · rw [if_neg ce] at H
          have ce' : (e0 != 0) = true := bne_iff_ne.mpr ce
          clear ce
          simp only [Option.some.injEq, Prod.mk.injEq] at H
          obtain ⟨rfl, rfl⟩ := H
          go_wp2
          go_ret2
          exact ⟨_, rfl, Kd.R_nil _ _ _ _ _, HH.out.hB⟩
      · rw [if_neg ca] at H
        have ca' : decide (a < (nB : Int)) = false := decide_eq_false (by have := HLB.out; omega)
        simp only [Option.some.injEq, Prod.mk.injEq] at H
        obtain ⟨rfl, rfl⟩ := H
        have q3 := (wh_cells HH.out.hP).2.2.1
        clear ca
        go_wp2
        go_ret2
        exact ⟨v, rfl, Kd.R_mono HH.out.hR (fun _ _ => trivial), HH.out.hB⟩


end Go.Proofs.Ytaneollgpllbiaa.P
