-- Written by a program of the session (wip/tool/mk.py) out of the translation; Lean checks it.
import Derived.Test.YtnbekpmkjpjneaaPx0
import Derived.Test.YtnbekpmkjpjneaaPx1
namespace Go.Proofs.Ytnbekpmkjpjneaa.P
open Go.RowKit Go.Proofs.YtnbekpmkjpjneaaW.PrintWords Go.Proofs.YtnbekpmkjpjneaaW.PrintLast Go.Proofs.YtnbekpmkjpjneaaW.PrintMore
attribute [local go_sem] max2_int min2_int max_two min_two max_three min_three max_four min_four   -- for this text's walks alone
set_option linter.unusedVariables false
set_option linter.unusedSimpArgs false

/-! ### roll_New: function 21, a contract of my own -/
theorem win_Full.nil (w : World) : Calls Try.prog 25 #[.pointer none] w fun e w' => e = .returned (.bool false) ∧ Drawn0 w w' := by
  go_enter Try.func25, Try.ntmps25
  go_wp2
  go_region
  go_wp2

  go_ret
  exact ⟨rfl, by repeat (first | exact Drawn0.refl _ | apply Drawn0.step)⟩
theorem win_Sum.nil (w : World) : Calls Try.prog 29 #[.pointer none] w fun e w' => e = .returned (.int .u32 0) ∧ w' = w := by
  go_enter Try.func29, Try.ntmps29
  go_wp2
  go_ret
  exact ⟨rfl, rfl⟩
theorem win_Len.nil (w : World) : Calls Try.prog 30 #[.pointer none] w fun e w' => e = .returned (.int .i64 0) ∧ w' = w := by
  go_enter Try.func30, Try.ntmps30
  go_wp2
  go_ret
  exact ⟨rfl, rfl⟩
theorem win_Bytes.nil (w : World) : Calls Try.prog 24 #[.pointer none] w fun e w' => e = .returned (.slice none 0 0) ∧ w' = w := by
  go_enter Try.func24, Try.ntmps24
  go_wp2
  go_ret
  exact ⟨rfl, rfl⟩
theorem win_Push.nil (c : Int) (w : World) : Calls Try.prog 22 #[.pointer none, .int .u8 c] w fun e w' => e = .returned (.int .u32 0) ∧ w' = w := by
  go_enter Try.func22, Try.ntmps22
  go_wp2
  go_ret
  exact ⟨rfl, rfl⟩
theorem win_Clear.nil (w : World) : Calls Try.prog 27 #[.pointer none] w fun e w' => e = .returned (.tuple #[]) ∧ w' = w := by
  go_enter Try.func27, Try.ntmps27
  go_wp2
  refine bodyPost_end (results_none rfl _ _ _) rfl ?_
  exact ⟨rfl, rfl⟩
theorem roll_New.bad (n : Int) (w : World) (h : (decide (n < 1) || decide (n > 65536)) = true) : Calls Try.prog 21 #[.int .i64 n] w fun e w' => e = .returned (.tuple #[.pointer none, .int .i64 2]) ∧ w' = w := by
  have h' : n < 1 ∨ 65536 < n := by simpa using h
  by_cases h1 : n < 1
  · have e1 : decide (n < 1) = true := decide_eq_true h1
    go_enter Try.func21, Try.ntmps21
    go_wp2
    go_ret2
    exact ⟨rfl, rfl⟩
  · have e1 : decide (n < 1) = false := decide_eq_false h1
    have e2 : decide (65536 < n) = true := decide_eq_true (by omega)
    go_enter Try.func21, Try.ntmps21
    go_wp2
    go_ret2
    exact ⟨rfl, rfl⟩
theorem roll_New.ok (n : Int) (w : World) (h1 : 1 ≤ n) (h2 : n ≤ 65536) : Calls Try.prog 21 #[.int .i64 n] w fun e w' => e = .returned (.tuple #[.pointer (some ⟨w.heap.size, 0, none⟩), .int .i64 0]) ∧ Below w.heap.size w w' := by
  have e1 : decide (n < 1) = false := decide_eq_false (by omega)
  have e2 : decide (65536 < n) = false := decide_eq_false (by omega)
  go_enter Try.func21, Try.ntmps21
  go_wp2
  go_ret2
  exact ⟨rfl, below_alloc (Below.refl _ w) _⟩
theorem win_Full.at_ (p : Nat) (n : Int) (A : Option Addr) (m c : Nat) (w : World) (h0 : w.cell? ⟨p, 0, none⟩ = some (.int .i64 n)) (h1 : w.cell? ⟨p, 1, none⟩ = some (.slice A m c)) :
    Calls Try.prog 25 #[.pointer (some ⟨p, 0, none⟩)] w fun e w' => e = .returned (.bool ((m : Int) == n)) ∧ Drawn0 w w' := by
  go_enter Try.func25, Try.ntmps25
  go_wp2
  refine start_ (n := 15) (S := fun w' => w'.cell? ⟨p, 0, none⟩ = some (.int .i64 n) ∧ w'.cell? ⟨p, 1, none⟩ = some (.slice A m c)) (ds := []) #[false, false, false, false, false, false, false, false, false, false, false, false, false, false, false] (by kernel_rfl) rfl rfl ⟨h0, h1⟩ (fun hHeld => ?_)
  refine pure_ (i := 0) (N := some 3) (v := ?_) (a' := ?_) #[true, false, false, false, false, false, false, false, false, false, false, false, false, false, false] rfl rfl (by kernel_rfl) (fun _ _ _ h => h) (Or.inl ⟨by rfl, ?_⟩) ?_ ?_
  rotate_left
  · intro w'
    go_simp
    with_reducible rfl
  rotate_left
  · simp only [Act.put, List.setIfInBounds_toArray, List.set_cons_zero, List.set_cons_succ, i64_w, i32_w]
    rfl
  refine pure_ (i := 1) (N := some 4) (v := ?_) (a' := ?_) #[true, true, false, false, false, false, false, false, false, false, false, false, false, false, false] rfl rfl (by kernel_rfl) (fun _ _ _ h => h) (Or.inl ⟨by rfl, ?_⟩) ?_ ?_
  rotate_left
  · intro w'
    go_simp
    with_reducible rfl
  rotate_left
  · simp only [Act.put, List.setIfInBounds_toArray, List.set_cons_zero, List.set_cons_succ, i64_w, i32_w]
    rfl
  refine pure_ (i := 2) (N := some 5) (v := ?_) (a' := ?_) #[true, true, true, false, false, false, false, false, false, false, false, false, false, false, false] rfl rfl (by kernel_rfl) (fun _ _ _ h => h) (Or.inl ⟨by rfl, ?_⟩) ?_ ?_
  rotate_left
  · intro w'
    go_simp
    with_reducible rfl
  rotate_left
  · simp only [Act.put, List.setIfInBounds_toArray, List.set_cons_zero, List.set_cons_succ, i64_w, i32_w]
    rfl
  refine pure_ (i := 3) (N := some 6) (v := ?_) (a' := ?_) #[true, true, true, true, false, false, false, false, false, false, false, false, false, false, false] rfl rfl (by kernel_rfl) (fun _ _ _ h => h) (Or.inl ⟨by rfl, ?_⟩) ?_ ?_
  rotate_left
  · intro w'
    go_simp
    with_reducible rfl
  rotate_left
  · simp only [Act.put, List.setIfInBounds_toArray, List.set_cons_zero, List.set_cons_succ, i64_w, i32_w]
    rfl
  refine pure_ (i := 4) (N := some 7) (v := ?_) (a' := ?_) #[true, true, true, true, true, false, false, false, false, false, false, false, false, false, false] rfl rfl (by kernel_rfl) (fun _ _ _ h => h) (Or.inl ⟨by rfl, ?_⟩) ?_ ?_
  rotate_left
  · intro w'
    go_simp
    with_reducible rfl
  rotate_left
  · simp only [Act.put, List.setIfInBounds_toArray, List.set_cons_zero, List.set_cons_succ, i64_w, i32_w]
    rfl
  refine pure_ (i := 5) (N := some 8) (v := ?_) (a' := ?_) #[true, true, true, true, true, true, false, false, false, false, false, false, false, false, false] rfl rfl (by kernel_rfl) (fun _ _ _ h => h) (Or.inl ⟨by rfl, ?_⟩) ?_ ?_
  rotate_left
  · intro w'
    go_simp
    with_reducible rfl
  rotate_left
  · simp only [Act.put, List.setIfInBounds_toArray, List.set_cons_zero, List.set_cons_succ, i64_w, i32_w]
    rfl
  refine pure_ (i := 8) (N := some 11) (v := ?_) (a' := ?_) #[true, true, true, true, true, true, false, false, true, false, false, false, false, false, false] rfl rfl (by kernel_rfl) (fun _ _ _ h => h) (Or.inl ⟨by rfl, ?_⟩) ?_ ?_
  rotate_left
  · intro w'
    go_simp
    with_reducible rfl
  rotate_left
  · simp only [Act.put, List.setIfInBounds_toArray, List.set_cons_zero, List.set_cons_succ, i64_w, i32_w]
    rfl
  refine pure_ (i := 9) (N := some 12) (v := ?_) (a' := ?_) #[true, true, true, true, true, true, false, false, true, true, false, false, false, false, false] rfl rfl (by kernel_rfl) (fun _ _ _ h => h) (Or.inl ⟨by rfl, ?_⟩) ?_ ?_
  rotate_left
  · intro w'
    go_simp
    with_reducible rfl
  rotate_left
  · simp only [Act.put, List.setIfInBounds_toArray, List.set_cons_zero, List.set_cons_succ, i64_w, i32_w]
    rfl
  refine pure_ (i := 10) (N := some 13) (v := ?_) (a' := ?_) #[true, true, true, true, true, true, false, false, true, true, true, false, false, false, false] rfl rfl (by kernel_rfl) (fun _ _ _ h => h) (Or.inl ⟨by rfl, ?_⟩) ?_ ?_
  rotate_left
  · intro w'
    go_simp
    with_reducible rfl
  rotate_left
  · simp only [Act.put, List.setIfInBounds_toArray, List.set_cons_zero, List.set_cons_succ, i64_w, i32_w]
    rfl
  refine take_ (i := 6) (N := some 9) (v := ?_) (a' := ?_) #[true, true, true, true, true, true, true, false, true, true, true, false, false, false, false] rfl rfl (by kernel_rfl) (fun _ _ _ h => h) (Or.inl ⟨by rfl, ?_⟩) hHeld ?_ ?_
  rotate_left
  · rintro w' ⟨s0, s1⟩
    go_simp
    with_reducible rfl
  rotate_left
  · simp only [Act.put, List.setIfInBounds_toArray, List.set_cons_zero, List.set_cons_succ, i64_w, i32_w]
    rfl
  refine pure_ (i := 7) (N := some 10) (v := ?_) (a' := ?_) #[true, true, true, true, true, true, true, true, true, true, true, false, false, false, false] rfl rfl (by kernel_rfl) (fun _ _ _ h => h) (Or.inl ⟨by rfl, ?_⟩) ?_ ?_
  rotate_left
  · intro w'
    go_simp
    with_reducible rfl
  rotate_left
  · simp only [Act.put, List.setIfInBounds_toArray, List.set_cons_zero, List.set_cons_succ, i64_w, i32_w]
    rfl
  refine take_ (i := 11) (N := some 14) (v := ?_) (a' := ?_) #[true, true, true, true, true, true, true, true, true, true, true, true, false, false, false] rfl rfl (by kernel_rfl) (fun _ _ _ h => h) (Or.inl ⟨by rfl, ?_⟩) hHeld ?_ ?_
  rotate_left
  · rintro w' ⟨s0, s1⟩
    go_simp
    with_reducible rfl
  rotate_left
  · simp only [Act.put, List.setIfInBounds_toArray, List.set_cons_zero, List.set_cons_succ, i64_w, i32_w]
    rfl
  refine pure_ (i := 12) (N := some 15) (v := ?_) (a' := ?_) #[true, true, true, true, true, true, true, true, true, true, true, true, true, false, false] rfl rfl (by kernel_rfl) (fun _ _ _ h => h) (Or.inl ⟨by rfl, ?_⟩) ?_ ?_
  rotate_left
  · intro w'
    go_simp
    with_reducible rfl
  rotate_left
  · simp only [Act.put, List.setIfInBounds_toArray, List.set_cons_zero, List.set_cons_succ, i64_w, i32_w]
    rfl
  refine pure_ (i := 13) (N := some 16) (v := ?_) (a' := ?_) #[true, true, true, true, true, true, true, true, true, true, true, true, true, true, false] rfl rfl (by kernel_rfl) (fun _ _ _ h => h) (Or.inl ⟨by rfl, ?_⟩) ?_ ?_
  rotate_left
  · intro w'
    go_simp
    with_reducible rfl
  rotate_left
  · simp only [Act.put, List.setIfInBounds_toArray, List.set_cons_zero, List.set_cons_succ, i64_w, i32_w]
    rfl
  refine pure_ (i := 14) (N := some 2) (v := ?_) (a' := ?_) #[true, true, true, true, true, true, true, true, true, true, true, true, true, true, true] rfl rfl (by kernel_rfl) (fun _ _ _ h => h) (Or.inl ⟨by rfl, ?_⟩) ?_ ?_
  rotate_left
  · intro w'
    go_simp
    with_reducible rfl
  rotate_left
  · simp only [Act.put, List.setIfInBounds_toArray, List.set_cons_zero, List.set_cons_succ, i64_w, i32_w]
    rfl
  refine done_ (by kernel_rfl) ?_
  go_wp2
  go_ret
  exact ⟨rfl, by repeat (first | exact Drawn0.refl _ | apply Drawn0.step)⟩
theorem win_Sum.at_ (p : Nat) (s : Int) (w : World) (h2 : w.cell? ⟨p, 2, none⟩ = some (.int .u32 s)) :
    Calls Try.prog 29 #[.pointer (some ⟨p, 0, none⟩)] w fun e w' => e = .returned (.int .u32 s) ∧ w' = w := by
  go_enter Try.func29, Try.ntmps29
  go_wp2
  go_ret
  exact ⟨rfl, rfl⟩
theorem win_Len.at_ (p : Nat) (A : Option Addr) (m c : Nat) (w : World) (h1 : w.cell? ⟨p, 1, none⟩ = some (.slice A m c)) :
    Calls Try.prog 30 #[.pointer (some ⟨p, 0, none⟩)] w fun e w' => e = .returned (.int .i64 m) ∧ w' = w := by
  go_enter Try.func30, Try.ntmps30
  go_wp2
  go_ret
  exact ⟨rfl, rfl⟩
theorem win_cells {w : World} {p : Nat} {n s : Int} {v : Value} (h : w.heap[p]? = some (.cells #[.int .i64 n, v, .int .u32 s] 58 (0, 0))) :
    w.cell? ⟨p, 0, none⟩ = some (.int .i64 n) ∧ w.cell? ⟨p, 1, none⟩ = some v ∧ w.cell? ⟨p, 2, none⟩ = some (.int .u32 s) := by
  refine ⟨?_, ?_, ?_⟩ <;> rw [cell_of_row w p _ _ 58 (0, 0) h] <;> rfl
theorem win_below {b0 : Nat} {w w1 : World} (h : b0 ≤ w.heap.size) (hb : Below w.heap.size w w1) : Below b0 w w1 := hb.mono h
set_option maxHeartbeats 2000000 in
theorem win_Push.more (b0 p : Nat) (n : Int) (A : Option Addr) (m c : Nat) (L : List Int) (s c0 s1 : Int) (w : World)
    (hP : w.heap[p]? = some (.cells #[.int .i64 n, .slice A m c, .int .u32 s] 58 (0, 0))) (hR : (Kd.int .u8).R 5 w b0 (fun k => k ≠ p) (.slice A m c) L) (hb : b0 ≤ p)
    (hm : m = L.length) (hne : ((m : Int) == n) = false) (hl : L.length ≤ 100000) (hf : roll_In.f s m c0 = some s1) :
    Calls Try.prog 22 #[.pointer (some ⟨p, 0, none⟩), .int .u8 c0] w fun e w' => e = .returned (.int .u32 s1) ∧ Below b0 w w' ∧
      ∃ A' m' c', m' = (L ++ [c0]).length ∧ w'.heap[p]? = some (.cells #[.int .i64 n, .slice A' m' c', .int .u32 s1] 58 (0, 0)) ∧ (Kd.int .u8).R 5 w' b0 (fun k => k ≠ p) (.slice A' m' c') (L ++ [c0]) := by
  have HP := Aside0.mk hP
  have HR := Aside0.mk hR
  have HM := Aside0.mk hm
  clear hm
  have hsz := blk_lt hP
  have hne' : ¬ (m : Int) = n := beq_eq_false_iff_ne.mp hne
  clear hP hR
  go_enter Try.func22, Try.ntmps22
  go_wp2_with fail
  refine (win_Full.at_ p n A m c _ (win_cells HP.out).1 (win_cells HP.out).2.1).mono ?_
  rintro e w1 ⟨rfl, hd⟩
  have hP1 := Aside0.mk ((hd.below.block p hsz).trans HP.out)
  have HR1 := Aside0.mk (Kd.R_below HR.out hd.below)
  have HB1 := Aside0.mk (win_below (by omega) hd.below : Below b0 w w1)
  have hsz1 := Aside0.mk (blk_lt hP1.out)
  clear hd HP HR
  rw [hne]
  go_wp2_with fail
  refine start_ (n := 15) (S := fun w' => w'.cell? ⟨p, 1, none⟩ = some (.slice A m c) ∧ w'.cell? ⟨p, 2, none⟩ = some (.int .u32 s)) (ds := [14]) #[false, false, false, false, false, false, false, false, false, false, false, false, false, false, false] (by kernel_rfl) rfl rfl ⟨(win_cells hP1.out).2.1, (win_cells hP1.out).2.2⟩ (fun hHeld => ?_)
  refine pure_ (i := 0) (N := some 5) (v := ?_) (a' := ?_) #[true, false, false, false, false, false, false, false, false, false, false, false, false, false, false] rfl rfl (by kernel_rfl) (fun _ _ _ h => h) (Or.inl ⟨by rfl, ?_⟩) ?_ ?_
  rotate_left
  · intro w'
    go_simp
    with_reducible rfl
  rotate_left
  · simp only [Act.put, List.setIfInBounds_toArray, List.set_cons_zero, List.set_cons_succ, i64_w, i32_w]
    rfl
  refine pure_ (i := 1) (N := some 6) (v := ?_) (a' := ?_) #[true, true, false, false, false, false, false, false, false, false, false, false, false, false, false] rfl rfl (by kernel_rfl) (fun _ _ _ h => h) (Or.inl ⟨by rfl, ?_⟩) ?_ ?_
  rotate_left
  · intro w'
    go_simp
    with_reducible rfl
  rotate_left
  · simp only [Act.put, List.setIfInBounds_toArray, List.set_cons_zero, List.set_cons_succ, i64_w, i32_w]
    rfl
  refine pure_ (i := 2) (N := some 7) (v := ?_) (a' := ?_) #[true, true, true, false, false, false, false, false, false, false, false, false, false, false, false] rfl rfl (by kernel_rfl) (fun _ _ _ h => h) (Or.inl ⟨by rfl, ?_⟩) ?_ ?_
  rotate_left
  · intro w'
    go_simp
    with_reducible rfl
  rotate_left
  · simp only [Act.put, List.setIfInBounds_toArray, List.set_cons_zero, List.set_cons_succ, i64_w, i32_w]
    rfl
  refine pure_ (i := 3) (N := some 8) (v := ?_) (a' := ?_) #[true, true, true, true, false, false, false, false, false, false, false, false, false, false, false] rfl rfl (by kernel_rfl) (fun _ _ _ h => h) (Or.inl ⟨by rfl, ?_⟩) ?_ ?_
  rotate_left
  · intro w'
    go_simp
    with_reducible rfl
  rotate_left
  · simp only [Act.put, List.setIfInBounds_toArray, List.set_cons_zero, List.set_cons_succ, i64_w, i32_w]
    rfl
  refine pure_ (i := 5) (N := some 10) (v := ?_) (a' := ?_) #[true, true, true, true, false, true, false, false, false, false, false, false, false, false, false] rfl rfl (by kernel_rfl) (fun _ _ _ h => h) (Or.inl ⟨by rfl, ?_⟩) ?_ ?_
  rotate_left
  · intro w'
    go_simp
    with_reducible rfl
  rotate_left
  · simp only [Act.put, List.setIfInBounds_toArray, List.set_cons_zero, List.set_cons_succ, i64_w, i32_w]
    rfl
  refine pure_ (i := 6) (N := some 11) (v := ?_) (a' := ?_) #[true, true, true, true, false, true, true, false, false, false, false, false, false, false, false] rfl rfl (by kernel_rfl) (fun _ _ _ h => h) (Or.inl ⟨by rfl, ?_⟩) ?_ ?_
  rotate_left
  · intro w'
    go_simp
    with_reducible rfl
  rotate_left
  · simp only [Act.put, List.setIfInBounds_toArray, List.set_cons_zero, List.set_cons_succ, i64_w, i32_w]
    rfl
  refine pure_ (i := 7) (N := some 12) (v := ?_) (a' := ?_) #[true, true, true, true, false, true, true, true, false, false, false, false, false, false, false] rfl rfl (by kernel_rfl) (fun _ _ _ h => h) (Or.inl ⟨by rfl, ?_⟩) ?_ ?_
  rotate_left
  · intro w'
    go_simp
    with_reducible rfl
  rotate_left
  · simp only [Act.put, List.setIfInBounds_toArray, List.set_cons_zero, List.set_cons_succ, i64_w, i32_w]
    rfl
  refine pure_ (i := 10) (N := some 15) (v := ?_) (a' := ?_) #[true, true, true, true, false, true, true, true, false, false, true, false, false, false, false] rfl rfl (by kernel_rfl) (fun _ _ _ h => h) (Or.inl ⟨by rfl, ?_⟩) ?_ ?_
  rotate_left
  · intro w'
    go_simp
    with_reducible rfl
  rotate_left
  · simp only [Act.put, List.setIfInBounds_toArray, List.set_cons_zero, List.set_cons_succ, i64_w, i32_w]
    rfl
  refine take_ (i := 4) (N := some 9) (v := ?_) (a' := ?_) #[true, true, true, true, true, true, true, true, false, false, true, false, false, false, false] rfl rfl (by kernel_rfl) (fun _ _ _ h => h) (Or.inl ⟨by rfl, ?_⟩) hHeld ?_ ?_
  rotate_left
  · rintro w' ⟨s0, s1⟩
    go_simp
    with_reducible rfl
  rotate_left
  · simp only [Act.put, List.setIfInBounds_toArray, List.set_cons_zero, List.set_cons_succ, i64_w, i32_w]
    rfl
  refine take_ (i := 8) (N := some 13) (v := ?_) (a' := ?_) #[true, true, true, true, true, true, true, true, true, false, true, false, false, false, false] rfl rfl (by kernel_rfl) (fun _ _ _ h => h) (Or.inl ⟨by rfl, ?_⟩) hHeld ?_ ?_
  rotate_left
  · rintro w' ⟨s0, s1⟩
    go_simp
    with_reducible rfl
  rotate_left
  · simp only [Act.put, List.setIfInBounds_toArray, List.set_cons_zero, List.set_cons_succ, i64_w, i32_w]
    rfl
  refine pure_ (i := 9) (N := some 14) (v := ?_) (a' := ?_) #[true, true, true, true, true, true, true, true, true, true, true, false, false, false, false] rfl rfl (by kernel_rfl) (fun _ _ _ h => h) (Or.inl ⟨by rfl, ?_⟩) ?_ ?_
  rotate_left
  · intro w'
    go_simp
    with_reducible rfl
  rotate_left
  · simp only [Act.put, List.setIfInBounds_toArray, List.set_cons_zero, List.set_cons_succ, i64_w, i32_w]
    rfl
  refine one_ (i := 11) (N := some 16) #[true, true, true, true, true, true, true, true, true, true, true, true, false, false, false] rfl rfl (by kernel_rfl) (by decide) (fun K hK => ?_)
  refine goes_ Try.func13 (by kernel_rfl) rfl #[.int .u32 s, .int .i64 m, .int .u8 c0] (by rfl) rfl rfl (by simp only [List.map_toArray, List.map_cons, List.map_nil]; rfl) ?_
  with_reducible refine (roll_In.calls s m c0 s1 _ hf).mono ?_
  rintro e w3 ⟨rfl, hd3⟩
  refine ⟨_, rfl, ?_⟩
  have hP3 := Aside0.mk ((hd3.below.block p (blk_lt (by exact hP1.out))).trans hP1.out)
  have q3 := (win_cells hP3.out).2.2
  have qf := blk_frozen hP3.out 2
  refine hK.out _ _ ⟨(win_cells hP3.out).2.1, (win_cells hP3.out).2.2⟩ (fun hHeld => ?_)
  clear hK K
  refine norm_ (a' := ?_) ?_ ?_
  rotate_left
  · show Act.put _ (some 16) _ = _
    simp only [Act.put, List.setIfInBounds_toArray, List.set_cons_zero, List.set_cons_succ, i64_w, i32_w]
    rfl
  refine pure_ (i := 12) (N := some 17) (v := ?_) (a' := ?_) #[true, true, true, true, true, true, true, true, true, true, true, true, true, false, false] rfl rfl (by kernel_rfl) (fun _ _ _ h => h) (Or.inl ⟨by rfl, ?_⟩) ?_ ?_
  rotate_left
  · intro w'
    go_simp
    with_reducible rfl
  rotate_left
  · simp only [Act.put, List.setIfInBounds_toArray, List.set_cons_zero, List.set_cons_succ, i64_w, i32_w]
    rfl
  refine pure_ (i := 13) (N := some 18) (v := ?_) (a' := ?_) #[true, true, true, true, true, true, true, true, true, true, true, true, true, true, false] rfl rfl (by kernel_rfl) (fun _ _ _ h => h) (Or.inl ⟨by rfl, ?_⟩) ?_ ?_
  rotate_left
  · intro w'
    go_simp
    with_reducible rfl
  rotate_left
  · simp only [Act.put, List.setIfInBounds_toArray, List.set_cons_zero, List.set_cons_succ, i64_w, i32_w]
    rfl
  refine last_ (i := 14) (N := none) #[true, true, true, true, true, true, true, true, true, true, true, true, true, true, true] rfl rfl (by kernel_rfl) (by decide) (fun K hK => ?_)
  refine skip_ (w1 := ?_) (by rfl) rfl ?_ ?_
  rotate_left
  · go_simp
    rfl
  refine hK.out _ _ ?_
  clear hK K
  refine done_ (by kernel_rfl) ?_
  have hP4 := Aside0.mk (blk_set hP3.out 2 (.int .u32 s1))
  have hB3 := Aside0.mk (below_then (below_drew HB1.out) (by have := hsz1.out; exact Nat.le_of_lt (Nat.lt_of_le_of_lt hb this)) hd3.below)
  have hP5 : Aside0 ((w3.setCell ⟨p, 2, none⟩ (.int .u32 s1)).heap[p]? = some (.cells #[.int .i64 n, .slice A m c, .int .u32 s1] 58 (0, 0))) := hP4
  have HR5 := Aside0.mk (Kd.R_far (Kd.R_below (Kd.R_drew HR1.out) hd3.below) (p := ⟨p, 2, none⟩) (fun k hk => hk) (.int .u32 s1))
  have HB5 := Aside0.mk (Below.setCell hB3.out (p := ⟨p, 2, none⟩) hb (.int .u32 s1))
  clear hP4 hP3 q3 qf hHeld hB3 HR1 HB1 hP1
  generalize w3.setCell ⟨p, 2, none⟩ (.int .u32 s1) = w5 at hP5 HR5 HB5 ⊢
  clear hd3 hsz1
  have hsz5 := Aside0.mk (blk_lt hP5.out)
  have q5 := (win_cells hP5.out).2.1
  have HL : Aside0 (L.length + 1 ≤ 100001) := ⟨by omega⟩
  go_wp2_with ((with_reducible refine gate_builtin (b := .append) (xs := #[.tmp 23, .tmp 25]) rfl ?_); (try (refine gate_guard (by rfl) ?_; dsimp only)); at_builtin; refine Kd.R_append (Kd.int .u8) (w0 := w) b0 rfl (.tmp 23) (.tmp 25) 22 5 (.int .u8 0) 1 rfl Try.underlying22 info5 rfl (by decide) (by omega) (.slice A m c) L c0 [.int .u8 c0] (fun k => k ≠ p) (fun _ => False) rfl rfl ?aP (fun _ hk => hk.elim) ?aF ?aO ?aB ?aS ?aL ?_; (case aP => exact rfl); (case aB => exact HB5.out); (case aF => exact (fun k hk => by have := hsz5.out; omega)); (case aO => exact HR5.out); (case aS => exact (by have := hsz5.out; omega)); (case aL => omega); intro v6 w6 ho hb6 hg hat; clear hat; obtain ⟨A6, c6, rfl⟩ := Kd.R_slice ho; generalize hm6 : (L ++ [c0]).length = m6 at ho ⊢; replace hm6 := Aside0.mk hm6; have hP6 := Aside0.mk ((hg.block p hsz5.out (by exact fun h => (HR5.out.1 p h.symm) rfl)).trans hP5.out); have q6 := (win_cells hP6.out).2.1; have q7 := (win_cells hP6.out).2.2; have qf6 := blk_frozen hP6.out 1; have HO6 := Aside0.mk ho; have HB6 := Aside0.mk hb6; clear ho hb6 hg)
  have hP7 : Aside0 ((w6.setCell ⟨p, 1, none⟩ (.slice A6 m6 c6)).heap[p]? = some (.cells #[.int .i64 n, .slice A6 m6 c6, .int .u32 s1] 58 (0, 0))) := ⟨blk_set hP6.out 1 (.slice A6 m6 c6)⟩
  have q8 := (win_cells hP7.out).2.2
  go_wp2
  go_ret
  exact ⟨rfl, Below.setCell HB6.out (p := ⟨p, 1, none⟩) hb (.slice A6 m6 c6), A6, m6, c6, hm6.out.symm, hP7.out, Kd.R_far HO6.out (p := ⟨p, 1, none⟩) (fun k hk => hk) (.slice A6 m6 c6)⟩
/-- copy(v, ys), v a row of one's own: what it runs to. -/
theorem R_copy_run {P : Program} {α : Type} {enc : α → Value} {h1 : ∀ x, (enc x).oneCell' = true} (d : α) {W : World} (base : Nat) (t t' e ty : TypeId)
    (ht : P.underlying t = some (.slice e)) (hinfo : (P.info? e).map (·.size) = some 1)
    (v : Value) (xs ys : List α) (A : Option Addr) (m c : Nat) (ok : Nat → Prop)
    (HO : (Kd.scalar enc h1).R e W base ok v xs) (HR : (Kd.scalar enc h1).C W A m ys) (hbase : base ≤ W.heap.size) :
    ∃ w1, (Builtin.copy_ #[t, t'] ty #[v, .slice A m c]).run P W = .ok (.int .i64 ((min m xs.length : Nat) : Int)) w1 ∧
      (Kd.scalar enc h1).R e w1 base ok v (ys.take (min m xs.length) ++ xs.drop (min m xs.length)) ∧ Below base W w1 ∧ W.grownBy w1 v.ownBlock := by
  have h := Kd.R_copy (P := P) (o := { dst := some 2, op := .call { callee := .builtin .copy, args := #[.tmp 0, .tmp 1], argTypes := #[t, t'] }, type := ty, pos := "", after := #[], guard := none }) (ops := #[]) (rest := [])
    (Q := fun x a w1 => x = .normal ∧ a.tmps = #[v, .slice A m c, .int .i64 ((min m xs.length : Nat) : Int)] ∧ (Kd.scalar enc h1).R e w1 base ok v (ys.take (min m xs.length) ++ xs.drop (min m xs.length)) ∧ Below base W w1 ∧ W.grownBy w1 v.ownBlock)
    (a := { tmps := #[v, .slice A m c, undef], defers := [] }) d (w0 := W) (W := W) base rfl (.tmp 0) (.tmp 1) t t' e rfl ht hinfo v xs ys A m c ok rfl rfl HO HR (Below.refl _ _) hbase
    (fun w1 hr hb hg => ⟨rfl, rfl, hr, hb, hg⟩)
  unfold wpList at h
  rw [if_pos (by simp [Region.wanted])] at h
  rcases h with h | ⟨_, h⟩
  · unfold Oper.wp execOp at h
    simp only [resolve, invoke, builtin, Sem.run_bind, Sem.run_pure, Result.andThen_ok, List.map_toArray, List.map_cons, List.map_nil, Act.eval] at h
    have e0 : (#[v, Value.slice A m c, undef].getD 0 undef) = v := rfl
    have e1 : (#[v, Value.slice A m c, undef].getD 1 undef) = .slice A m c := rfl
    rw [e0, e1] at h
    cases hr : (Builtin.copy_ #[t, t'] ty #[v, .slice A m c]).run P W with
    | ok u w1 =>
      rw [hr] at h
      obtain ⟨_, h2, h3, h4, h5⟩ := h
      have h2' : (#[v, Value.slice A m c, u] : Array Value) = #[v, .slice A m c, .int .i64 ((min m xs.length : Nat) : Int)] := h2
      simp only [Array.mk.injEq, List.cons.injEq, true_and, and_true] at h2'
      exact ⟨w1, by rw [h2'], h3, h4, h5⟩
    | halt q w1 =>
      rw [hr] at h
      cases q <;> first | exact h.elim | (obtain ⟨h, _⟩ := h; cases h)
  · obtain ⟨_, _, h, _⟩ := h
    cases h
theorem copy_step {P : Program} {o : Oper} {a : Act} {W w1 : World} {s x : Operand} {t t' ty : TypeId} {v u z : Value} (ho : o.op = .call { callee := .builtin .copy, args := #[s, x], argTypes := #[t, t'] }) (hs : a.eval s = v) (hx : a.eval x = u) (hty : o.type = ty)
    (hr : (Builtin.copy_ #[t, t'] ty #[v, u]).run P W = .ok z w1) : (execOp a.eval o).run P W = .ok (.value z) w1 := by
  subst hty
  unfold execOp
  simp only [ho, resolve, invoke, builtin, Sem.run_bind, Sem.run_pure, Result.andThen_ok, List.map_toArray, List.map_cons, List.map_nil, hs, hx, hr]
set_option maxHeartbeats 4000000 in
theorem win_Push.full (b0 p g : Nat) (m c k : Nat) (x0 : Int) (T : List Int) (s c0 s1 : Int) (w : World)
    (hP : w.heap[p]? = some (.cells #[.int .i64 (m : Int), .slice (some ⟨g, 0, none⟩) m c, .int .u32 s] 58 (0, 0))) (hR : (Kd.int .u8).R 5 w b0 (fun k => k ≠ p) (.slice (some ⟨g, 0, none⟩) m c) (x0 :: T)) (hb : b0 ≤ p)
    (hm : m = k + 1) (hk : T.length = k) (hl : k ≤ 100000) (hf : roll_Roll.f s m x0 c0 = some s1) :
    Calls Try.prog 22 #[.pointer (some ⟨p, 0, none⟩), .int .u8 c0] w fun e w' => e = .returned (.int .u32 s1) ∧ Below b0 w w' ∧
      w'.heap[p]? = some (.cells #[.int .i64 (m : Int), .slice (some ⟨g, 0, none⟩) m c, .int .u32 s1] 58 (0, 0)) ∧ (Kd.int .u8).R 5 w' b0 (fun k => k ≠ p) (.slice (some ⟨g, 0, none⟩) m c) (T ++ [c0]) := by
  have hgp : g ≠ p := hR.1 g rfl
  have hgl : g < w.heap.size := Kd.R_lt hR g rfl
  have hmc := (Kd.R_reads' hR).2.1
  have hlen : ∀ W : World, (Kd.int .u8).R 5 W b0 (fun k => k ≠ p) (.slice (some ⟨g, 0, none⟩) m c) (x0 :: T) → (Kd.int .u8).C W (some ⟨g, 0, none⟩) (x0 :: T).length (x0 :: T) := by
    intro W h
    have h1 := Kd.R_reads' h
    obtain ⟨e, _, h2⟩ := h1
    exact e ▸ h2
  have hXf : ∀ W : World, (Kd.int .u8).R 5 W b0 (fun k => k ≠ p) (.slice (some ⟨g, 0, none⟩) m c) (x0 :: T) → W.cell? ⟨g, 0, none⟩ = some (.int .u8 x0) := by
    intro W h
    obtain ⟨ad, e, hx⟩ := Kd.at_int (hlen W h) 0 (by omega) (by simp only [List.length_cons]; omega)
    cases e
    exact hx
  obtain ⟨i0, hi0, _, hsz0, _⟩ := info_parts info5
  have hs2 := cut_from (P := Try.prog) 22 5 .i64 Try.underlying22 hi0 1 hsz0 (some ⟨g, 0, none⟩) m c 1 (by omega) (by omega)
  obtain ⟨B, hBe⟩ : ∃ B : Option Addr, (if c = 1 then (some ⟨g, 0, none⟩ : Option Addr) else (some ⟨g, 0, none⟩ : Option Addr).map (·.add (1 * 1))) = B := ⟨_, rfl⟩
  have hcut : ∀ W : World, (Instr.slice 22 (.slice (some ⟨g, 0, none⟩) m c) (some (.int .i64 1)) none none).run Try.prog W = .ok (.slice B k (c - 1)) W := by
    intro W
    rw [hs2 W, ← hBe, show (1 : Int).toNat = 1 from rfl, show m - 1 = k by omega]
  have hCf : ∀ W : World, (Kd.int .u8).R 5 W b0 (fun k => k ≠ p) (.slice (some ⟨g, 0, none⟩) m c) (x0 :: T) → (Kd.int .u8).C W B k T := by
    intro W h
    have := Kd.C_drop (k := Kd.int .u8) (w := W) (A := some ⟨g, 0, none⟩) (xs := x0 :: T) (m := 1) (c := c) (hlen W h) (by simp) (by have := (Kd.R_reads' h).1; omega)
    rw [show (x0 :: T).drop 1 = T from rfl, hk] at this
    rw [← hBe]
    exact this
  have info5z : (Try.prog.info? 5).map (·.size) = some 1 := by rw [hi0]; exact congrArg some hsz0
  have hpos : (0 : Int) < (m : Int) := by omega
  have hpos1 : decide ((0 : Int) < (m : Int)) = true := decide_eq_true hpos
  have hpos2 : (0 : Nat) < m := by omega
  have hsub : wrap64 ((m : Int) - 1) = (k : Int) := by have : m = k + 1 := hm; unfold wrap64; omega
  have hkm : (k : Int) < (m : Int) := by omega
  have hkm1 : decide ((k : Int) < (m : Int)) = true := decide_eq_true hkm
  have hkm2 : k < m := by omega
  have hk0 : (0 : Int) ≤ (k : Int) := by omega
  have HP := Aside0.mk hP
  have HR := Aside0.mk hR
  have HM := Aside0.mk hm
  have HK := Aside0.mk hk
  have HXf := Aside0.mk hXf
  have HCf := Aside0.mk hCf
  clear hm hk hXf hCf hlen hs2 hi0 hsz0 hBe
  have hsz := blk_lt hP
  clear hP hR
  go_enter Try.func22, Try.ntmps22
  go_wp2_with fail
  refine (win_Full.at_ p (m : Int) (some ⟨g, 0, none⟩) m c _ (win_cells HP.out).1 (win_cells HP.out).2.1).mono ?_
  rintro e w1 ⟨rfl, hd⟩
  have hP1 := Aside0.mk ((hd.below.block p hsz).trans HP.out)
  have HR1 := Aside0.mk (Kd.R_below HR.out hd.below)
  have HB1 := Aside0.mk (win_below (by omega) hd.below : Below b0 w w1)
  have hsz1 := Aside0.mk (blk_lt hP1.out)
  have hX1 := Aside0.mk (HXf.out _ HR1.out)
  have hgl1 := Aside0.mk (Kd.R_lt HR1.out g rfl)
  clear hd HP HR
  rw [beq_self_eq_true]
  go_wp2_with fail
  refine start_ (n := 20) (S := fun w' => w'.cell? ⟨p, 0, none⟩ = some (.int .i64 (m : Int)) ∧ w'.cell? ⟨p, 1, none⟩ = some (.slice (some ⟨g, 0, none⟩) m c) ∧ w'.cell? ⟨p, 2, none⟩ = some (.int .u32 s) ∧ w'.cell? ⟨g, 0, none⟩ = some (.int .u8 x0)) (ds := [19]) #[false, false, false, false, false, false, false, false, false, false, false, false, false, false, false, false, false, false, false, false] (by kernel_rfl) rfl rfl ⟨(win_cells hP1.out).1, (win_cells hP1.out).2.1, (win_cells hP1.out).2.2, hX1.out⟩ (fun hHeld => ?_)
  refine pure_ (i := 0) (N := some 35) (v := ?_) (a' := ?_) #[true, false, false, false, false, false, false, false, false, false, false, false, false, false, false, false, false, false, false, false] rfl rfl (by kernel_rfl) (fun _ _ _ h => h) (Or.inl ⟨by rfl, ?_⟩) ?_ ?_
  rotate_left
  · intro w'
    go_simp
    with_reducible rfl
  rotate_left
  · simp only [Act.put, List.setIfInBounds_toArray, List.set_cons_zero, List.set_cons_succ, i64_w, i32_w]
    rfl
  refine pure_ (i := 1) (N := some 36) (v := ?_) (a' := ?_) #[true, true, false, false, false, false, false, false, false, false, false, false, false, false, false, false, false, false, false, false] rfl rfl (by kernel_rfl) (fun _ _ _ h => h) (Or.inl ⟨by rfl, ?_⟩) ?_ ?_
  rotate_left
  · intro w'
    go_simp
    with_reducible rfl
  rotate_left
  · simp only [Act.put, List.setIfInBounds_toArray, List.set_cons_zero, List.set_cons_succ, i64_w, i32_w]
    rfl
  refine pure_ (i := 2) (N := some 37) (v := ?_) (a' := ?_) #[true, true, true, false, false, false, false, false, false, false, false, false, false, false, false, false, false, false, false, false] rfl rfl (by kernel_rfl) (fun _ _ _ h => h) (Or.inl ⟨by rfl, ?_⟩) ?_ ?_
  rotate_left
  · intro w'
    go_simp
    with_reducible rfl
  rotate_left
  · simp only [Act.put, List.setIfInBounds_toArray, List.set_cons_zero, List.set_cons_succ, i64_w, i32_w]
    rfl
  refine pure_ (i := 3) (N := some 38) (v := ?_) (a' := ?_) #[true, true, true, true, false, false, false, false, false, false, false, false, false, false, false, false, false, false, false, false] rfl rfl (by kernel_rfl) (fun _ _ _ h => h) (Or.inl ⟨by rfl, ?_⟩) ?_ ?_
  rotate_left
  · intro w'
    go_simp
    with_reducible rfl
  rotate_left
  · simp only [Act.put, List.setIfInBounds_toArray, List.set_cons_zero, List.set_cons_succ, i64_w, i32_w]
    rfl
  refine pure_ (i := 5) (N := some 40) (v := ?_) (a' := ?_) #[true, true, true, true, false, true, false, false, false, false, false, false, false, false, false, false, false, false, false, false] rfl rfl (by kernel_rfl) (fun _ _ _ h => h) (Or.inl ⟨by rfl, ?_⟩) ?_ ?_
  rotate_left
  · intro w'
    go_simp
    with_reducible rfl
  rotate_left
  · simp only [Act.put, List.setIfInBounds_toArray, List.set_cons_zero, List.set_cons_succ, i64_w, i32_w]
    rfl
  refine pure_ (i := 6) (N := some 41) (v := ?_) (a' := ?_) #[true, true, true, true, false, true, true, false, false, false, false, false, false, false, false, false, false, false, false, false] rfl rfl (by kernel_rfl) (fun _ _ _ h => h) (Or.inl ⟨by rfl, ?_⟩) ?_ ?_
  rotate_left
  · intro w'
    go_simp
    with_reducible rfl
  rotate_left
  · simp only [Act.put, List.setIfInBounds_toArray, List.set_cons_zero, List.set_cons_succ, i64_w, i32_w]
    rfl
  refine pure_ (i := 7) (N := some 42) (v := ?_) (a' := ?_) #[true, true, true, true, false, true, true, true, false, false, false, false, false, false, false, false, false, false, false, false] rfl rfl (by kernel_rfl) (fun _ _ _ h => h) (Or.inl ⟨by rfl, ?_⟩) ?_ ?_
  rotate_left
  · intro w'
    go_simp
    with_reducible rfl
  rotate_left
  · simp only [Act.put, List.setIfInBounds_toArray, List.set_cons_zero, List.set_cons_succ, i64_w, i32_w]
    rfl
  refine pure_ (i := 9) (N := some 44) (v := ?_) (a' := ?_) #[true, true, true, true, false, true, true, true, false, true, false, false, false, false, false, false, false, false, false, false] rfl rfl (by kernel_rfl) (fun _ _ _ h => h) (Or.inl ⟨by rfl, ?_⟩) ?_ ?_
  rotate_left
  · intro w'
    go_simp
    with_reducible rfl
  rotate_left
  · simp only [Act.put, List.setIfInBounds_toArray, List.set_cons_zero, List.set_cons_succ, i64_w, i32_w]
    rfl
  refine pure_ (i := 10) (N := some 45) (v := ?_) (a' := ?_) #[true, true, true, true, false, true, true, true, false, true, true, false, false, false, false, false, false, false, false, false] rfl rfl (by kernel_rfl) (fun _ _ _ h => h) (Or.inl ⟨by rfl, ?_⟩) ?_ ?_
  rotate_left
  · intro w'
    go_simp
    with_reducible rfl
  rotate_left
  · simp only [Act.put, List.setIfInBounds_toArray, List.set_cons_zero, List.set_cons_succ, i64_w, i32_w]
    rfl
  refine pure_ (i := 11) (N := some 46) (v := ?_) (a' := ?_) #[true, true, true, true, false, true, true, true, false, true, true, true, false, false, false, false, false, false, false, false] rfl rfl (by kernel_rfl) (fun _ _ _ h => h) (Or.inl ⟨by rfl, ?_⟩) ?_ ?_
  rotate_left
  · intro w'
    go_simp
    with_reducible rfl
  rotate_left
  · simp only [Act.put, List.setIfInBounds_toArray, List.set_cons_zero, List.set_cons_succ, i64_w, i32_w]
    rfl
  refine pure_ (i := 15) (N := some 50) (v := ?_) (a' := ?_) #[true, true, true, true, false, true, true, true, false, true, true, true, false, false, false, true, false, false, false, false] rfl rfl (by kernel_rfl) (fun _ _ _ h => h) (Or.inl ⟨by rfl, ?_⟩) ?_ ?_
  rotate_left
  · intro w'
    go_simp
    with_reducible rfl
  rotate_left
  · simp only [Act.put, List.setIfInBounds_toArray, List.set_cons_zero, List.set_cons_succ, i64_w, i32_w]
    rfl
  refine take_ (i := 4) (N := some 39) (v := ?_) (a' := ?_) #[true, true, true, true, true, true, true, true, false, true, true, true, false, false, false, true, false, false, false, false] rfl rfl (by kernel_rfl) (fun _ _ _ h => h) (Or.inl ⟨by rfl, ?_⟩) hHeld ?_ ?_
  rotate_left
  · rintro w' ⟨s0, s1, s2, s3⟩
    go_simp
    with_reducible rfl
  rotate_left
  · simp only [Act.put, List.setIfInBounds_toArray, List.set_cons_zero, List.set_cons_succ, i64_w, i32_w]
    rfl
  refine take_ (i := 8) (N := some 43) (v := ?_) (a' := ?_) #[true, true, true, true, true, true, true, true, true, true, true, true, false, false, false, true, false, false, false, false] rfl rfl (by kernel_rfl) (fun _ _ _ h => h) (Or.inl ⟨by rfl, ?_⟩) hHeld ?_ ?_
  rotate_left
  · rintro w' ⟨s0, s1, s2, s3⟩
    go_simp
    with_reducible rfl
  rotate_left
  · simp only [Act.put, List.setIfInBounds_toArray, List.set_cons_zero, List.set_cons_succ, i64_w, i32_w]
    rfl
  refine take_ (i := 12) (N := some 47) (v := ?_) (a' := ?_) #[true, true, true, true, true, true, true, true, true, true, true, true, true, false, false, true, false, false, false, false] rfl rfl (by kernel_rfl) (fun _ _ _ h => h) (Or.inl ⟨by rfl, ?_⟩) hHeld ?_ ?_
  rotate_left
  · rintro w' ⟨s0, s1, s2, s3⟩
    go_simp
    with_reducible rfl
  rotate_left
  · simp only [Act.put, List.setIfInBounds_toArray, List.set_cons_zero, List.set_cons_succ, i64_w, i32_w]
    rfl
  refine pure_ (i := 13) (N := some 48) (v := ?_) (a' := ?_) #[true, true, true, true, true, true, true, true, true, true, true, true, true, true, false, true, false, false, false, false] rfl rfl (by kernel_rfl) (fun _ _ _ h => h) (Or.inl ⟨by rfl, ?_⟩) ?_ ?_
  rotate_left
  · intro w'
    go_simp
    with_reducible rfl
  rotate_left
  · simp only [Act.put, List.setIfInBounds_toArray, List.set_cons_zero, List.set_cons_succ, i64_w, i32_w]
    rfl
  refine take_ (i := 14) (N := some 49) (v := ?_) (a' := ?_) #[true, true, true, true, true, true, true, true, true, true, true, true, true, true, true, true, false, false, false, false] rfl rfl (by kernel_rfl) (fun _ _ _ h => h) (Or.inl ⟨by rfl, ?_⟩) hHeld ?_ ?_
  rotate_left
  · rintro w' ⟨s0, s1, s2, s3⟩
    go_simp
    with_reducible rfl
  rotate_left
  · simp only [Act.put, List.setIfInBounds_toArray, List.set_cons_zero, List.set_cons_succ, i64_w, i32_w]
    rfl
  refine one_ (i := 16) (N := some 51) #[true, true, true, true, true, true, true, true, true, true, true, true, true, true, true, true, true, false, false, false] rfl rfl (by kernel_rfl) (by decide) (fun K hK => ?_)
  refine goes_ Try.func17 (by kernel_rfl) rfl #[.int .u32 s, .int .i64 (m : Int), .int .u8 x0, .int .u8 c0] (by rfl) rfl rfl (by simp only [List.map_toArray, List.map_cons, List.map_nil]; rfl) ?_
  with_reducible refine (roll_Roll.calls s m x0 c0 s1 _ hf).mono ?_
  rintro e w3 ⟨rfl, hd3⟩
  refine ⟨_, rfl, ?_⟩
  have hP3 := Aside0.mk ((hd3.below.block p (blk_lt (by exact hP1.out))).trans hP1.out)
  have q3 := (win_cells hP3.out).2.2
  have qf := blk_frozen hP3.out 2
  have hX3 := Aside0.mk ((Below.cell hd3.below (p := ⟨g, 0, none⟩) (by exact hgl1.out)).trans hX1.out)
  refine hK.out _ _ ⟨(win_cells hP3.out).1, (win_cells hP3.out).2.1, (win_cells hP3.out).2.2, hX3.out⟩ (fun hHeld => ?_)
  clear hK K
  refine norm_ (a' := ?_) ?_ ?_
  rotate_left
  · show Act.put _ (some 51) _ = _
    simp only [Act.put, List.setIfInBounds_toArray, List.set_cons_zero, List.set_cons_succ, i64_w, i32_w]
    rfl
  refine pure_ (i := 17) (N := some 52) (v := ?_) (a' := ?_) #[true, true, true, true, true, true, true, true, true, true, true, true, true, true, true, true, true, true, false, false] rfl rfl (by kernel_rfl) (fun _ _ _ h => h) (Or.inl ⟨by rfl, ?_⟩) ?_ ?_
  rotate_left
  · intro w'
    go_simp
    with_reducible rfl
  rotate_left
  · simp only [Act.put, List.setIfInBounds_toArray, List.set_cons_zero, List.set_cons_succ, i64_w, i32_w]
    rfl
  refine pure_ (i := 18) (N := some 53) (v := ?_) (a' := ?_) #[true, true, true, true, true, true, true, true, true, true, true, true, true, true, true, true, true, true, true, false] rfl rfl (by kernel_rfl) (fun _ _ _ h => h) (Or.inl ⟨by rfl, ?_⟩) ?_ ?_
  rotate_left
  · intro w'
    go_simp
    with_reducible rfl
  rotate_left
  · simp only [Act.put, List.setIfInBounds_toArray, List.set_cons_zero, List.set_cons_succ, i64_w, i32_w]
    rfl
  refine last_ (i := 19) (N := none) #[true, true, true, true, true, true, true, true, true, true, true, true, true, true, true, true, true, true, true, true] rfl rfl (by kernel_rfl) (by decide) (fun K hK => ?_)
  refine skip_ (w1 := ?_) (by rfl) rfl ?_ ?_
  rotate_left
  · go_simp
    rfl
  refine hK.out _ _ ?_
  clear hK K
  refine done_ (by kernel_rfl) ?_
  have hB3 := Aside0.mk (below_then (below_drew HB1.out) (by have := hsz1.out; exact Nat.le_of_lt (Nat.lt_of_le_of_lt hb this)) hd3.below)
  have hP5 : Aside0 ((w3.setCell ⟨p, 2, none⟩ (.int .u32 s1)).heap[p]? = some (.cells #[.int .i64 (m : Int), .slice (some ⟨g, 0, none⟩) m c, .int .u32 s1] 58 (0, 0))) := ⟨blk_set hP3.out 2 (.int .u32 s1)⟩
  have HR5 := Aside0.mk (Kd.R_far (Kd.R_below (Kd.R_drew HR1.out) hd3.below) (p := ⟨p, 2, none⟩) (fun k hk => hk) (.int .u32 s1))
  have HB5 := Aside0.mk (Below.setCell hB3.out (p := ⟨p, 2, none⟩) hb (.int .u32 s1))
  have hC5 := Aside0.mk (HCf.out _ HR5.out)
  clear hP3 q3 qf hHeld hB3 HR1 HB1 hP1 hX1 hX3
  generalize w3.setCell ⟨p, 2, none⟩ (.int .u32 s1) = w5 at hP5 HR5 HB5 hC5 ⊢
  clear hd3 hsz1 hgl1
  have hsz5 := Aside0.mk (blk_lt hP5.out)
  go_wp2_with fail
  refine start_ (n := 10) (S := fun w' => w'.cell? ⟨p, 1, none⟩ = some (.slice (some ⟨g, 0, none⟩) m c)) (ds := []) #[false, false, false, false, false, false, false, false, false, false] (by kernel_rfl) rfl rfl ((win_cells hP5.out).2.1) (fun hHeld => ?_)
  refine pure_ (i := 0) (N := some 54) (v := ?_) (a' := ?_) #[true, false, false, false, false, false, false, false, false, false] rfl rfl (by kernel_rfl) (fun _ _ _ h => h) (Or.inl ⟨by rfl, ?_⟩) ?_ ?_
  rotate_left
  · intro w'
    go_simp
    with_reducible rfl
  rotate_left
  · simp only [Act.put, List.setIfInBounds_toArray, List.set_cons_zero, List.set_cons_succ, i64_w, i32_w]
    rfl
  refine pure_ (i := 1) (N := some 55) (v := ?_) (a' := ?_) #[true, true, false, false, false, false, false, false, false, false] rfl rfl (by kernel_rfl) (fun _ _ _ h => h) (Or.inl ⟨by rfl, ?_⟩) ?_ ?_
  rotate_left
  · intro w'
    go_simp
    with_reducible rfl
  rotate_left
  · simp only [Act.put, List.setIfInBounds_toArray, List.set_cons_zero, List.set_cons_succ, i64_w, i32_w]
    rfl
  refine pure_ (i := 2) (N := some 56) (v := ?_) (a' := ?_) #[true, true, true, false, false, false, false, false, false, false] rfl rfl (by kernel_rfl) (fun _ _ _ h => h) (Or.inl ⟨by rfl, ?_⟩) ?_ ?_
  rotate_left
  · intro w'
    go_simp
    with_reducible rfl
  rotate_left
  · simp only [Act.put, List.setIfInBounds_toArray, List.set_cons_zero, List.set_cons_succ, i64_w, i32_w]
    rfl
  refine pure_ (i := 4) (N := some 58) (v := ?_) (a' := ?_) #[true, true, true, false, true, false, false, false, false, false] rfl rfl (by kernel_rfl) (fun _ _ _ h => h) (Or.inl ⟨by rfl, ?_⟩) ?_ ?_
  rotate_left
  · intro w'
    go_simp
    with_reducible rfl
  rotate_left
  · simp only [Act.put, List.setIfInBounds_toArray, List.set_cons_zero, List.set_cons_succ, i64_w, i32_w]
    rfl
  refine pure_ (i := 5) (N := some 59) (v := ?_) (a' := ?_) #[true, true, true, false, true, true, false, false, false, false] rfl rfl (by kernel_rfl) (fun _ _ _ h => h) (Or.inl ⟨by rfl, ?_⟩) ?_ ?_
  rotate_left
  · intro w'
    go_simp
    with_reducible rfl
  rotate_left
  · simp only [Act.put, List.setIfInBounds_toArray, List.set_cons_zero, List.set_cons_succ, i64_w, i32_w]
    rfl
  refine pure_ (i := 6) (N := some 60) (v := ?_) (a' := ?_) #[true, true, true, false, true, true, true, false, false, false] rfl rfl (by kernel_rfl) (fun _ _ _ h => h) (Or.inl ⟨by rfl, ?_⟩) ?_ ?_
  rotate_left
  · intro w'
    go_simp
    with_reducible rfl
  rotate_left
  · simp only [Act.put, List.setIfInBounds_toArray, List.set_cons_zero, List.set_cons_succ, i64_w, i32_w]
    rfl
  refine take_ (i := 3) (N := some 57) (v := ?_) (a' := ?_) #[true, true, true, true, true, true, true, false, false, false] rfl rfl (by kernel_rfl) (fun _ _ _ h => h) (Or.inl ⟨by rfl, ?_⟩) hHeld ?_ ?_
  rotate_left
  · intro w' s0
    go_simp
    with_reducible rfl
  rotate_left
  · simp only [Act.put, List.setIfInBounds_toArray, List.set_cons_zero, List.set_cons_succ, i64_w, i32_w]
    rfl
  refine take_ (i := 7) (N := some 61) (v := ?_) (a' := ?_) #[true, true, true, true, true, true, true, true, false, false] rfl rfl (by kernel_rfl) (fun _ _ _ h => h) (Or.inl ⟨by rfl, ?_⟩) hHeld ?_ ?_
  rotate_left
  · intro w' s0
    go_simp
    with_reducible rfl
  rotate_left
  · simp only [Act.put, List.setIfInBounds_toArray, List.set_cons_zero, List.set_cons_succ, i64_w, i32_w]
    rfl
  refine pure_ (i := 8) (N := some 62) (v := ?_) (a' := ?_) #[true, true, true, true, true, true, true, true, true, false] rfl rfl (by kernel_rfl) (fun _ _ _ h => h) (Or.inl ⟨by rfl, ?_⟩) ?_ ?_
  rotate_left
  · intro w'
    go_simp
    with_reducible rfl
  rotate_left
  · simp only [Act.put, List.setIfInBounds_toArray, List.set_cons_zero, List.set_cons_succ, i64_w, i32_w]
    rfl
  refine one_ (i := 9) (N := some 63) #[true, true, true, true, true, true, true, true, true, true] rfl rfl (by kernel_rfl) (by decide) (fun K hK => ?_)
  obtain ⟨w8, hr8, hR8, hB8, hg8⟩ := R_copy_run (P := Try.prog) (enc := Value.int .u8) (h1 := fun _ => rfl) (0 : Int) b0 22 22 5 3 Try.underlying22 info5z (.slice (some ⟨g, 0, none⟩) m c) (x0 :: T) T B k (c - 1) (fun k => k ≠ p) (Kd.R_drew HR5.out) (Kd.C_drew hC5.out) (by have := hsz5.out; exact Nat.le_of_lt (Nat.lt_of_le_of_lt hb this))
  refine value_ (w1 := w8) (by rfl) rfl (copy_step rfl rfl rfl rfl hr8) ?_
  have hP8 := Aside0.mk ((hg8.block p hsz5.out (by simpa [Value.ownBlock] using Ne.symm hgp)).trans hP5.out)
  refine hK.out _ _ ((win_cells hP8.out).2.1) (fun hHeld => ?_)
  clear hK K
  refine norm_ (a' := ?_) ?_ ?_
  rotate_left
  · show Act.put _ (some 63) _ = _
    simp only [Act.put, List.setIfInBounds_toArray, List.set_cons_zero, List.set_cons_succ, i64_w, i32_w]
    rfl
  refine done_ (by kernel_rfl) ?_
  obtain ⟨y, hy⟩ : ∃ y, T.take (min k (x0 :: T).length) ++ (x0 :: T).drop (min k (x0 :: T).length) = T ++ [y] := by
    have hk := HK.out
    have e1 : min k (x0 :: T).length = k := by simp only [List.length_cons]; omega
    have e2 : ((x0 :: T).drop k).length = 1 := by simp only [List.length_drop, List.length_cons]; omega
    obtain ⟨y, hy⟩ := List.length_eq_one_iff.1 e2
    exact ⟨y, by rw [e1, hy, List.take_of_length_le (by omega)]⟩
  rw [hy] at hR8
  have HR8 : Aside0 ((Kd.int .u8).R 5 w8 b0 (fun k => k ≠ p) (.slice (some ⟨g, 0, none⟩) m c) (T ++ [y])) := ⟨hR8⟩
  have HB8 := Aside0.mk (show Below b0 w w8 from ⟨hB8.os.trans (below_drew HB5.out).os, hB8.tape.trans (below_drew HB5.out).tape, hB8.output.trans (below_drew HB5.out).output, Nat.le_trans (below_drew HB5.out).size hB8.size, fun k hk => (hB8.block k hk).trans ((below_drew HB5.out).block k hk)⟩)
  clear hR8 hr8 hB8 hg8 hy hHeld HR5 HB5 hP5 hC5
  have hY : w8.cell? ⟨g, k, none⟩ = some (.int .u8 y) := by
    have h1 := Kd.R_reads' HR8.out
    obtain ⟨e, _, h2⟩ := h1
    have hk := HK.out
    obtain ⟨ad, e3, hx⟩ := Kd.at_int (xs := T ++ [y]) (e ▸ h2) (k : Int) (by omega) (by simp; omega)
    cases e3
    rw [Int.toNat_natCast] at hx
    have e4 : rd (T ++ [y]) (k : Int) = y := by rw [← hk]; simp [rd]
    rw [e4] at hx
    have e5 : (⟨g, 0, none⟩ : Addr).add k = ⟨g, k, none⟩ := by simp [Addr.add]; omega
    rw [e5] at hx
    exact hx
  have hYf : w8.frozen? ⟨g, k, none⟩ = false := by
    obtain ⟨g', cap', e, _, _, cells, hcell⟩ := Kd.R_form HR8.out (by simp)
    cases e
    exact blk_frozen hcell k
  go_wp2_with fail
  refine start_ (n := 12) (S := fun w' => w'.cell? ⟨p, 0, none⟩ = some (.int .i64 (m : Int)) ∧ w'.cell? ⟨p, 1, none⟩ = some (.slice (some ⟨g, 0, none⟩) m c)) (ds := [11]) #[false, false, false, false, false, false, false, false, false, false, false, false] (by kernel_rfl) rfl rfl ⟨(win_cells hP8.out).1, (win_cells hP8.out).2.1⟩ (fun hHeld => ?_)
  refine pure_ (i := 0) (N := some 64) (v := ?_) (a' := ?_) #[true, false, false, false, false, false, false, false, false, false, false, false] rfl rfl (by kernel_rfl) (fun _ _ _ h => h) (Or.inl ⟨by rfl, ?_⟩) ?_ ?_
  rotate_left
  · intro w'
    go_simp
    with_reducible rfl
  rotate_left
  · simp only [Act.put, List.setIfInBounds_toArray, List.set_cons_zero, List.set_cons_succ, i64_w, i32_w]
    rfl
  refine pure_ (i := 1) (N := some 65) (v := ?_) (a' := ?_) #[true, true, false, false, false, false, false, false, false, false, false, false] rfl rfl (by kernel_rfl) (fun _ _ _ h => h) (Or.inl ⟨by rfl, ?_⟩) ?_ ?_
  rotate_left
  · intro w'
    go_simp
    with_reducible rfl
  rotate_left
  · simp only [Act.put, List.setIfInBounds_toArray, List.set_cons_zero, List.set_cons_succ, i64_w, i32_w]
    rfl
  refine pure_ (i := 2) (N := some 66) (v := ?_) (a' := ?_) #[true, true, true, false, false, false, false, false, false, false, false, false] rfl rfl (by kernel_rfl) (fun _ _ _ h => h) (Or.inl ⟨by rfl, ?_⟩) ?_ ?_
  rotate_left
  · intro w'
    go_simp
    with_reducible rfl
  rotate_left
  · simp only [Act.put, List.setIfInBounds_toArray, List.set_cons_zero, List.set_cons_succ, i64_w, i32_w]
    rfl
  refine pure_ (i := 4) (N := some 68) (v := ?_) (a' := ?_) #[true, true, true, false, true, false, false, false, false, false, false, false] rfl rfl (by kernel_rfl) (fun _ _ _ h => h) (Or.inl ⟨by rfl, ?_⟩) ?_ ?_
  rotate_left
  · intro w'
    go_simp
    with_reducible rfl
  rotate_left
  · simp only [Act.put, List.setIfInBounds_toArray, List.set_cons_zero, List.set_cons_succ, i64_w, i32_w]
    rfl
  refine pure_ (i := 5) (N := some 69) (v := ?_) (a' := ?_) #[true, true, true, false, true, true, false, false, false, false, false, false] rfl rfl (by kernel_rfl) (fun _ _ _ h => h) (Or.inl ⟨by rfl, ?_⟩) ?_ ?_
  rotate_left
  · intro w'
    go_simp
    with_reducible rfl
  rotate_left
  · simp only [Act.put, List.setIfInBounds_toArray, List.set_cons_zero, List.set_cons_succ, i64_w, i32_w]
    rfl
  refine pure_ (i := 6) (N := some 70) (v := ?_) (a' := ?_) #[true, true, true, false, true, true, true, false, false, false, false, false] rfl rfl (by kernel_rfl) (fun _ _ _ h => h) (Or.inl ⟨by rfl, ?_⟩) ?_ ?_
  rotate_left
  · intro w'
    go_simp
    with_reducible rfl
  rotate_left
  · simp only [Act.put, List.setIfInBounds_toArray, List.set_cons_zero, List.set_cons_succ, i64_w, i32_w]
    rfl
  refine pure_ (i := 9) (N := some 73) (v := ?_) (a' := ?_) #[true, true, true, false, true, true, true, false, false, true, false, false] rfl rfl (by kernel_rfl) (fun _ _ _ h => h) (Or.inl ⟨by rfl, ?_⟩) ?_ ?_
  rotate_left
  · intro w'
    go_simp
    with_reducible rfl
  rotate_left
  · simp only [Act.put, List.setIfInBounds_toArray, List.set_cons_zero, List.set_cons_succ, i64_w, i32_w]
    rfl
  refine take_ (i := 3) (N := some 67) (v := ?_) (a' := ?_) #[true, true, true, true, true, true, true, false, false, true, false, false] rfl rfl (by kernel_rfl) (fun _ _ _ h => h) (Or.inl ⟨by rfl, ?_⟩) hHeld ?_ ?_
  rotate_left
  · rintro w' ⟨s0, s1⟩
    go_simp
    with_reducible rfl
  rotate_left
  · simp only [Act.put, List.setIfInBounds_toArray, List.set_cons_zero, List.set_cons_succ, i64_w, i32_w]
    rfl
  refine take_ (i := 7) (N := some 71) (v := ?_) (a' := ?_) #[true, true, true, true, true, true, true, true, false, true, false, false] rfl rfl (by kernel_rfl) (fun _ _ _ h => h) (Or.inl ⟨by rfl, ?_⟩) hHeld ?_ ?_
  rotate_left
  · rintro w' ⟨s0, s1⟩
    go_simp
    with_reducible rfl
  rotate_left
  · simp only [Act.put, List.setIfInBounds_toArray, List.set_cons_zero, List.set_cons_succ, i64_w, i32_w]
    rfl
  refine pure_ (i := 8) (N := some 72) (v := ?_) (a' := ?_) #[true, true, true, true, true, true, true, true, true, true, false, false] rfl rfl (by kernel_rfl) (fun _ _ _ h => h) (Or.inl ⟨by rfl, ?_⟩) ?_ ?_
  rotate_left
  · intro w'
    go_simp
    with_reducible rfl
  rotate_left
  · simp only [Act.put, List.setIfInBounds_toArray, List.set_cons_zero, List.set_cons_succ, i64_w, i32_w]
    rfl
  refine pure_ (i := 10) (N := some 74) (v := ?_) (a' := ?_) #[true, true, true, true, true, true, true, true, true, true, true, false] rfl rfl (by kernel_rfl) (fun _ _ _ h => h) (Or.inl ⟨by rfl, ?_⟩) ?_ ?_
  rotate_left
  · intro w'
    go_simp
    with_reducible rfl
  rotate_left
  · simp only [Act.put, List.setIfInBounds_toArray, List.set_cons_zero, List.set_cons_succ, i64_w, i32_w]
    rfl
  refine last_ (i := 11) (N := none) #[true, true, true, true, true, true, true, true, true, true, true, true] rfl rfl (by kernel_rfl) (by decide) (fun K hK => ?_)
  refine skip_ (w1 := ?_) (by rfl) rfl ?_ ?_
  rotate_left
  · go_simp
    rfl
  refine hK.out _ _ ?_
  clear hK K
  refine done_ (by kernel_rfl) ?_
  have hP9 : Aside0 ((w8.setCell ⟨g, k, none⟩ (.int .u8 c0)).drew.heap[p]? = some (.cells #[.int .i64 (m : Int), .slice (some ⟨g, 0, none⟩) m c, .int .u32 s1] 58 (0, 0))) := ⟨blk_far hP8.out (p := ⟨g, k, none⟩) (Ne.symm hgp) _⟩
  have HR9 : Aside0 ((Kd.int .u8).R 5 (w8.setCell ⟨g, k, none⟩ (.int .u8 c0)).drew b0 (fun k => k ≠ p) (.slice (some ⟨g, 0, none⟩) m c) (T ++ [c0])) := ⟨by
    have h := Kd.R_putn (enc := Value.int .u8) (h1 := fun _ => rfl) HR8.out (k : Int) c0
    rw [Int.toNat_natCast, show (T ++ [y]).set k c0 = T ++ [c0] by rw [← HK.out]; simp] at h
    exact Kd.R_drew h⟩
  have HB9 : Aside0 (Below b0 w (w8.setCell ⟨g, k, none⟩ (.int .u8 c0)).drew) := ⟨below_drew (Below.setCell HB8.out (p := ⟨g, k, none⟩) (Kd.R_base HR8.out g rfl) _)⟩
  clear hHeld hY hYf HR8 HB8 hP8
  generalize (w8.setCell ⟨g, k, none⟩ (.int .u8 c0)).drew = w9 at hP9 HR9 HB9 ⊢
  have q9 := (win_cells hP9.out).2.2
  go_wp2
  go_ret
  exact ⟨rfl, HB9.out, hP9.out, HR9.out⟩
theorem win_Push.step (b0 p : Nat) (n m c : Nat) (A : Option Addr) (L L' : List Int) (s c0 s1 : Int) (w : World)
    (hP : w.heap[p]? = some (.cells #[.int .i64 (n : Int), .slice A m c, .int .u32 s] 58 (0, 0))) (hR : (Kd.int .u8).R 5 w b0 (fun k => k ≠ p) (.slice A m c) L) (hb : b0 ≤ p)
    (hm : m = L.length) (hn1 : 1 ≤ n) (hn2 : n ≤ 65536) (h : (m < n ∧ L' = L ++ [c0] ∧ roll_In.f s m c0 = some s1) ∨ (m = n ∧ L' = L.drop 1 ++ [c0] ∧ roll_Roll.f s m (rd L 0) c0 = some s1)) :
    Calls Try.prog 22 #[.pointer (some ⟨p, 0, none⟩), .int .u8 c0] w fun e w' => e = .returned (.int .u32 s1) ∧ Below b0 w w' ∧
      ∃ A' m' c', m' = L'.length ∧ w'.heap[p]? = some (.cells #[.int .i64 (n : Int), .slice A' m' c', .int .u32 s1] 58 (0, 0)) ∧ (Kd.int .u8).R 5 w' b0 (fun k => k ≠ p) (.slice A' m' c') L' := by
  rcases h with ⟨h1, rfl, h3⟩ | ⟨h1, rfl, h3⟩
  · exact win_Push.more b0 p (n : Int) A m c L s c0 s1 w hP hR hb hm (beq_eq_false_iff_ne.mpr (by omega)) (by omega) h3
  · subst h1
    obtain ⟨g, cap, hv, _⟩ := Kd.R_form hR (by omega)
    have hA : A = some ⟨g, 0, none⟩ := by injection hv
    subst hA
    match L, hm with
    | [], hm => exact absurd (show m = 0 from hm) (by omega)
    | x0 :: T, hm =>
      have hm' : m = T.length + 1 := by simpa using hm
      refine (win_Push.full b0 p g m c T.length x0 T s c0 s1 w hP hR hb hm' rfl (by omega) h3).mono ?_
      rintro e w' ⟨h4, h5, h6, h7⟩
      exact ⟨h4, h5, _, m, c, by simp [hm'], h6, h7⟩
theorem roll_New.made (n : Int) (w : World) (h1 : 1 ≤ n) (h2 : n ≤ 65536) : Calls Try.prog 21 #[.int .i64 n] w fun e w' => e = .returned (.tuple #[.pointer (some ⟨w.heap.size, 0, none⟩), .int .i64 0]) ∧ w' = w.alloc (.cells #[.int .i64 n, .slice none 0 0, .int .u32 0] 58) := by
  have e1 : decide (n < 1) = false := decide_eq_false (by omega)
  have e2 : decide (65536 < n) = false := decide_eq_false (by omega)
  go_enter Try.func21, Try.ntmps21
  go_wp2
  go_ret2
  exact ⟨rfl, rfl⟩
theorem blk_new (w : World) (o : Obj) : (w.alloc o).heap[w.heap.size]? = some o := by
  show (w.heap.push o)[w.heap.size]? = some o
  simp
theorem win_Bytes.at_ (p : Nat) (A : Option Addr) (m c : Nat) (L : List Int) (w : World) (h1 : w.cell? ⟨p, 1, none⟩ = some (.slice A m c)) (hC : (Kd.int .u8).C w A m L) (hl : m ≤ 100000) :
    Calls Try.prog 24 #[.pointer (some ⟨p, 0, none⟩)] w fun e w' => ∃ A' c', e = .returned (.slice A' L.length c') ∧ (Kd.int .u8).R 5 w' w.heap.size (fun _ => True) (.slice A' L.length c') L ∧ Below w.heap.size w w' := by
  have HC := Aside0.mk hC
  clear hC
  go_enter Try.func24, Try.ntmps24
  go_wp2_with ((with_reducible refine gate_builtin (b := .append) (xs := #[.const (.slice none 0 0), .tmp 8]) rfl ?_); (try (refine gate_guard (by rfl) ?_; dsimp only)); at_builtin; refine Kd.R_append_rows (Kd.int .u8) (w0 := w) w.heap.size rfl (.const (.slice none 0 0)) (.tmp 8) 22 5 (.int .u8 0) 1 rfl Try.underlying22 info5 rfl (by decide) (by omega) (.slice none 0 0) ([] : List Int) L A m c (fun _ => True) (fun _ => False) rfl rfl ?aO ?aR (fun _ _ h => h) (fun _ h => h.elim) ?aF ?aB ?aS ?aL ?_; (case aR => exact HC.out); (case aB => exact Below.refl _ _); (case aF => exact (fun _ _ => trivial)); (case aO => exact ((Kd.R_nil _ _ _ _ (fun _ => True)))); (case aS => exact Nat.le_refl _); (case aL => simp only [List.length_nil]; omega); intro v6 w6 ho hb6 hg hat; clear hg hat; have HO6 := Aside0.mk ho; have HB6 := Aside0.mk hb6; clear ho hb6)
  go_ret
  have h := HO6.out
  rw [List.nil_append] at h
  obtain ⟨A6, c6, rfl⟩ := Kd.R_slice h
  exact ⟨A6, c6, rfl, h, HB6.out⟩


end Go.Proofs.Ytnbekpmkjpjneaa.P
