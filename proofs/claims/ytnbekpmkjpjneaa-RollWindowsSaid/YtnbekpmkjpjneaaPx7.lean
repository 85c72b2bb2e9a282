-- Written by a program of the session (wip/tool/mk.py) out of the translation; Lean checks it.
import Derived.Test.YtnbekpmkjpjneaaPx0
import Derived.Test.YtnbekpmkjpjneaaPx1
import Derived.Test.YtnbekpmkjpjneaaPx5
namespace Go.Proofs.Ytnbekpmkjpjneaa.P
open Go.RowKit Go.Proofs.YtnbekpmkjpjneaaW.PrintWords Go.Proofs.YtnbekpmkjpjneaaW.PrintLast Go.Proofs.YtnbekpmkjpjneaaW.PrintMore
attribute [local go_sem] max2_int min2_int max_two min_two max_three min_three max_four min_four   -- for this text's walks alone
set_option linter.unusedVariables false
set_option linter.unusedSimpArgs false

/-! ### remoraref04_New: function 26, a contract of my own -/
set_option maxHeartbeats 2000000 in
theorem win_PushO.more (ok : Nat → Prop) (b0 p : Nat) (n : Int) (A : Option Addr) (m c : Nat) (L : List Int) (s c0 s1 : Int) (w : World)
    (hP : w.heap[p]? = some (.cells #[.int .i64 n, .slice A m c, .int .u32 s] 58 (0, 0))) (hR : (Kd.int .u8).R 5 w b0 ok (.slice A m c) L) (hok : ∀ j, ok j → j ≠ p) (hfr : ∀ j, w.heap.size ≤ j → ok j) (hb : b0 ≤ p)
    (hm : m = L.length) (hne : ((m : Int) == n) = false) (hl : L.length ≤ 100000) (hf : roll_In.f s m c0 = some s1) :
    Calls Try.prog 22 #[.pointer (some ⟨p, 0, none⟩), .int .u8 c0] w fun e w' => e = .returned (.int .u32 s1) ∧ Below b0 w w' ∧ (∀ j, j < w.heap.size → j ≠ p → ¬ ok j → w'.heap[j]? = w.heap[j]?) ∧
      ∃ A' m' c', m' = (L ++ [c0]).length ∧ w'.heap[p]? = some (.cells #[.int .i64 n, .slice A' m' c', .int .u32 s1] 58 (0, 0)) ∧ (Kd.int .u8).R 5 w' b0 ok (.slice A' m' c') (L ++ [c0]) := by
  have HP := Aside0.mk hP
  have HR := Aside0.mk hR
  have HM := Aside0.mk hm
  clear hm
  have hsz := blk_lt hP
  have hne' : ¬ (m : Int) = n := beq_eq_false_iff_ne.mp hne
  clear hP hR
  go_enter Try.func22, Try.ntmps22
  go_wp2_with fail
  refine (win_Full.at_ p n A m c _ (win_cells HP.out).1 (win_cells HP.out).2.1).mono ?_
  rintro e w1 ⟨rfl, hd⟩
  have hP1 := Aside0.mk ((hd.below.block p hsz).trans HP.out)
  have HR1 := Aside0.mk (Kd.R_below HR.out hd.below)
  have HB1 := Aside0.mk (win_below (by omega) hd.below : Below b0 w w1)
  have hsz1 := Aside0.mk (blk_lt hP1.out)
  have HK1 := Aside0.mk (fun (j : Nat) (hj : j < w.heap.size) => hd.below.block j hj)
  have hs1 := Aside0.mk hd.below.size
  clear hd HP HR
  rw [hne]
  go_wp2_with fail
  refine start_ (n := 15) (S := fun w' => w'.cell? ⟨p, 1, none⟩ = some (.slice A m c) ∧ w'.cell? ⟨p, 2, none⟩ = some (.int .u32 s)) (ds := [14]) #[false, false, false, false, false, false, false, false, false, false, false, false, false, false, false] (by kernel_rfl) rfl rfl ⟨(win_cells hP1.out).2.1, (win_cells hP1.out).2.2⟩ (fun hHeld => ?_)
  refine pure_ (i := 0) (N := some 5) (v := ?_) (a' := ?_) #[true, false, false, false, false, false, false, false, false, false, false, false, false, false, false] rfl rfl (by kernel_rfl) (fun _ _ _ h => h) (Or.inl ⟨by rfl, ?_⟩) ?_ ?_
  rotate_left
  · intro w'
    go_simp
    with_reducible rfl
  rotate_left
  · simp only [Act.put, List.setIfInBounds_toArray, List.set_cons_zero, List.set_cons_succ, i64_w, i32_w]
    rfl
  refine pure_ (i := 1) (N := some 6) (v := ?_) (a' := ?_) #[true, true, false, false, false, false, false, false, false, false, false, false, false, false, false] rfl rfl (by kernel_rfl) (fun _ _ _ h => h) (Or.inl ⟨by rfl, ?_⟩) ?_ ?_
  rotate_left
  · intro w'
    go_simp
    with_reducible rfl
  rotate_left
  · simp only [Act.put, List.setIfInBounds_toArray, List.set_cons_zero, List.set_cons_succ, i64_w, i32_w]
    rfl
  refine pure_ (i := 2) (N := some 7) (v := ?_) (a' := ?_) #[true, true, true, false, false, false, false, false, false, false, false, false, false, false, false] rfl rfl (by kernel_rfl) (fun _ _ _ h => h) (Or.inl ⟨by rfl, ?_⟩) ?_ ?_
  rotate_left
  · intro w'
    go_simp
    with_reducible rfl
  rotate_left
  · simp only [Act.put, List.setIfInBounds_toArray, List.set_cons_zero, List.set_cons_succ, i64_w, i32_w]
    rfl
  refine pure_ (i := 3) (N := some 8) (v := ?_) (a' := ?_) #[true, true, true, true, false, false, false, false, false, false, false, false, false, false, false] rfl rfl (by kernel_rfl) (fun _ _ _ h => h) (Or.inl ⟨by rfl, ?_⟩) ?_ ?_
  rotate_left
  · intro w'
    go_simp
    with_reducible rfl
  rotate_left
  · simp only [Act.put, List.setIfInBounds_toArray, List.set_cons_zero, List.set_cons_succ, i64_w, i32_w]
    rfl
  refine pure_ (i := 5) (N := some 10) (v := ?_) (a' := ?_) #[true, true, true, true, false, true, false, false, false, false, false, false, false, false, false] rfl rfl (by kernel_rfl) (fun _ _ _ h => h) (Or.inl ⟨by rfl, ?_⟩) ?_ ?_
  rotate_left
  · intro w'
    go_simp
    with_reducible rfl
  rotate_left
  · simp only [Act.put, List.setIfInBounds_toArray, List.set_cons_zero, List.set_cons_succ, i64_w, i32_w]
    rfl
  refine pure_ (i := 6) (N := some 11) (v := ?_) (a' := ?_) #[true, true, true, true, false, true, true, false, false, false, false, false, false, false, false] rfl rfl (by kernel_rfl) (fun _ _ _ h => h) (Or.inl ⟨by rfl, ?_⟩) ?_ ?_
  rotate_left
  · intro w'
    go_simp
    with_reducible rfl
  rotate_left
  · simp only [Act.put, List.setIfInBounds_toArray, List.set_cons_zero, List.set_cons_succ, i64_w, i32_w]
    rfl
  refine pure_ (i := 7) (N := some 12) (v := ?_) (a' := ?_) #[true, true, true, true, false, true, true, true, false, false, false, false, false, false, false] rfl rfl (by kernel_rfl) (fun _ _ _ h => h) (Or.inl ⟨by rfl, ?_⟩) ?_ ?_
  rotate_left
  · intro w'
    go_simp
    with_reducible rfl
  rotate_left
  · simp only [Act.put, List.setIfInBounds_toArray, List.set_cons_zero, List.set_cons_succ, i64_w, i32_w]
    rfl
  refine pure_ (i := 10) (N := some 15) (v := ?_) (a' := ?_) #[true, true, true, true, false, true, true, true, false, false, true, false, false, false, false] rfl rfl (by kernel_rfl) (fun _ _ _ h => h) (Or.inl ⟨by rfl, ?_⟩) ?_ ?_
  rotate_left
  · intro w'
    go_simp
    with_reducible rfl
  rotate_left
  · simp only [Act.put, List.setIfInBounds_toArray, List.set_cons_zero, List.set_cons_succ, i64_w, i32_w]
    rfl
  refine take_ (i := 4) (N := some 9) (v := ?_) (a' := ?_) #[true, true, true, true, true, true, true, true, false, false, true, false, false, false, false] rfl rfl (by kernel_rfl) (fun _ _ _ h => h) (Or.inl ⟨by rfl, ?_⟩) hHeld ?_ ?_
  rotate_left
  · rintro w' ⟨s0, s1⟩
    go_simp
    with_reducible rfl
  rotate_left
  · simp only [Act.put, List.setIfInBounds_toArray, List.set_cons_zero, List.set_cons_succ, i64_w, i32_w]
    rfl
  refine take_ (i := 8) (N := some 13) (v := ?_) (a' := ?_) #[true, true, true, true, true, true, true, true, true, false, true, false, false, false, false] rfl rfl (by kernel_rfl) (fun _ _ _ h => h) (Or.inl ⟨by rfl, ?_⟩) hHeld ?_ ?_
  rotate_left
  · rintro w' ⟨s0, s1⟩
    go_simp
    with_reducible rfl
  rotate_left
  · simp only [Act.put, List.setIfInBounds_toArray, List.set_cons_zero, List.set_cons_succ, i64_w, i32_w]
    rfl
  refine pure_ (i := 9) (N := some 14) (v := ?_) (a' := ?_) #[true, true, true, true, true, true, true, true, true, true, true, false, false, false, false] rfl rfl (by kernel_rfl) (fun _ _ _ h => h) (Or.inl ⟨by rfl, ?_⟩) ?_ ?_
  rotate_left
  · intro w'
    go_simp
    with_reducible rfl
  rotate_left
  · simp only [Act.put, List.setIfInBounds_toArray, List.set_cons_zero, List.set_cons_succ, i64_w, i32_w]
    rfl
  refine one_ (i := 11) (N := some 16) #[true, true, true, true, true, true, true, true, true, true, true, true, false, false, false] rfl rfl (by kernel_rfl) (by decide) (fun K hK => ?_)
  refine goes_ Try.func13 (by kernel_rfl) rfl #[.int .u32 s, .int .i64 m, .int .u8 c0] (by rfl) rfl rfl (by simp only [List.map_toArray, List.map_cons, List.map_nil]; rfl) ?_
  with_reducible refine (roll_In.calls s m c0 s1 _ hf).mono ?_
  rintro e w3 ⟨rfl, hd3⟩
  refine ⟨_, rfl, ?_⟩
  have hP3 := Aside0.mk ((hd3.below.block p (blk_lt (by exact hP1.out))).trans hP1.out)
  have q3 := (win_cells hP3.out).2.2
  have qf := blk_frozen hP3.out 2
  refine hK.out _ _ ⟨(win_cells hP3.out).2.1, (win_cells hP3.out).2.2⟩ (fun hHeld => ?_)
  clear hK K
  refine norm_ (a' := ?_) ?_ ?_
  rotate_left
  · show Act.put _ (some 16) _ = _
    simp only [Act.put, List.setIfInBounds_toArray, List.set_cons_zero, List.set_cons_succ, i64_w, i32_w]
    rfl
  refine pure_ (i := 12) (N := some 17) (v := ?_) (a' := ?_) #[true, true, true, true, true, true, true, true, true, true, true, true, true, false, false] rfl rfl (by kernel_rfl) (fun _ _ _ h => h) (Or.inl ⟨by rfl, ?_⟩) ?_ ?_
  rotate_left
  · intro w'
    go_simp
    with_reducible rfl
  rotate_left
  · simp only [Act.put, List.setIfInBounds_toArray, List.set_cons_zero, List.set_cons_succ, i64_w, i32_w]
    rfl
  refine pure_ (i := 13) (N := some 18) (v := ?_) (a' := ?_) #[true, true, true, true, true, true, true, true, true, true, true, true, true, true, false] rfl rfl (by kernel_rfl) (fun _ _ _ h => h) (Or.inl ⟨by rfl, ?_⟩) ?_ ?_
  rotate_left
  · intro w'
    go_simp
    with_reducible rfl
  rotate_left
  · simp only [Act.put, List.setIfInBounds_toArray, List.set_cons_zero, List.set_cons_succ, i64_w, i32_w]
    rfl
  refine last_ (i := 14) (N := none) #[true, true, true, true, true, true, true, true, true, true, true, true, true, true, true] rfl rfl (by kernel_rfl) (by decide) (fun K hK => ?_)
  refine skip_ (w1 := ?_) (by rfl) rfl ?_ ?_
  rotate_left
  · go_simp
    rfl
  refine hK.out _ _ ?_
  clear hK K
  refine done_ (by kernel_rfl) ?_
  have hP4 := Aside0.mk (blk_set hP3.out 2 (.int .u32 s1))
  have hB3 := Aside0.mk (below_then (below_drew HB1.out) (by have := hsz1.out; exact Nat.le_of_lt (Nat.lt_of_le_of_lt hb this)) hd3.below)
  have hP5 : Aside0 ((w3.setCell ⟨p, 2, none⟩ (.int .u32 s1)).heap[p]? = some (.cells #[.int .i64 n, .slice A m c, .int .u32 s1] 58 (0, 0))) := hP4
  have HK5 : Aside0 (∀ j, j < w.heap.size → j ≠ p → (w3.setCell ⟨p, 2, none⟩ (.int .u32 s1)).heap[j]? = w.heap[j]?) := ⟨fun j hj hjp => (Below.heap_setCell w3 ⟨p, 2, none⟩ _ j hjp).trans ((hd3.below.block j (Nat.lt_of_lt_of_le hj hs1.out)).trans (HK1.out j hj))⟩
  have HR5 := Aside0.mk (Kd.R_far (Kd.R_below (Kd.R_drew HR1.out) hd3.below) (p := ⟨p, 2, none⟩) (fun k hk => hok k hk) (.int .u32 s1))
  have HB5 := Aside0.mk (Below.setCell hB3.out (p := ⟨p, 2, none⟩) hb (.int .u32 s1))
  clear hP4 hP3 q3 qf hHeld hB3 HR1 HB1 hP1
  generalize w3.setCell ⟨p, 2, none⟩ (.int .u32 s1) = w5 at HK5 hP5 HR5 HB5 ⊢
  clear hd3 hsz1
  have hsz5 := Aside0.mk (blk_lt hP5.out)
  have q5 := (win_cells hP5.out).2.1
  have HL : Aside0 (L.length + 1 ≤ 100001) := ⟨by omega⟩
  go_wp2_with ((with_reducible refine gate_builtin (b := .append) (xs := #[.tmp 23, .tmp 25]) rfl ?_); (try (refine gate_guard (by rfl) ?_; dsimp only)); at_builtin; refine Kd.R_append (Kd.int .u8) (w0 := w) b0 rfl (.tmp 23) (.tmp 25) 22 5 (.int .u8 0) 1 rfl Try.underlying22 info5 rfl (by decide) (by omega) (.slice A m c) L c0 [.int .u8 c0] ok (fun _ => False) rfl rfl ?aP (fun _ hk => hk.elim) ?aF ?aO ?aB ?aS ?aL ?_; (case aP => exact rfl); (case aB => exact HB5.out); (case aF => exact (fun k hk => hfr k (Nat.le_trans HB5.out.size hk))); (case aO => exact HR5.out); (case aS => exact (by have := hsz5.out; omega)); (case aL => omega); intro v6 w6 ho hb6 hg hat; clear hat; obtain ⟨A6, c6, rfl⟩ := Kd.R_slice ho; generalize hm6 : (L ++ [c0]).length = m6 at ho ⊢; replace hm6 := Aside0.mk hm6; have hP6 := Aside0.mk ((hg.block p hsz5.out (by exact fun h => (hok p (HR5.out.1 p h.symm)) rfl)).trans hP5.out); have q6 := (win_cells hP6.out).2.1; have q7 := (win_cells hP6.out).2.2; have qf6 := blk_frozen hP6.out 1; have HO6 := Aside0.mk ho; have HK6 := Aside0.mk (fun (j : Nat) (hj : j < w.heap.size) (hjp : j ≠ p) (hnj : ¬ ok j) => (hg.block j (Nat.lt_of_lt_of_le hj HB5.out.size) (fun h => hnj (HR5.out.1 j h.symm))).trans (HK5.out j hj hjp)); have HB6 := Aside0.mk hb6; clear ho hb6 hg)
  have hP7 : Aside0 ((w6.setCell ⟨p, 1, none⟩ (.slice A6 m6 c6)).heap[p]? = some (.cells #[.int .i64 n, .slice A6 m6 c6, .int .u32 s1] 58 (0, 0))) := ⟨blk_set hP6.out 1 (.slice A6 m6 c6)⟩
  have q8 := (win_cells hP7.out).2.2
  go_wp2
  go_ret
  exact ⟨rfl, Below.setCell HB6.out (p := ⟨p, 1, none⟩) hb (.slice A6 m6 c6), fun j hj hjp hnj => (Below.heap_setCell w6 ⟨p, 1, none⟩ _ j hjp).trans (HK6.out j hj hjp hnj), A6, m6, c6, hm6.out.symm, hP7.out, Kd.R_far HO6.out (p := ⟨p, 1, none⟩) (fun k hk => hok k hk) (.slice A6 m6 c6)⟩
set_option maxHeartbeats 4000000 in
theorem win_PushO.full (ok : Nat → Prop) (b0 p g : Nat) (m c k : Nat) (x0 : Int) (T : List Int) (s c0 s1 : Int) (w : World)
    (hP : w.heap[p]? = some (.cells #[.int .i64 (m : Int), .slice (some ⟨g, 0, none⟩) m c, .int .u32 s] 58 (0, 0))) (hR : (Kd.int .u8).R 5 w b0 ok (.slice (some ⟨g, 0, none⟩) m c) (x0 :: T)) (hok : ∀ j, ok j → j ≠ p) (hfr : ∀ j, w.heap.size ≤ j → ok j) (hb : b0 ≤ p)
    (hm : m = k + 1) (hk : T.length = k) (hl : k ≤ 100000) (hf : roll_Roll.f s m x0 c0 = some s1) :
    Calls Try.prog 22 #[.pointer (some ⟨p, 0, none⟩), .int .u8 c0] w fun e w' => e = .returned (.int .u32 s1) ∧ Below b0 w w' ∧ (∀ j, j < w.heap.size → j ≠ p → ¬ ok j → w'.heap[j]? = w.heap[j]?) ∧
      w'.heap[p]? = some (.cells #[.int .i64 (m : Int), .slice (some ⟨g, 0, none⟩) m c, .int .u32 s1] 58 (0, 0)) ∧ (Kd.int .u8).R 5 w' b0 ok (.slice (some ⟨g, 0, none⟩) m c) (T ++ [c0]) := by
  have hgp : g ≠ p := hok g (hR.1 g rfl)
  have hgl : g < w.heap.size := Kd.R_lt hR g rfl
  have hmc := (Kd.R_reads' hR).2.1
  have hlen : ∀ W : World, (Kd.int .u8).R 5 W b0 ok (.slice (some ⟨g, 0, none⟩) m c) (x0 :: T) → (Kd.int .u8).C W (some ⟨g, 0, none⟩) (x0 :: T).length (x0 :: T) := by
    intro W h
    have h1 := Kd.R_reads' h
    obtain ⟨e, _, h2⟩ := h1
    exact e ▸ h2
  have hXf : ∀ W : World, (Kd.int .u8).R 5 W b0 ok (.slice (some ⟨g, 0, none⟩) m c) (x0 :: T) → W.cell? ⟨g, 0, none⟩ = some (.int .u8 x0) := by
    intro W h
    obtain ⟨ad, e, hx⟩ := Kd.at_int (hlen W h) 0 (by omega) (by simp only [List.length_cons]; omega)
    cases e
    exact hx
  obtain ⟨i0, hi0, _, hsz0, _⟩ := info_parts info5
  have hs2 := cut_from (P := Try.prog) 22 5 .i64 Try.underlying22 hi0 1 hsz0 (some ⟨g, 0, none⟩) m c 1 (by omega) (by omega)
  obtain ⟨B, hBe⟩ : ∃ B : Option Addr, (if c = 1 then (some ⟨g, 0, none⟩ : Option Addr) else (some ⟨g, 0, none⟩ : Option Addr).map (·.add (1 * 1))) = B := ⟨_, rfl⟩
  have hcut : ∀ W : World, (Instr.slice 22 (.slice (some ⟨g, 0, none⟩) m c) (some (.int .i64 1)) none none).run Try.prog W = .ok (.slice B k (c - 1)) W := by
    intro W
    rw [hs2 W, ← hBe, show (1 : Int).toNat = 1 from rfl, show m - 1 = k by omega]
  have hCf : ∀ W : World, (Kd.int .u8).R 5 W b0 ok (.slice (some ⟨g, 0, none⟩) m c) (x0 :: T) → (Kd.int .u8).C W B k T := by
    intro W h
    have := Kd.C_drop (k := Kd.int .u8) (w := W) (A := some ⟨g, 0, none⟩) (xs := x0 :: T) (m := 1) (c := c) (hlen W h) (by simp) (by have := (Kd.R_reads' h).1; omega)
    rw [show (x0 :: T).drop 1 = T from rfl, hk] at this
    rw [← hBe]
    exact this
  have info5z : (Try.prog.info? 5).map (·.size) = some 1 := by rw [hi0]; exact congrArg some hsz0
  have hpos : (0 : Int) < (m : Int) := by omega
  have hpos1 : decide ((0 : Int) < (m : Int)) = true := decide_eq_true hpos
  have hpos2 : (0 : Nat) < m := by omega
  have hsub : wrap64 ((m : Int) - 1) = (k : Int) := by have : m = k + 1 := hm; unfold wrap64; omega
  have hkm : (k : Int) < (m : Int) := by omega
  have hkm1 : decide ((k : Int) < (m : Int)) = true := decide_eq_true hkm
  have hkm2 : k < m := by omega
  have hk0 : (0 : Int) ≤ (k : Int) := by omega
  have HP := Aside0.mk hP
  have HR := Aside0.mk hR
  have HM := Aside0.mk hm
  have HK := Aside0.mk hk
  have HXf := Aside0.mk hXf
  have HCf := Aside0.mk hCf
  clear hm hk hXf hCf hlen hs2 hi0 hsz0 hBe
  have hsz := blk_lt hP
  clear hP hR
  go_enter Try.func22, Try.ntmps22
  go_wp2_with fail
  refine (win_Full.at_ p (m : Int) (some ⟨g, 0, none⟩) m c _ (win_cells HP.out).1 (win_cells HP.out).2.1).mono ?_
  rintro e w1 ⟨rfl, hd⟩
  have hP1 := Aside0.mk ((hd.below.block p hsz).trans HP.out)
  have HR1 := Aside0.mk (Kd.R_below HR.out hd.below)
  have HB1 := Aside0.mk (win_below (by omega) hd.below : Below b0 w w1)
  have hsz1 := Aside0.mk (blk_lt hP1.out)
  have hX1 := Aside0.mk (HXf.out _ HR1.out)
  have hgl1 := Aside0.mk (Kd.R_lt HR1.out g rfl)
  have HK1 := Aside0.mk (fun (j : Nat) (hj : j < w.heap.size) => hd.below.block j hj)
  have hs1 := Aside0.mk hd.below.size
  clear hd HP HR
  rw [beq_self_eq_true]
  go_wp2_with fail
  refine start_ (n := 20) (S := fun w' => w'.cell? ⟨p, 0, none⟩ = some (.int .i64 (m : Int)) ∧ w'.cell? ⟨p, 1, none⟩ = some (.slice (some ⟨g, 0, none⟩) m c) ∧ w'.cell? ⟨p, 2, none⟩ = some (.int .u32 s) ∧ w'.cell? ⟨g, 0, none⟩ = some (.int .u8 x0)) (ds := [19]) #[false, false, false, false, false, false, false, false, false, false, false, false, false, false, false, false, false, false, false, false] (by kernel_rfl) rfl rfl ⟨(win_cells hP1.out).1, (win_cells hP1.out).2.1, (win_cells hP1.out).2.2, hX1.out⟩ (fun hHeld => ?_)
  refine pure_ (i := 0) (N := some 35) (v := ?_) (a' := ?_) #[true, false, false, false, false, false, false, false, false, false, false, false, false, false, false, false, false, false, false, false] rfl rfl (by kernel_rfl) (fun _ _ _ h => h) (Or.inl ⟨by rfl, ?_⟩) ?_ ?_
  rotate_left
  · intro w'
    go_simp
    with_reducible rfl
  rotate_left
  · simp only [Act.put, List.setIfInBounds_toArray, List.set_cons_zero, List.set_cons_succ, i64_w, i32_w]
    rfl
  refine pure_ (i := 1) (N := some 36) (v := ?_) (a' := ?_) #[true, true, false, false, false, false, false, false, false, false, false, false, false, false, false, false, false, false, false, false] rfl rfl (by kernel_rfl) (fun _ _ _ h => h) (Or.inl ⟨by rfl, ?_⟩) ?_ ?_
  rotate_left
  · intro w'
    go_simp
    with_reducible rfl
  rotate_left
  · simp only [Act.put, List.setIfInBounds_toArray, List.set_cons_zero, List.set_cons_succ, i64_w, i32_w]
    rfl
  refine pure_ (i := 2) (N := some 37) (v := ?_) (a' := ?_) #[true, true, true, false, false, false, false, false, false, false, false, false, false, false, false, false, false, false, false, false] rfl rfl (by kernel_rfl) (fun _ _ _ h => h) (Or.inl ⟨by rfl, ?_⟩) ?_ ?_
  rotate_left
  · intro w'
    go_simp
    with_reducible rfl
  rotate_left
  · simp only [Act.put, List.setIfInBounds_toArray, List.set_cons_zero, List.set_cons_succ, i64_w, i32_w]
    rfl
  refine pure_ (i := 3) (N := some 38) (v := ?_) (a' := ?_) #[true, true, true, true, false, false, false, false, false, false, false, false, false, false, false, false, false, false, false, false] rfl rfl (by kernel_rfl) (fun _ _ _ h => h) (Or.inl ⟨by rfl, ?_⟩) ?_ ?_
  rotate_left
  · intro w'
    go_simp
    with_reducible rfl
  rotate_left
  · simp only [Act.put, List.setIfInBounds_toArray, List.set_cons_zero, List.set_cons_succ, i64_w, i32_w]
    rfl
  refine pure_ (i := 5) (N := some 40) (v := ?_) (a' := ?_) #[true, true, true, true, false, true, false, false, false, false, false, false, false, false, false, false, false, false, false, false] rfl rfl (by kernel_rfl) (fun _ _ _ h => h) (Or.inl ⟨by rfl, ?_⟩) ?_ ?_
  rotate_left
  · intro w'
    go_simp
    with_reducible rfl
  rotate_left
  · simp only [Act.put, List.setIfInBounds_toArray, List.set_cons_zero, List.set_cons_succ, i64_w, i32_w]
    rfl
  refine pure_ (i := 6) (N := some 41) (v := ?_) (a' := ?_) #[true, true, true, true, false, true, true, false, false, false, false, false, false, false, false, false, false, false, false, false] rfl rfl (by kernel_rfl) (fun _ _ _ h => h) (Or.inl ⟨by rfl, ?_⟩) ?_ ?_
  rotate_left
  · intro w'
    go_simp
    with_reducible rfl
  rotate_left
  · simp only [Act.put, List.setIfInBounds_toArray, List.set_cons_zero, List.set_cons_succ, i64_w, i32_w]
    rfl
  refine pure_ (i := 7) (N := some 42) (v := ?_) (a' := ?_) #[true, true, true, true, false, true, true, true, false, false, false, false, false, false, false, false, false, false, false, false] rfl rfl (by kernel_rfl) (fun _ _ _ h => h) (Or.inl ⟨by rfl, ?_⟩) ?_ ?_
  rotate_left
  · intro w'
    go_simp
    with_reducible rfl
  rotate_left
  · simp only [Act.put, List.setIfInBounds_toArray, List.set_cons_zero, List.set_cons_succ, i64_w, i32_w]
    rfl
  refine pure_ (i := 9) (N := some 44) (v := ?_) (a' := ?_) #[true, true, true, true, false, true, true, true, false, true, false, false, false, false, false, false, false, false, false, false] rfl rfl (by kernel_rfl) (fun _ _ _ h => h) (Or.inl ⟨by rfl, ?_⟩) ?_ ?_
  rotate_left
  · intro w'
    go_simp
    with_reducible rfl
  rotate_left
  · simp only [Act.put, List.setIfInBounds_toArray, List.set_cons_zero, List.set_cons_succ, i64_w, i32_w]
    rfl
  refine pure_ (i := 10) (N := some 45) (v := ?_) (a' := ?_) #[true, true, true, true, false, true, true, true, false, true, true, false, false, false, false, false, false, false, false, false] rfl rfl (by kernel_rfl) (fun _ _ _ h => h) (Or.inl ⟨by rfl, ?_⟩) ?_ ?_
  rotate_left
  · intro w'
    go_simp
    with_reducible rfl
  rotate_left
  · simp only [Act.put, List.setIfInBounds_toArray, List.set_cons_zero, List.set_cons_succ, i64_w, i32_w]
    rfl
  refine pure_ (i := 11) (N := some 46) (v := ?_) (a' := ?_) #[true, true, true, true, false, true, true, true, false, true, true, true, false, false, false, false, false, false, false, false] rfl rfl (by kernel_rfl) (fun _ _ _ h => h) (Or.inl ⟨by rfl, ?_⟩) ?_ ?_
  rotate_left
  · intro w'
    go_simp
    with_reducible rfl
  rotate_left
  · simp only [Act.put, List.setIfInBounds_toArray, List.set_cons_zero, List.set_cons_succ, i64_w, i32_w]
    rfl
  refine pure_ (i := 15) (N := some 50) (v := ?_) (a' := ?_) #[true, true, true, true, false, true, true, true, false, true, true, true, false, false, false, true, false, false, false, false] rfl rfl (by kernel_rfl) (fun _ _ _ h => h) (Or.inl ⟨by rfl, ?_⟩) ?_ ?_
  rotate_left
  · intro w'
    go_simp
    with_reducible rfl
  rotate_left
  · simp only [Act.put, List.setIfInBounds_toArray, List.set_cons_zero, List.set_cons_succ, i64_w, i32_w]
    rfl
  refine take_ (i := 4) (N := some 39) (v := ?_) (a' := ?_) #[true, true, true, true, true, true, true, true, false, true, true, true, false, false, false, true, false, false, false, false] rfl rfl (by kernel_rfl) (fun _ _ _ h => h) (Or.inl ⟨by rfl, ?_⟩) hHeld ?_ ?_
  rotate_left
  · rintro w' ⟨s0, s1, s2, s3⟩
    go_simp
    with_reducible rfl
  rotate_left
  · simp only [Act.put, List.setIfInBounds_toArray, List.set_cons_zero, List.set_cons_succ, i64_w, i32_w]
    rfl
  refine take_ (i := 8) (N := some 43) (v := ?_) (a' := ?_) #[true, true, true, true, true, true, true, true, true, true, true, true, false, false, false, true, false, false, false, false] rfl rfl (by kernel_rfl) (fun _ _ _ h => h) (Or.inl ⟨by rfl, ?_⟩) hHeld ?_ ?_
  rotate_left
  · rintro w' ⟨s0, s1, s2, s3⟩
    go_simp
    with_reducible rfl
  rotate_left
  · simp only [Act.put, List.setIfInBounds_toArray, List.set_cons_zero, List.set_cons_succ, i64_w, i32_w]
    rfl
  refine take_ (i := 12) (N := some 47) (v := ?_) (a' := ?_) #[true, true, true, true, true, true, true, true, true, true, true, true, true, false, false, true, false, false, false, false] rfl rfl (by kernel_rfl) (fun _ _ _ h => h) (Or.inl ⟨by rfl, ?_⟩) hHeld ?_ ?_
  rotate_left
  · rintro w' ⟨s0, s1, s2, s3⟩
    go_simp
    with_reducible rfl
  rotate_left
  · simp only [Act.put, List.setIfInBounds_toArray, List.set_cons_zero, List.set_cons_succ, i64_w, i32_w]
    rfl
  refine pure_ (i := 13) (N := some 48) (v := ?_) (a' := ?_) #[true, true, true, true, true, true, true, true, true, true, true, true, true, true, false, true, false, false, false, false] rfl rfl (by kernel_rfl) (fun _ _ _ h => h) (Or.inl ⟨by rfl, ?_⟩) ?_ ?_
  rotate_left
  · intro w'
    go_simp
    with_reducible rfl
  rotate_left
  · simp only [Act.put, List.setIfInBounds_toArray, List.set_cons_zero, List.set_cons_succ, i64_w, i32_w]
    rfl
  refine take_ (i := 14) (N := some 49) (v := ?_) (a' := ?_) #[true, true, true, true, true, true, true, true, true, true, true, true, true, true, true, true, false, false, false, false] rfl rfl (by kernel_rfl) (fun _ _ _ h => h) (Or.inl ⟨by rfl, ?_⟩) hHeld ?_ ?_
  rotate_left
  · rintro w' ⟨s0, s1, s2, s3⟩
    go_simp
    with_reducible rfl
  rotate_left
  · simp only [Act.put, List.setIfInBounds_toArray, List.set_cons_zero, List.set_cons_succ, i64_w, i32_w]
    rfl
  refine one_ (i := 16) (N := some 51) #[true, true, true, true, true, true, true, true, true, true, true, true, true, true, true, true, true, false, false, false] rfl rfl (by kernel_rfl) (by decide) (fun K hK => ?_)
  refine goes_ Try.func17 (by kernel_rfl) rfl #[.int .u32 s, .int .i64 (m : Int), .int .u8 x0, .int .u8 c0] (by rfl) rfl rfl (by simp only [List.map_toArray, List.map_cons, List.map_nil]; rfl) ?_
  with_reducible refine (roll_Roll.calls s m x0 c0 s1 _ hf).mono ?_
  rintro e w3 ⟨rfl, hd3⟩
  refine ⟨_, rfl, ?_⟩
  have hP3 := Aside0.mk ((hd3.below.block p (blk_lt (by exact hP1.out))).trans hP1.out)
  have q3 := (win_cells hP3.out).2.2
  have qf := blk_frozen hP3.out 2
  have hX3 := Aside0.mk ((Below.cell hd3.below (p := ⟨g, 0, none⟩) (by exact hgl1.out)).trans hX1.out)
  refine hK.out _ _ ⟨(win_cells hP3.out).1, (win_cells hP3.out).2.1, (win_cells hP3.out).2.2, hX3.out⟩ (fun hHeld => ?_)
  clear hK K
  refine norm_ (a' := ?_) ?_ ?_
  rotate_left
  · show Act.put _ (some 51) _ = _
    simp only [Act.put, List.setIfInBounds_toArray, List.set_cons_zero, List.set_cons_succ, i64_w, i32_w]
    rfl
  refine pure_ (i := 17) (N := some 52) (v := ?_) (a' := ?_) #[true, true, true, true, true, true, true, true, true, true, true, true, true, true, true, true, true, true, false, false] rfl rfl (by kernel_rfl) (fun _ _ _ h => h) (Or.inl ⟨by rfl, ?_⟩) ?_ ?_
  rotate_left
  · intro w'
    go_simp
    with_reducible rfl
  rotate_left
  · simp only [Act.put, List.setIfInBounds_toArray, List.set_cons_zero, List.set_cons_succ, i64_w, i32_w]
    rfl
  refine pure_ (i := 18) (N := some 53) (v := ?_) (a' := ?_) #[true, true, true, true, true, true, true, true, true, true, true, true, true, true, true, true, true, true, true, false] rfl rfl (by kernel_rfl) (fun _ _ _ h => h) (Or.inl ⟨by rfl, ?_⟩) ?_ ?_
  rotate_left
  · intro w'
    go_simp
    with_reducible rfl
  rotate_left
  · simp only [Act.put, List.setIfInBounds_toArray, List.set_cons_zero, List.set_cons_succ, i64_w, i32_w]
    rfl
  refine last_ (i := 19) (N := none) #[true, true, true, true, true, true, true, true, true, true, true, true, true, true, true, true, true, true, true, true] rfl rfl (by kernel_rfl) (by decide) (fun K hK => ?_)
  refine skip_ (w1 := ?_) (by rfl) rfl ?_ ?_
  rotate_left
  · go_simp
    rfl
  refine hK.out _ _ ?_
  clear hK K
  refine done_ (by kernel_rfl) ?_
  have hB3 := Aside0.mk (below_then (below_drew HB1.out) (by have := hsz1.out; exact Nat.le_of_lt (Nat.lt_of_le_of_lt hb this)) hd3.below)
  have hP5 : Aside0 ((w3.setCell ⟨p, 2, none⟩ (.int .u32 s1)).heap[p]? = some (.cells #[.int .i64 (m : Int), .slice (some ⟨g, 0, none⟩) m c, .int .u32 s1] 58 (0, 0))) := ⟨blk_set hP3.out 2 (.int .u32 s1)⟩
  have HK5 : Aside0 (∀ j, j < w.heap.size → j ≠ p → (w3.setCell ⟨p, 2, none⟩ (.int .u32 s1)).heap[j]? = w.heap[j]?) := ⟨fun j hj hjp => (Below.heap_setCell w3 ⟨p, 2, none⟩ _ j hjp).trans ((hd3.below.block j (Nat.lt_of_lt_of_le hj hs1.out)).trans (HK1.out j hj))⟩
  have HR5 := Aside0.mk (Kd.R_far (Kd.R_below (Kd.R_drew HR1.out) hd3.below) (p := ⟨p, 2, none⟩) (fun k hk => hok k hk) (.int .u32 s1))
  have HB5 := Aside0.mk (Below.setCell hB3.out (p := ⟨p, 2, none⟩) hb (.int .u32 s1))
  have hC5 := Aside0.mk (HCf.out _ HR5.out)
  clear hP3 q3 qf hHeld hB3 HR1 HB1 hP1 hX1 hX3
  generalize w3.setCell ⟨p, 2, none⟩ (.int .u32 s1) = w5 at HK5 hP5 HR5 HB5 hC5 ⊢
  clear hd3 hsz1 hgl1
  have hsz5 := Aside0.mk (blk_lt hP5.out)
  go_wp2_with fail
  refine start_ (n := 10) (S := fun w' => w'.cell? ⟨p, 1, none⟩ = some (.slice (some ⟨g, 0, none⟩) m c)) (ds := []) #[false, false, false, false, false, false, false, false, false, false] (by kernel_rfl) rfl rfl ((win_cells hP5.out).2.1) (fun hHeld => ?_)
  refine pure_ (i := 0) (N := some 54) (v := ?_) (a' := ?_) #[true, false, false, false, false, false, false, false, false, false] rfl rfl (by kernel_rfl) (fun _ _ _ h => h) (Or.inl ⟨by rfl, ?_⟩) ?_ ?_
  rotate_left
  · intro w'
    go_simp
    with_reducible rfl
  rotate_left
  · simp only [Act.put, List.setIfInBounds_toArray, List.set_cons_zero, List.set_cons_succ, i64_w, i32_w]
    rfl
  refine pure_ (i := 1) (N := some 55) (v := ?_) (a' := ?_) #[true, true, false, false, false, false, false, false, false, false] rfl rfl (by kernel_rfl) (fun _ _ _ h => h) (Or.inl ⟨by rfl, ?_⟩) ?_ ?_
  rotate_left
  · intro w'
    go_simp
    with_reducible rfl
  rotate_left
  · simp only [Act.put, List.setIfInBounds_toArray, List.set_cons_zero, List.set_cons_succ, i64_w, i32_w]
    rfl
  refine pure_ (i := 2) (N := some 56) (v := ?_) (a' := ?_) #[true, true, true, false, false, false, false, false, false, false] rfl rfl (by kernel_rfl) (fun _ _ _ h => h) (Or.inl ⟨by rfl, ?_⟩) ?_ ?_
  rotate_left
  · intro w'
    go_simp
    with_reducible rfl
  rotate_left
  · simp only [Act.put, List.setIfInBounds_toArray, List.set_cons_zero, List.set_cons_succ, i64_w, i32_w]
    rfl
  refine pure_ (i := 4) (N := some 58) (v := ?_) (a' := ?_) #[true, true, true, false, true, false, false, false, false, false] rfl rfl (by kernel_rfl) (fun _ _ _ h => h) (Or.inl ⟨by rfl, ?_⟩) ?_ ?_
  rotate_left
  · intro w'
    go_simp
    with_reducible rfl
  rotate_left
  · simp only [Act.put, List.setIfInBounds_toArray, List.set_cons_zero, List.set_cons_succ, i64_w, i32_w]
    rfl
  refine pure_ (i := 5) (N := some 59) (v := ?_) (a' := ?_) #[true, true, true, false, true, true, false, false, false, false] rfl rfl (by kernel_rfl) (fun _ _ _ h => h) (Or.inl ⟨by rfl, ?_⟩) ?_ ?_
  rotate_left
  · intro w'
    go_simp
    with_reducible rfl
  rotate_left
  · simp only [Act.put, List.setIfInBounds_toArray, List.set_cons_zero, List.set_cons_succ, i64_w, i32_w]
    rfl
  refine pure_ (i := 6) (N := some 60) (v := ?_) (a' := ?_) #[true, true, true, false, true, true, true, false, false, false] rfl rfl (by kernel_rfl) (fun _ _ _ h => h) (Or.inl ⟨by rfl, ?_⟩) ?_ ?_
  rotate_left
  · intro w'
    go_simp
    with_reducible rfl
  rotate_left
  · simp only [Act.put, List.setIfInBounds_toArray, List.set_cons_zero, List.set_cons_succ, i64_w, i32_w]
    rfl
  refine take_ (i := 3) (N := some 57) (v := ?_) (a' := ?_) #[true, true, true, true, true, true, true, false, false, false] rfl rfl (by kernel_rfl) (fun _ _ _ h => h) (Or.inl ⟨by rfl, ?_⟩) hHeld ?_ ?_
  rotate_left
  · intro w' s0
    go_simp
    with_reducible rfl
  rotate_left
  · simp only [Act.put, List.setIfInBounds_toArray, List.set_cons_zero, List.set_cons_succ, i64_w, i32_w]
    rfl
  refine take_ (i := 7) (N := some 61) (v := ?_) (a' := ?_) #[true, true, true, true, true, true, true, true, false, false] rfl rfl (by kernel_rfl) (fun _ _ _ h => h) (Or.inl ⟨by rfl, ?_⟩) hHeld ?_ ?_
  rotate_left
  · intro w' s0
    go_simp
    with_reducible rfl
  rotate_left
  · simp only [Act.put, List.setIfInBounds_toArray, List.set_cons_zero, List.set_cons_succ, i64_w, i32_w]
    rfl
  refine pure_ (i := 8) (N := some 62) (v := ?_) (a' := ?_) #[true, true, true, true, true, true, true, true, true, false] rfl rfl (by kernel_rfl) (fun _ _ _ h => h) (Or.inl ⟨by rfl, ?_⟩) ?_ ?_
  rotate_left
  · intro w'
    go_simp
    with_reducible rfl
  rotate_left
  · simp only [Act.put, List.setIfInBounds_toArray, List.set_cons_zero, List.set_cons_succ, i64_w, i32_w]
    rfl
  refine one_ (i := 9) (N := some 63) #[true, true, true, true, true, true, true, true, true, true] rfl rfl (by kernel_rfl) (by decide) (fun K hK => ?_)
  obtain ⟨w8, hr8, hR8, hB8, hg8⟩ := R_copy_run (P := Try.prog) (enc := Value.int .u8) (h1 := fun _ => rfl) (0 : Int) b0 22 22 5 3 Try.underlying22 info5z (.slice (some ⟨g, 0, none⟩) m c) (x0 :: T) T B k (c - 1) ok (Kd.R_drew HR5.out) (Kd.C_drew hC5.out) (by have := hsz5.out; exact Nat.le_of_lt (Nat.lt_of_le_of_lt hb this))
  refine value_ (w1 := w8) (by rfl) rfl (copy_step rfl rfl rfl rfl hr8) ?_
  have HK8 := Aside0.mk (fun (j : Nat) (hj : j < w.heap.size) (hjp : j ≠ p) (hnj : ¬ ok j) => (hg8.block j (Nat.lt_of_lt_of_le hj HB5.out.size) (fun h => hnj (HR5.out.1 j h.symm))).trans (HK5.out j hj hjp))
  have hP8 := Aside0.mk ((hg8.block p hsz5.out (by simpa [Value.ownBlock] using Ne.symm hgp)).trans hP5.out)
  refine hK.out _ _ ((win_cells hP8.out).2.1) (fun hHeld => ?_)
  clear hK K
  refine norm_ (a' := ?_) ?_ ?_
  rotate_left
  · show Act.put _ (some 63) _ = _
    simp only [Act.put, List.setIfInBounds_toArray, List.set_cons_zero, List.set_cons_succ, i64_w, i32_w]
    rfl
  refine done_ (by kernel_rfl) ?_
  obtain ⟨y, hy⟩ : ∃ y, T.take (min k (x0 :: T).length) ++ (x0 :: T).drop (min k (x0 :: T).length) = T ++ [y] := by
    have hk := HK.out
    have e1 : min k (x0 :: T).length = k := by simp only [List.length_cons]; omega
    have e2 : ((x0 :: T).drop k).length = 1 := by simp only [List.length_drop, List.length_cons]; omega
    obtain ⟨y, hy⟩ := List.length_eq_one_iff.1 e2
    exact ⟨y, by rw [e1, hy, List.take_of_length_le (by omega)]⟩
  rw [hy] at hR8
  have HR8 : Aside0 ((Kd.int .u8).R 5 w8 b0 ok (.slice (some ⟨g, 0, none⟩) m c) (T ++ [y])) := ⟨hR8⟩
  have HB8 := Aside0.mk (show Below b0 w w8 from ⟨hB8.os.trans (below_drew HB5.out).os, hB8.tape.trans (below_drew HB5.out).tape, hB8.output.trans (below_drew HB5.out).output, Nat.le_trans (below_drew HB5.out).size hB8.size, fun k hk => (hB8.block k hk).trans ((below_drew HB5.out).block k hk)⟩)
  clear hR8 hr8 hB8 hg8 hy hHeld HR5 HB5 hP5 hC5
  have hY : w8.cell? ⟨g, k, none⟩ = some (.int .u8 y) := by
    have h1 := Kd.R_reads' HR8.out
    obtain ⟨e, _, h2⟩ := h1
    have hk := HK.out
    obtain ⟨ad, e3, hx⟩ := Kd.at_int (xs := T ++ [y]) (e ▸ h2) (k : Int) (by omega) (by simp; omega)
    cases e3
    rw [Int.toNat_natCast] at hx
    have e4 : rd (T ++ [y]) (k : Int) = y := by rw [← hk]; simp [rd]
    rw [e4] at hx
    have e5 : (⟨g, 0, none⟩ : Addr).add k = ⟨g, k, none⟩ := by simp [Addr.add]; omega
    rw [e5] at hx
    exact hx
  have hYf : w8.frozen? ⟨g, k, none⟩ = false := by
    obtain ⟨g', cap', e, _, _, cells, hcell⟩ := Kd.R_form HR8.out (by simp)
    cases e
    exact blk_frozen hcell k
  go_wp2_with fail
  refine start_ (n := 12) (S := fun w' => w'.cell? ⟨p, 0, none⟩ = some (.int .i64 (m : Int)) ∧ w'.cell? ⟨p, 1, none⟩ = some (.slice (some ⟨g, 0, none⟩) m c)) (ds := [11]) #[false, false, false, false, false, false, false, false, false, false, false, false] (by kernel_rfl) rfl rfl ⟨(win_cells hP8.out).1, (win_cells hP8.out).2.1⟩ (fun hHeld => ?_)
  refine pure_ (i := 0) (N := some 64) (v := ?_) (a' := ?_) #[true, false, false, false, false, false, false, false, false, false, false, false] rfl rfl (by kernel_rfl) (fun _ _ _ h => h) (Or.inl ⟨by rfl, ?_⟩) ?_ ?_
  rotate_left
  · intro w'
    go_simp
    with_reducible rfl
  rotate_left
  · simp only [Act.put, List.setIfInBounds_toArray, List.set_cons_zero, List.set_cons_succ, i64_w, i32_w]
    rfl
  refine pure_ (i := 1) (N := some 65) (v := ?_) (a' := ?_) #[true, true, false, false, false, false, false, false, false, false, false, false] rfl rfl (by kernel_rfl) (fun _ _ _ h => h) (Or.inl ⟨by rfl, ?_⟩) ?_ ?_
  rotate_left
  · intro w'
    go_simp
    with_reducible rfl
  rotate_left
  · simp only [Act.put, List.setIfInBounds_toArray, List.set_cons_zero, List.set_cons_succ, i64_w, i32_w]
    rfl
  refine pure_ (i := 2) (N := some 66) (v := ?_) (a' := ?_) #[true, true, true, false, false, false, false, false, false, false, false, false] rfl rfl (by kernel_rfl) (fun _ _ _ h => h) (Or.inl ⟨by rfl, ?_⟩) ?_ ?_
  rotate_left
  · intro w'
    go_simp
    with_reducible rfl
  rotate_left
  · simp only [Act.put, List.setIfInBounds_toArray, List.set_cons_zero, List.set_cons_succ, i64_w, i32_w]
    rfl
  refine pure_ (i := 4) (N := some 68) (v := ?_) (a' := ?_) #[true, true, true, false, true, false, false, false, false, false, false, false] rfl rfl (by kernel_rfl) (fun _ _ _ h => h) (Or.inl ⟨by rfl, ?_⟩) ?_ ?_
  rotate_left
  · intro w'
    go_simp
    with_reducible rfl
  rotate_left
  · simp only [Act.put, List.setIfInBounds_toArray, List.set_cons_zero, List.set_cons_succ, i64_w, i32_w]
    rfl
  refine pure_ (i := 5) (N := some 69) (v := ?_) (a' := ?_) #[true, true, true, false, true, true, false, false, false, false, false, false] rfl rfl (by kernel_rfl) (fun _ _ _ h => h) (Or.inl ⟨by rfl, ?_⟩) ?_ ?_
  rotate_left
  · intro w'
    go_simp
    with_reducible rfl
  rotate_left
  · simp only [Act.put, List.setIfInBounds_toArray, List.set_cons_zero, List.set_cons_succ, i64_w, i32_w]
    rfl
  refine pure_ (i := 6) (N := some 70) (v := ?_) (a' := ?_) #[true, true, true, false, true, true, true, false, false, false, false, false] rfl rfl (by kernel_rfl) (fun _ _ _ h => h) (Or.inl ⟨by rfl, ?_⟩) ?_ ?_
  rotate_left
  · intro w'
    go_simp
    with_reducible rfl
  rotate_left
  · simp only [Act.put, List.setIfInBounds_toArray, List.set_cons_zero, List.set_cons_succ, i64_w, i32_w]
    rfl
  refine pure_ (i := 9) (N := some 73) (v := ?_) (a' := ?_) #[true, true, true, false, true, true, true, false, false, true, false, false] rfl rfl (by kernel_rfl) (fun _ _ _ h => h) (Or.inl ⟨by rfl, ?_⟩) ?_ ?_
  rotate_left
  · intro w'
    go_simp
    with_reducible rfl
  rotate_left
  · simp only [Act.put, List.setIfInBounds_toArray, List.set_cons_zero, List.set_cons_succ, i64_w, i32_w]
    rfl
  refine take_ (i := 3) (N := some 67) (v := ?_) (a' := ?_) #[true, true, true, true, true, true, true, false, false, true, false, false] rfl rfl (by kernel_rfl) (fun _ _ _ h => h) (Or.inl ⟨by rfl, ?_⟩) hHeld ?_ ?_
  rotate_left
  · rintro w' ⟨s0, s1⟩
    go_simp
    with_reducible rfl
  rotate_left
  · simp only [Act.put, List.setIfInBounds_toArray, List.set_cons_zero, List.set_cons_succ, i64_w, i32_w]
    rfl
  refine take_ (i := 7) (N := some 71) (v := ?_) (a' := ?_) #[true, true, true, true, true, true, true, true, false, true, false, false] rfl rfl (by kernel_rfl) (fun _ _ _ h => h) (Or.inl ⟨by rfl, ?_⟩) hHeld ?_ ?_
  rotate_left
  · rintro w' ⟨s0, s1⟩
    go_simp
    with_reducible rfl
  rotate_left
  · simp only [Act.put, List.setIfInBounds_toArray, List.set_cons_zero, List.set_cons_succ, i64_w, i32_w]
    rfl
  refine pure_ (i := 8) (N := some 72) (v := ?_) (a' := ?_) #[true, true, true, true, true, true, true, true, true, true, false, false] rfl rfl (by kernel_rfl) (fun _ _ _ h => h) (Or.inl ⟨by rfl, ?_⟩) ?_ ?_
  rotate_left
  · intro w'
    go_simp
    with_reducible rfl
  rotate_left
  · simp only [Act.put, List.setIfInBounds_toArray, List.set_cons_zero, List.set_cons_succ, i64_w, i32_w]
    rfl
  refine pure_ (i := 10) (N := some 74) (v := ?_) (a' := ?_) #[true, true, true, true, true, true, true, true, true, true, true, false] rfl rfl (by kernel_rfl) (fun _ _ _ h => h) (Or.inl ⟨by rfl, ?_⟩) ?_ ?_
  rotate_left
  · intro w'
    go_simp
    with_reducible rfl
  rotate_left
  · simp only [Act.put, List.setIfInBounds_toArray, List.set_cons_zero, List.set_cons_succ, i64_w, i32_w]
    rfl
  refine last_ (i := 11) (N := none) #[true, true, true, true, true, true, true, true, true, true, true, true] rfl rfl (by kernel_rfl) (by decide) (fun K hK => ?_)
  refine skip_ (w1 := ?_) (by rfl) rfl ?_ ?_
  rotate_left
  · go_simp
    rfl
  refine hK.out _ _ ?_
  clear hK K
  refine done_ (by kernel_rfl) ?_
  have hP9 : Aside0 ((w8.setCell ⟨g, k, none⟩ (.int .u8 c0)).drew.heap[p]? = some (.cells #[.int .i64 (m : Int), .slice (some ⟨g, 0, none⟩) m c, .int .u32 s1] 58 (0, 0))) := ⟨blk_far hP8.out (p := ⟨g, k, none⟩) (Ne.symm hgp) _⟩
  have HR9 : Aside0 ((Kd.int .u8).R 5 (w8.setCell ⟨g, k, none⟩ (.int .u8 c0)).drew b0 ok (.slice (some ⟨g, 0, none⟩) m c) (T ++ [c0])) := ⟨by
    have h := Kd.R_putn (enc := Value.int .u8) (h1 := fun _ => rfl) HR8.out (k : Int) c0
    rw [Int.toNat_natCast, show (T ++ [y]).set k c0 = T ++ [c0] by rw [← HK.out]; simp] at h
    exact Kd.R_drew h⟩
  have HK9 : Aside0 (∀ j, j < w.heap.size → j ≠ p → ¬ ok j → (w8.setCell ⟨g, k, none⟩ (.int .u8 c0)).drew.heap[j]? = w.heap[j]?) := ⟨fun j hj hjp hnj => (Below.heap_setCell w8 ⟨g, k, none⟩ (.int .u8 c0) j (fun h => hnj (h ▸ HR8.out.1 g rfl))).trans (HK8.out j hj hjp hnj)⟩
  have HB9 : Aside0 (Below b0 w (w8.setCell ⟨g, k, none⟩ (.int .u8 c0)).drew) := ⟨below_drew (Below.setCell HB8.out (p := ⟨g, k, none⟩) (Kd.R_base HR8.out g rfl) _)⟩
  clear hHeld hY hYf HR8 HB8 hP8
  generalize (w8.setCell ⟨g, k, none⟩ (.int .u8 c0)).drew = w9 at HK9 hP9 HR9 HB9 ⊢
  have q9 := (win_cells hP9.out).2.2
  go_wp2
  go_ret
  exact ⟨rfl, HB9.out, HK9.out, hP9.out, HR9.out⟩
theorem win_PushO.step (ok : Nat → Prop) (b0 p : Nat) (n m c : Nat) (A : Option Addr) (L L' : List Int) (s c0 s1 : Int) (w : World)
    (hP : w.heap[p]? = some (.cells #[.int .i64 (n : Int), .slice A m c, .int .u32 s] 58 (0, 0))) (hR : (Kd.int .u8).R 5 w b0 ok (.slice A m c) L) (hok : ∀ j, ok j → j ≠ p) (hfr : ∀ j, w.heap.size ≤ j → ok j) (hb : b0 ≤ p)
    (hm : m = L.length) (hn1 : 1 ≤ n) (hn2 : n ≤ 65536) (h : (m < n ∧ L' = L ++ [c0] ∧ roll_In.f s m c0 = some s1) ∨ (m = n ∧ L' = L.drop 1 ++ [c0] ∧ roll_Roll.f s m (rd L 0) c0 = some s1)) :
    Calls Try.prog 22 #[.pointer (some ⟨p, 0, none⟩), .int .u8 c0] w fun e w' => e = .returned (.int .u32 s1) ∧ Below b0 w w' ∧ (∀ j, j < w.heap.size → j ≠ p → ¬ ok j → w'.heap[j]? = w.heap[j]?) ∧
      ∃ A' m' c', m' = L'.length ∧ w'.heap[p]? = some (.cells #[.int .i64 (n : Int), .slice A' m' c', .int .u32 s1] 58 (0, 0)) ∧ (Kd.int .u8).R 5 w' b0 ok (.slice A' m' c') L' := by
  rcases h with ⟨h1, rfl, h3⟩ | ⟨h1, rfl, h3⟩
  · exact win_PushO.more ok b0 p (n : Int) A m c L s c0 s1 w hP hR hok hfr hb hm (beq_eq_false_iff_ne.mpr (by omega)) (by omega) h3
  · subst h1
    obtain ⟨g, cap, hv, _⟩ := Kd.R_form hR (by omega)
    have hA : A = some ⟨g, 0, none⟩ := by injection hv
    subst hA
    match L, hm with
    | [], hm => exact absurd (show m = 0 from hm) (by omega)
    | x0 :: T, hm =>
      have hm' : m = T.length + 1 := by simpa using hm
      refine (win_PushO.full ok b0 p g m c T.length x0 T s c0 s1 w hP hR hok hfr hb hm' rfl (by omega) h3).mono ?_
      rintro e w' ⟨h4, h5, h5', h6, h7⟩
      exact ⟨h4, h5, h5', _, m, c, by simp [hm'], h6, h7⟩

theorem win_Clear.at_ (p : Nat) (n s : Int) (v : Value) (w : World) (hP : w.heap[p]? = some (.cells #[.int .i64 n, v, .int .u32 s] 58 (0, 0))) (hv : ∃ A m c, v = .slice A m c) :
    Calls Try.prog 27 #[.pointer (some ⟨p, 0, none⟩)] w fun e w' => e = .returned (.tuple #[]) ∧ w' = (w.setCell ⟨p, 1, none⟩ (.slice none 0 0)).setCell ⟨p, 2, none⟩ (.int .u32 0) := by
  obtain ⟨A, m, c, rfl⟩ := hv
  have q1 := (win_cells hP).2.1
  have q2 := (win_cells hP).2.2
  have f1 := blk_frozen hP 1
  have f2 := blk_frozen hP 2
  clear hP
  go_enter Try.func27, Try.ntmps27
  go_wp2
  refine bodyPost_end (results_none rfl _ _ _) rfl ?_
  exact ⟨rfl, rfl⟩
theorem ref_cells {w : World} {p : Nat} {n : Int} {v : Value} (h : w.heap[p]? = some (.cells #[.int .i64 n, v] 60 (0, 0))) :
    w.cell? ⟨p, 0, none⟩ = some (.int .i64 n) ∧ w.cell? ⟨p, 1, none⟩ = some v := by
  refine ⟨?_, ?_⟩ <;> rw [cell_of_row w p _ _ 60 (0, 0) h] <;> rfl
theorem ref_Clear.at_ (p : Nat) (n : Int) (v : Value) (w : World) (hP : w.heap[p]? = some (.cells #[.int .i64 n, v] 60 (0, 0))) (hv : ∃ A m c, v = .slice A m c) :
    Calls Try.prog 28 #[.pointer (some ⟨p, 0, none⟩)] w fun e w' => e = .returned (.tuple #[]) ∧ w' = w.setCell ⟨p, 1, none⟩ (.slice none 0 0) := by
  obtain ⟨A, m, c, rfl⟩ := hv
  have q1 := (ref_cells hP).2
  have f1 := blk_frozen hP 1
  clear hP
  go_enter Try.func28, Try.ntmps28
  go_wp2
  refine bodyPost_end (results_none rfl _ _ _) rfl ?_
  exact ⟨rfl, rfl⟩
theorem ref_New.bad (n : Int) (w : World) (h : (decide (n < 1) || decide (n > 65536)) = true) : Calls Try.prog 26 #[.int .i64 n] w fun e w' => e = .returned (.tuple #[.pointer none, .int .i64 2]) ∧ w' = w := by
  have h' : n < 1 ∨ 65536 < n := by simpa using h
  by_cases h1 : n < 1
  · have e1 : decide (n < 1) = true := decide_eq_true h1
    go_enter Try.func26, Try.ntmps26
    go_wp2
    go_ret2
    exact ⟨rfl, rfl⟩
  · have e1 : decide (n < 1) = false := decide_eq_false h1
    have e2 : decide (65536 < n) = true := decide_eq_true (by omega)
    go_enter Try.func26, Try.ntmps26
    go_wp2
    go_ret2
    exact ⟨rfl, rfl⟩
theorem ref_New.made (n : Int) (w : World) (h1 : 1 ≤ n) (h2 : n ≤ 65536) : Calls Try.prog 26 #[.int .i64 n] w fun e w' => e = .returned (.tuple #[.pointer (some ⟨w.heap.size, 0, none⟩), .int .i64 0]) ∧ w' = w.alloc (.cells #[.int .i64 n, .slice none 0 0] 60) := by
  have e1 : decide (n < 1) = false := decide_eq_false (by omega)
  have e2 : decide (65536 < n) = false := decide_eq_false (by omega)
  go_enter Try.func26, Try.ntmps26
  go_wp2
  go_ret2
  exact ⟨rfl, rfl⟩
theorem ref_Full.at_ (p : Nat) (n : Int) (A : Option Addr) (m c : Nat) (b : Bool) (w : World) (h0 : w.cell? ⟨p, 0, none⟩ = some (.int .i64 n)) (h1 : w.cell? ⟨p, 1, none⟩ = some (.slice A m c)) (hb : ((m : Int) == n) = b) :
    Calls Try.prog 34 #[.pointer (some ⟨p, 0, none⟩)] w fun e w' => e = .returned (.bool b) ∧ Drawn0 w w' := by
  subst hb
  go_enter Try.func34, Try.ntmps34
  go_wp2
  refine start_ (n := 15) (S := fun w' => w'.cell? ⟨p, 0, none⟩ = some (.int .i64 n) ∧ w'.cell? ⟨p, 1, none⟩ = some (.slice A m c)) (ds := []) #[false, false, false, false, false, false, false, false, false, false, false, false, false, false, false] (by kernel_rfl) rfl rfl ⟨h0, h1⟩ (fun hHeld => ?_)
  refine pure_ (i := 0) (N := some 3) (v := ?_) (a' := ?_) #[true, false, false, false, false, false, false, false, false, false, false, false, false, false, false] rfl rfl (by kernel_rfl) (fun _ _ _ h => h) (Or.inl ⟨by rfl, ?_⟩) ?_ ?_
  rotate_left
  · intro w'
    go_simp
    with_reducible rfl
  rotate_left
  · simp only [Act.put, List.setIfInBounds_toArray, List.set_cons_zero, List.set_cons_succ, i64_w, i32_w]
    rfl
  refine pure_ (i := 1) (N := some 4) (v := ?_) (a' := ?_) #[true, true, false, false, false, false, false, false, false, false, false, false, false, false, false] rfl rfl (by kernel_rfl) (fun _ _ _ h => h) (Or.inl ⟨by rfl, ?_⟩) ?_ ?_
  rotate_left
  · intro w'
    go_simp
    with_reducible rfl
  rotate_left
  · simp only [Act.put, List.setIfInBounds_toArray, List.set_cons_zero, List.set_cons_succ, i64_w, i32_w]
    rfl
  refine pure_ (i := 2) (N := some 5) (v := ?_) (a' := ?_) #[true, true, true, false, false, false, false, false, false, false, false, false, false, false, false] rfl rfl (by kernel_rfl) (fun _ _ _ h => h) (Or.inl ⟨by rfl, ?_⟩) ?_ ?_
  rotate_left
  · intro w'
    go_simp
    with_reducible rfl
  rotate_left
  · simp only [Act.put, List.setIfInBounds_toArray, List.set_cons_zero, List.set_cons_succ, i64_w, i32_w]
    rfl
  refine pure_ (i := 3) (N := some 6) (v := ?_) (a' := ?_) #[true, true, true, true, false, false, false, false, false, false, false, false, false, false, false] rfl rfl (by kernel_rfl) (fun _ _ _ h => h) (Or.inl ⟨by rfl, ?_⟩) ?_ ?_
  rotate_left
  · intro w'
    go_simp
    with_reducible rfl
  rotate_left
  · simp only [Act.put, List.setIfInBounds_toArray, List.set_cons_zero, List.set_cons_succ, i64_w, i32_w]
    rfl
  refine pure_ (i := 4) (N := some 7) (v := ?_) (a' := ?_) #[true, true, true, true, true, false, false, false, false, false, false, false, false, false, false] rfl rfl (by kernel_rfl) (fun _ _ _ h => h) (Or.inl ⟨by rfl, ?_⟩) ?_ ?_
  rotate_left
  · intro w'
    go_simp
    with_reducible rfl
  rotate_left
  · simp only [Act.put, List.setIfInBounds_toArray, List.set_cons_zero, List.set_cons_succ, i64_w, i32_w]
    rfl
  refine pure_ (i := 5) (N := some 8) (v := ?_) (a' := ?_) #[true, true, true, true, true, true, false, false, false, false, false, false, false, false, false] rfl rfl (by kernel_rfl) (fun _ _ _ h => h) (Or.inl ⟨by rfl, ?_⟩) ?_ ?_
  rotate_left
  · intro w'
    go_simp
    with_reducible rfl
  rotate_left
  · simp only [Act.put, List.setIfInBounds_toArray, List.set_cons_zero, List.set_cons_succ, i64_w, i32_w]
    rfl
  refine pure_ (i := 8) (N := some 11) (v := ?_) (a' := ?_) #[true, true, true, true, true, true, false, false, true, false, false, false, false, false, false] rfl rfl (by kernel_rfl) (fun _ _ _ h => h) (Or.inl ⟨by rfl, ?_⟩) ?_ ?_
  rotate_left
  · intro w'
    go_simp
    with_reducible rfl
  rotate_left
  · simp only [Act.put, List.setIfInBounds_toArray, List.set_cons_zero, List.set_cons_succ, i64_w, i32_w]
    rfl
  refine pure_ (i := 9) (N := some 12) (v := ?_) (a' := ?_) #[true, true, true, true, true, true, false, false, true, true, false, false, false, false, false] rfl rfl (by kernel_rfl) (fun _ _ _ h => h) (Or.inl ⟨by rfl, ?_⟩) ?_ ?_
  rotate_left
  · intro w'
    go_simp
    with_reducible rfl
  rotate_left
  · simp only [Act.put, List.setIfInBounds_toArray, List.set_cons_zero, List.set_cons_succ, i64_w, i32_w]
    rfl
  refine pure_ (i := 10) (N := some 13) (v := ?_) (a' := ?_) #[true, true, true, true, true, true, false, false, true, true, true, false, false, false, false] rfl rfl (by kernel_rfl) (fun _ _ _ h => h) (Or.inl ⟨by rfl, ?_⟩) ?_ ?_
  rotate_left
  · intro w'
    go_simp
    with_reducible rfl
  rotate_left
  · simp only [Act.put, List.setIfInBounds_toArray, List.set_cons_zero, List.set_cons_succ, i64_w, i32_w]
    rfl
  refine take_ (i := 6) (N := some 9) (v := ?_) (a' := ?_) #[true, true, true, true, true, true, true, false, true, true, true, false, false, false, false] rfl rfl (by kernel_rfl) (fun _ _ _ h => h) (Or.inl ⟨by rfl, ?_⟩) hHeld ?_ ?_
  rotate_left
  · rintro w' ⟨s0, s1⟩
    go_simp
    with_reducible rfl
  rotate_left
  · simp only [Act.put, List.setIfInBounds_toArray, List.set_cons_zero, List.set_cons_succ, i64_w, i32_w]
    rfl
  refine pure_ (i := 7) (N := some 10) (v := ?_) (a' := ?_) #[true, true, true, true, true, true, true, true, true, true, true, false, false, false, false] rfl rfl (by kernel_rfl) (fun _ _ _ h => h) (Or.inl ⟨by rfl, ?_⟩) ?_ ?_
  rotate_left
  · intro w'
    go_simp
    with_reducible rfl
  rotate_left
  · simp only [Act.put, List.setIfInBounds_toArray, List.set_cons_zero, List.set_cons_succ, i64_w, i32_w]
    rfl
  refine take_ (i := 11) (N := some 14) (v := ?_) (a' := ?_) #[true, true, true, true, true, true, true, true, true, true, true, true, false, false, false] rfl rfl (by kernel_rfl) (fun _ _ _ h => h) (Or.inl ⟨by rfl, ?_⟩) hHeld ?_ ?_
  rotate_left
  · rintro w' ⟨s0, s1⟩
    go_simp
    with_reducible rfl
  rotate_left
  · simp only [Act.put, List.setIfInBounds_toArray, List.set_cons_zero, List.set_cons_succ, i64_w, i32_w]
    rfl
  refine pure_ (i := 12) (N := some 15) (v := ?_) (a' := ?_) #[true, true, true, true, true, true, true, true, true, true, true, true, true, false, false] rfl rfl (by kernel_rfl) (fun _ _ _ h => h) (Or.inl ⟨by rfl, ?_⟩) ?_ ?_
  rotate_left
  · intro w'
    go_simp
    with_reducible rfl
  rotate_left
  · simp only [Act.put, List.setIfInBounds_toArray, List.set_cons_zero, List.set_cons_succ, i64_w, i32_w]
    rfl
  refine pure_ (i := 13) (N := some 16) (v := ?_) (a' := ?_) #[true, true, true, true, true, true, true, true, true, true, true, true, true, true, false] rfl rfl (by kernel_rfl) (fun _ _ _ h => h) (Or.inl ⟨by rfl, ?_⟩) ?_ ?_
  rotate_left
  · intro w'
    go_simp
    with_reducible rfl
  rotate_left
  · simp only [Act.put, List.setIfInBounds_toArray, List.set_cons_zero, List.set_cons_succ, i64_w, i32_w]
    rfl
  refine pure_ (i := 14) (N := some 2) (v := ?_) (a' := ?_) #[true, true, true, true, true, true, true, true, true, true, true, true, true, true, true] rfl rfl (by kernel_rfl) (fun _ _ _ h => h) (Or.inl ⟨by rfl, ?_⟩) ?_ ?_
  rotate_left
  · intro w'
    go_simp
    with_reducible rfl
  rotate_left
  · simp only [Act.put, List.setIfInBounds_toArray, List.set_cons_zero, List.set_cons_succ, i64_w, i32_w]
    rfl
  refine done_ (by kernel_rfl) ?_
  go_wp2
  go_ret
  exact ⟨rfl, by repeat (first | exact Drawn0.refl _ | apply Drawn0.step)⟩
theorem ref_Len.at_ (p : Nat) (A : Option Addr) (m c : Nat) (w : World) (h1 : w.cell? ⟨p, 1, none⟩ = some (.slice A m c)) :
    Calls Try.prog 33 #[.pointer (some ⟨p, 0, none⟩)] w fun e w' => e = .returned (.int .i64 m) ∧ w' = w := by
  go_enter Try.func33, Try.ntmps33
  go_wp2
  go_ret
  exact ⟨rfl, rfl⟩
theorem ref_Bytes.at_ (p : Nat) (A : Option Addr) (m c : Nat) (w : World) (h1 : w.cell? ⟨p, 1, none⟩ = some (.slice A m c)) :
    Calls Try.prog 35 #[.pointer (some ⟨p, 0, none⟩)] w fun e w' => e = .returned (.slice A m c) ∧ w' = w := by
  go_enter Try.func35, Try.ntmps35
  go_wp2
  go_ret
  exact ⟨rfl, rfl⟩
theorem refOf_at (k : Nat) (A : Option Addr) (n c : Nat) (l : List Int) (r : Int) (w : World) (hC : Kd.C (Kd.int .u8) w A n l) (hn : l.length = n ∧ n ≤ c) (h : remoraref04_Of.f k l = some r) :
    Calls Try.prog 11 #[.slice A n c] w fun e w' => e = .returned (.int .u32 r) ∧ Below w.heap.size w w' := by
  obtain ⟨rfl, hc⟩ := hn
  refine (remoraref04_Of.calls k A c l r w hC hc h).mono ?_
  rintro e w' ⟨rfl, hd⟩
  exact ⟨rfl, hd.below⟩
theorem ref_Sum.at_ (k p : Nat) (A : Option Addr) (m c : Nat) (L : List Int) (r : Int) (w : World) (h1 : w.cell? ⟨p, 1, none⟩ = some (.slice A m c)) (hC : Kd.C (Kd.int .u8) w A m L) (hn : L.length = m ∧ m ≤ c) (h : remoraref04_Of.f k L = some r) :
    Calls Try.prog 32 #[.pointer (some ⟨p, 0, none⟩)] w fun e w' => e = .returned (.int .u32 r) ∧ Below w.heap.size w w' := by
  have HC := Aside0.mk hC
  have HN := Aside0.mk hn
  clear hC hn
  go_enter Try.func32, Try.ntmps32
  go_wp2_with fail
  refine (refOf_at k A m c L r w HC.out HN.out h).mono ?_
  rintro e w1 ⟨rfl, hd⟩
  go_wp2
  go_ret
  exact ⟨rfl, hd⟩
theorem ref_cut (g m c : Nat) (hm : 1 ≤ m) : ∀ W : World, (Instr.slice 22 (.slice (some ⟨g, 0, none⟩) m c) (some (.int .i64 1)) none none).run Try.prog W = .ok (.slice (if c = 1 then (some ⟨g, 0, none⟩ : Option Addr) else some ⟨g, 1, none⟩) (m - 1) (c - 1)) W := by
  intro W
  obtain ⟨i0, hi0, _, hsz0, _⟩ := info_parts info5
  exact cut_from (P := Try.prog) 22 5 .i64 Try.underlying22 hi0 1 hsz0 (some ⟨g, 0, none⟩) m c 1 (by omega) (by omega) W
set_option maxHeartbeats 2000000 in
theorem ref_Push.less (k q : Nat) (n : Int) (B : Option Addr) (mb cb : Nat) (L : List Int) (c0 s1 : Int) (w : World) (hQ : w.heap[q]? = some (.cells #[.int .i64 n, .slice B mb cb] 60 (0, 0))) (hC : Kd.C (Kd.int .u8) w B mb L) (hm : mb ≤ 100000) (hl : L.length ≤ 100000)
    (ht : decide (n < ((L ++ [c0]).length : Int)) = false) (hf : remoraref04_Of.f k (L ++ [c0]) = some s1) :
    Calls Try.prog 31 #[.pointer (some ⟨q, 0, none⟩), .int .u8 c0] w fun e w' => e = .returned (.int .u32 s1) ∧ Below q w w' ∧ (∀ j, j < w.heap.size → j ≠ q → w'.heap[j]? = w.heap[j]?) ∧
      ∃ B' m' cb' h, w'.heap[q]? = some (.cells #[.int .i64 n, .slice B' m' cb'] 60 (0, 0)) ∧ m' = (L ++ [c0]).length ∧ m' ≤ cb' ∧ w.heap.size ≤ h ∧ h < w'.heap.size ∧ ∀ W : World, W.heap[h]? = w'.heap[h]? → Kd.C (Kd.int .u8) W B' m' (L ++ [c0]) := by
  have HQ := Aside0.mk hQ
  have HC := Aside0.mk hC
  have HM := Aside0.mk hm
  have HL := Aside0.mk hl
  have HT := Aside0.mk ht
  have HF := Aside0.mk hf
  have q1 := (ref_cells hQ).2
  clear hQ hC ht hm hl hf
  go_enter Try.func31, Try.ntmps31
  go_wp2_with (first | ((with_reducible refine gate_builtin (b := .append) (xs := #[.tmp 8, .tmp 12]) rfl ?_); (try (refine gate_guard (by rfl) ?_; dsimp only)); at_builtin; refine Kd.R_append_rows (Kd.int .u8) (w0 := w) w.heap.size rfl (.tmp 8) (.tmp 12) 22 5 (.int .u8 0) 1 rfl Try.underlying22 info5 rfl (by decide) (by omega) (.slice none 0 0) ([] : List Int) L B mb cb (fun _ => True) (fun _ => False) rfl rfl ?aO ?aR (fun _ _ h => h) (fun _ h => h.elim) ?aF ?aB ?aS ?aL ?_; (case aR => exact HC.out); (case aB => exact Below.refl _ _); (case aF => exact (fun _ _ => trivial)); (case aO => exact ((Kd.R_nil _ _ _ _ (fun _ => True)))); (case aS => exact Nat.le_refl _); (case aL => have := HM.out; simp only [List.length_nil]; omega); intro v5 w5 ho hb5 hg hat; clear hg hat; rw [List.nil_append] at ho; obtain ⟨A5, c5, rfl⟩ := Kd.R_slice ho; generalize hm5 : L.length = m5 at ho ⊢; replace hm5 := Aside0.mk hm5; have HO5 := Aside0.mk ho; have HB5 := Aside0.mk hb5; clear ho hb5) | ((with_reducible refine gate_builtin (b := .append) (xs := #[.tmp 14, .tmp 16]) rfl ?_); (try (refine gate_guard (by rfl) ?_; dsimp only)); at_builtin; refine Kd.R_append (Kd.int .u8) (w0 := w) w.heap.size rfl (.tmp 14) (.tmp 16) 22 5 (.int .u8 0) 1 rfl Try.underlying22 info5 rfl (by decide) (by omega) (.slice A5 m5 c5) L c0 [.int .u8 c0] (fun _ => True) (fun _ => False) rfl rfl ?aP (fun _ hk => hk.elim) ?aF ?aO ?aB ?aS ?aL ?_; (case aP => exact rfl); (case aB => exact HB5.out); (case aF => exact (fun _ _ => trivial)); (case aO => exact HO5.out); (case aS => exact HB5.out.size); (case aL => have := HL.out; omega); intro v6 w6 ho hb6 hg hat; clear hg hat; obtain ⟨g6, c6, rfl, hg61, hg62, _⟩ := Kd.R_form ho (by simp); generalize hm6 : (L ++ [c0]).length = m6 at ho ⊢; have ht6 : decide (n < (m6 : Int)) = false := (by rw [← hm6]; exact HT.out); replace hm6 := Aside0.mk hm6; have HO6 := Aside0.mk ho; have HB6 := Aside0.mk hb6; have hQ6 := Aside0.mk ((hb6.block q (blk_lt HQ.out)).trans HQ.out); have q6 := (ref_cells hQ6.out).1; have q7 := (ref_cells hQ6.out).2; have f7 := blk_frozen hQ6.out 1; have Hg61 := Aside0.mk hg61; have Hg62 := Aside0.mk hg62; clear ho hb6 hg61 hg62))
  have hq := blk_lt HQ.out
  have hgq : g6 ≠ q := by have := Hg61.out; omega
  have hR6 : ∀ W : World, W.heap[g6]? = w6.heap[g6]? → Kd.C (Kd.int .u8) W (some ⟨g6, 0, none⟩) (L ++ [c0]).length (L ++ [c0]) ∧ (L ++ [c0]).length = m6 ∧ m6 ≤ c6 := fun W h => by
    have h1 := Kd.R_move (w1 := W) (Kd.R_tight rfl HO6.out) (fun k hk => by
      have : k = g6 := by simpa [Value.ownBlock] using hk
      rw [this]; exact h)
    obtain ⟨e, h3, h2⟩ := Kd.R_reads' h1
    exact ⟨e ▸ h2, e.symm, h3⟩
  have hm7 : (L ++ [c0]).length = m6 ∧ m6 ≤ c6 := by
    have h := hR6 w6 rfl
    have e : (L ++ [c0]).length = L.length + 1 := by simp
    have e2 : ((L ++ [c0]).drop 1).length = (L ++ [c0]).length - 1 := by simp
    omega
  have hCW : ∀ W : World, W.heap[g6]? = w6.heap[g6]? → Kd.C (Kd.int .u8) W (some ⟨g6, 0, none⟩) m6 (L ++ [c0]) := fun W h => by
    have h1 := (hR6 W h).1
    rw [← (hR6 W h).2.1] at *
    exact h1
  have hQ7 := Aside0.mk (blk_set hQ6.out 1 (.slice (some ⟨g6, 0, none⟩) m6 c6))
  have hg7 : (w6.setCell ⟨q, 1, none⟩ (.slice (some ⟨g6, 0, none⟩) m6 c6)).heap[g6]? = w6.heap[g6]? := Below.heap_setCell w6 ⟨q, 1, none⟩ _ g6 hgq
  have hK7 : ∀ j, j < w.heap.size → j ≠ q → (w6.setCell ⟨q, 1, none⟩ (.slice (some ⟨g6, 0, none⟩) m6 c6)).heap[j]? = w.heap[j]? := fun j hj hjq => (Below.heap_setCell w6 ⟨q, 1, none⟩ _ j hjq).trans (HB6.out.block j hj)
  have hB7 : Below q w (w6.setCell ⟨q, 1, none⟩ (.slice (some ⟨g6, 0, none⟩) m6 c6)) := Below.setCell (HB6.out.mono (Nat.le_of_lt hq)) (p := ⟨q, 1, none⟩) (Nat.le_refl _) _
  have hz7 : (w6.setCell ⟨q, 1, none⟩ (.slice (some ⟨g6, 0, none⟩) m6 c6)).heap.size = w6.heap.size := by simp [World.setCell]
  generalize (w6.setCell ⟨q, 1, none⟩ (.slice (some ⟨g6, 0, none⟩) m6 c6)) = w7 at hQ7 hg7 hK7 hB7 hz7 ⊢
  refine (refOf_at k (some ⟨g6, 0, none⟩) m6 c6 (L ++ [c0]) s1 w7 (hCW w7 hg7) hm7 HF.out).mono ?_
  rintro e w8 ⟨rfl, hb8⟩
  have hg62 := Hg62.out
  have hsz := HB6.out.size
  have X1 := Aside0.mk (show Below q w w8 from below_then hB7 (by omega) hb8)
  have X2 : Aside0 (∀ j, j < w.heap.size → j ≠ q → w8.heap[j]? = w.heap[j]?) := ⟨fun j hj hjq => (hb8.block j (by omega)).trans (hK7 j hj hjq)⟩
  have X3 := Aside0.mk ((hb8.block q (by omega)).trans hQ7.out)
  have X4 := Aside0.mk (show g6 < w8.heap.size from by have := hb8.size; omega)
  have X5 : Aside0 (∀ W : World, W.heap[g6]? = w8.heap[g6]? → Kd.C (Kd.int .u8) W (some ⟨g6, 0, none⟩) m6 (L ++ [c0])) := ⟨fun W h => hCW W (h.trans ((hb8.block g6 (by omega)).trans hg7))⟩
  have X6 := Aside0.mk hm7
  clear hR6 hCW hg7 hK7 hB7 hz7 hb8 hm7 hQ7 q6 q7 f7 q1
  go_wp2
  go_ret
  exact ⟨rfl, X1.out, X2.out, _, _, _, g6, X3.out, X6.out.1.symm, X6.out.2, Hg61.out, X4.out, X5.out⟩
set_option maxHeartbeats 2000000 in
theorem ref_Push.more (k q : Nat) (n : Int) (B : Option Addr) (mb cb : Nat) (L : List Int) (c0 s1 : Int) (w : World) (hQ : w.heap[q]? = some (.cells #[.int .i64 n, .slice B mb cb] 60 (0, 0))) (hC : Kd.C (Kd.int .u8) w B mb L) (hm : mb ≤ 100000) (hl : L.length ≤ 100000)
    (ht : decide (n < ((L ++ [c0]).length : Int)) = true) (hf : remoraref04_Of.f k ((L ++ [c0]).drop 1) = some s1) :
    Calls Try.prog 31 #[.pointer (some ⟨q, 0, none⟩), .int .u8 c0] w fun e w' => e = .returned (.int .u32 s1) ∧ Below q w w' ∧ (∀ j, j < w.heap.size → j ≠ q → w'.heap[j]? = w.heap[j]?) ∧
      ∃ B' m' cb' h, w'.heap[q]? = some (.cells #[.int .i64 n, .slice B' m' cb'] 60 (0, 0)) ∧ m' = ((L ++ [c0]).drop 1).length ∧ m' ≤ cb' ∧ w.heap.size ≤ h ∧ h < w'.heap.size ∧ ∀ W : World, W.heap[h]? = w'.heap[h]? → Kd.C (Kd.int .u8) W B' m' ((L ++ [c0]).drop 1) := by
  have HQ := Aside0.mk hQ
  have HC := Aside0.mk hC
  have HM := Aside0.mk hm
  have HL := Aside0.mk hl
  have HT := Aside0.mk ht
  have HF := Aside0.mk hf
  have q1 := (ref_cells hQ).2
  clear hQ hC ht hm hl hf
  go_enter Try.func31, Try.ntmps31
  go_wp2_with (first | ((with_reducible refine gate_builtin (b := .append) (xs := #[.tmp 8, .tmp 12]) rfl ?_); (try (refine gate_guard (by rfl) ?_; dsimp only)); at_builtin; refine Kd.R_append_rows (Kd.int .u8) (w0 := w) w.heap.size rfl (.tmp 8) (.tmp 12) 22 5 (.int .u8 0) 1 rfl Try.underlying22 info5 rfl (by decide) (by omega) (.slice none 0 0) ([] : List Int) L B mb cb (fun _ => True) (fun _ => False) rfl rfl ?aO ?aR (fun _ _ h => h) (fun _ h => h.elim) ?aF ?aB ?aS ?aL ?_; (case aR => exact HC.out); (case aB => exact Below.refl _ _); (case aF => exact (fun _ _ => trivial)); (case aO => exact ((Kd.R_nil _ _ _ _ (fun _ => True)))); (case aS => exact Nat.le_refl _); (case aL => have := HM.out; simp only [List.length_nil]; omega); intro v5 w5 ho hb5 hg hat; clear hg hat; rw [List.nil_append] at ho; obtain ⟨A5, c5, rfl⟩ := Kd.R_slice ho; generalize hm5 : L.length = m5 at ho ⊢; replace hm5 := Aside0.mk hm5; have HO5 := Aside0.mk ho; have HB5 := Aside0.mk hb5; clear ho hb5) | ((with_reducible refine gate_builtin (b := .append) (xs := #[.tmp 14, .tmp 16]) rfl ?_); (try (refine gate_guard (by rfl) ?_; dsimp only)); at_builtin; refine Kd.R_append (Kd.int .u8) (w0 := w) w.heap.size rfl (.tmp 14) (.tmp 16) 22 5 (.int .u8 0) 1 rfl Try.underlying22 info5 rfl (by decide) (by omega) (.slice A5 m5 c5) L c0 [.int .u8 c0] (fun _ => True) (fun _ => False) rfl rfl ?aP (fun _ hk => hk.elim) ?aF ?aO ?aB ?aS ?aL ?_; (case aP => exact rfl); (case aB => exact HB5.out); (case aF => exact (fun _ _ => trivial)); (case aO => exact HO5.out); (case aS => exact HB5.out.size); (case aL => have := HL.out; omega); intro v6 w6 ho hb6 hg hat; clear hg hat; obtain ⟨g6, c6, rfl, hg61, hg62, _⟩ := Kd.R_form ho (by simp); generalize hm6 : (L ++ [c0]).length = m6 at ho ⊢; have ht6 : decide (n < (m6 : Int)) = true := (by rw [← hm6]; exact HT.out); replace hm6 := Aside0.mk hm6; have hcut6 := ref_cut g6 m6 c6 (by rw [← hm6.out]; simp); obtain ⟨B6, hB6⟩ : ∃ B6, (if c6 = 1 then (some ⟨g6, 0, none⟩ : Option Addr) else some ⟨g6, 1, none⟩) = B6 := ⟨_, rfl⟩; rw [hB6] at hcut6; replace hB6 := Aside0.mk hB6; have HO6 := Aside0.mk ho; have HB6 := Aside0.mk hb6; have hQ6 := Aside0.mk ((hb6.block q (blk_lt HQ.out)).trans HQ.out); have q6 := (ref_cells hQ6.out).1; have q7 := (ref_cells hQ6.out).2; have f7 := blk_frozen hQ6.out 1; have Hg61 := Aside0.mk hg61; have Hg62 := Aside0.mk hg62; clear ho hb6 hg61 hg62))
  have hq := blk_lt HQ.out
  have hgq : g6 ≠ q := by have := Hg61.out; omega
  have hR6 : ∀ W : World, W.heap[g6]? = w6.heap[g6]? → Kd.C (Kd.int .u8) W (some ⟨g6, 0, none⟩) (L ++ [c0]).length (L ++ [c0]) ∧ (L ++ [c0]).length = m6 ∧ m6 ≤ c6 := fun W h => by
    have h1 := Kd.R_move (w1 := W) (Kd.R_tight rfl HO6.out) (fun k hk => by
      have : k = g6 := by simpa [Value.ownBlock] using hk
      rw [this]; exact h)
    obtain ⟨e, h3, h2⟩ := Kd.R_reads' h1
    exact ⟨e ▸ h2, e.symm, h3⟩
  have hm7 : ((L ++ [c0]).drop 1).length = (m6 - 1) ∧ (m6 - 1) ≤ (c6 - 1) := by
    have h := hR6 w6 rfl
    have e : (L ++ [c0]).length = L.length + 1 := by simp
    have e2 : ((L ++ [c0]).drop 1).length = (L ++ [c0]).length - 1 := by simp
    omega
  have hCW : ∀ W : World, W.heap[g6]? = w6.heap[g6]? → Kd.C (Kd.int .u8) W B6 (m6 - 1) ((L ++ [c0]).drop 1) := fun W h => by
    have h1 := (hR6 W h).1
    have h2 := Kd.C_drop (m := 1) (c := c6) h1 (by simp) (by have := hR6 W h; omega)
    rw [show (if c6 = 1 then (some ⟨g6, 0, none⟩ : Option Addr) else (some ⟨g6, 0, none⟩ : Option Addr).map (·.add (1 * (Kd.int .u8).sz))) = B6 from hB6.out, hm7.1] at h2
    exact h2
  have hQ7 := Aside0.mk (blk_set hQ6.out 1 (.slice B6 (m6 - 1) (c6 - 1)))
  have hg7 : (w6.setCell ⟨q, 1, none⟩ (.slice B6 (m6 - 1) (c6 - 1))).heap[g6]? = w6.heap[g6]? := Below.heap_setCell w6 ⟨q, 1, none⟩ _ g6 hgq
  have hK7 : ∀ j, j < w.heap.size → j ≠ q → (w6.setCell ⟨q, 1, none⟩ (.slice B6 (m6 - 1) (c6 - 1))).heap[j]? = w.heap[j]? := fun j hj hjq => (Below.heap_setCell w6 ⟨q, 1, none⟩ _ j hjq).trans (HB6.out.block j hj)
  have hB7 : Below q w (w6.setCell ⟨q, 1, none⟩ (.slice B6 (m6 - 1) (c6 - 1))) := Below.setCell (HB6.out.mono (Nat.le_of_lt hq)) (p := ⟨q, 1, none⟩) (Nat.le_refl _) _
  have hz7 : (w6.setCell ⟨q, 1, none⟩ (.slice B6 (m6 - 1) (c6 - 1))).heap.size = w6.heap.size := by simp [World.setCell]
  generalize (w6.setCell ⟨q, 1, none⟩ (.slice B6 (m6 - 1) (c6 - 1))) = w7 at hQ7 hg7 hK7 hB7 hz7 ⊢
  refine (refOf_at k B6 (m6 - 1) (c6 - 1) ((L ++ [c0]).drop 1) s1 w7 (hCW w7 hg7) hm7 HF.out).mono ?_
  rintro e w8 ⟨rfl, hb8⟩
  have hg62 := Hg62.out
  have hsz := HB6.out.size
  have X1 := Aside0.mk (show Below q w w8 from below_then hB7 (by omega) hb8)
  have X2 : Aside0 (∀ j, j < w.heap.size → j ≠ q → w8.heap[j]? = w.heap[j]?) := ⟨fun j hj hjq => (hb8.block j (by omega)).trans (hK7 j hj hjq)⟩
  have X3 := Aside0.mk ((hb8.block q (by omega)).trans hQ7.out)
  have X4 := Aside0.mk (show g6 < w8.heap.size from by have := hb8.size; omega)
  have X5 : Aside0 (∀ W : World, W.heap[g6]? = w8.heap[g6]? → Kd.C (Kd.int .u8) W B6 (m6 - 1) ((L ++ [c0]).drop 1)) := ⟨fun W h => hCW W (h.trans ((hb8.block g6 (by omega)).trans hg7))⟩
  have X6 := Aside0.mk hm7
  clear hR6 hCW hg7 hK7 hB7 hz7 hb8 hm7 hQ7 q6 q7 f7 q1
  go_wp2
  go_ret
  exact ⟨rfl, X1.out, X2.out, _, _, _, g6, X3.out, X6.out.1.symm, X6.out.2, Hg61.out, X4.out, X5.out⟩
theorem ref_Push.step (k q n : Nat) (B : Option Addr) (mb cb : Nat) (L L' : List Int) (c0 s1 : Int) (w : World) (hQ : w.heap[q]? = some (.cells #[.int .i64 (n : Int), .slice B mb cb] 60 (0, 0))) (hC : Kd.C (Kd.int .u8) w B mb L) (hm : mb ≤ 100000) (hl : L.length ≤ 100000)
    (hs : (L.length < n ∧ L' = L ++ [c0]) ∨ (L.length = n ∧ 1 ≤ n ∧ L' = L.drop 1 ++ [c0])) (hf : remoraref04_Of.f k L' = some s1) :
    Calls Try.prog 31 #[.pointer (some ⟨q, 0, none⟩), .int .u8 c0] w fun e w' => e = .returned (.int .u32 s1) ∧ Below q w w' ∧ (∀ j, j < w.heap.size → j ≠ q → w'.heap[j]? = w.heap[j]?) ∧
      ∃ B' m' cb' h, w'.heap[q]? = some (.cells #[.int .i64 (n : Int), .slice B' m' cb'] 60 (0, 0)) ∧ m' = L'.length ∧ m' ≤ cb' ∧ w.heap.size ≤ h ∧ h < w'.heap.size ∧ ∀ W : World, W.heap[h]? = w'.heap[h]? → Kd.C (Kd.int .u8) W B' m' L' := by
  have e : (L ++ [c0]).length = L.length + 1 := by simp
  rcases hs with ⟨h1, rfl⟩ | ⟨h1, h2, rfl⟩
  · exact ref_Push.less k q (n : Int) B mb cb L c0 s1 w hQ hC hm hl (decide_eq_false (by omega)) hf
  · have e2 : L.drop 1 ++ [c0] = (L ++ [c0]).drop 1 := by rw [List.drop_append_of_le_length (by omega)]
    rw [e2] at hf ⊢
    exact ref_Push.more k q (n : Int) B mb cb L c0 s1 w hQ hC hm hl (decide_eq_true (by omega)) hf
/-- Two windows in memory: the program's at p holds L, the document's at q holds M. -/
structure WSt (w0 : World) (p q n : Nat) (L M : List Int) (s : Int) (A : Option Addr) (m c : Nat) (B : Option Addr) (mb cb : Nat) (hB : Option Nat) (w : World) : Prop where
  below : Below w0.heap.size w0 w
  p0 : w0.heap.size ≤ p
  pq : p < q
  hP : w.heap[p]? = some (.cells #[.int .i64 (n : Int), .slice A m c, .int .u32 s] 58 (0, 0))
  hQ : w.heap[q]? = some (.cells #[.int .i64 (n : Int), .slice B mb cb] 60 (0, 0))
  hR : (Kd.int .u8).R 5 w p (fun k => k ≠ p ∧ k ≠ q ∧ hB ≠ some k) (.slice A m c) L
  hH : ∀ k, hB = some k → k < w.heap.size ∧ k ≠ p ∧ k ≠ q
  hF : ∀ W : World, (∀ k, hB = some k → W.heap[k]? = w.heap[k]?) → Kd.C (Kd.int .u8) W B mb M
  hm : m = L.length
  hmb : M.length = mb
  hcb : mb ≤ cb
theorem WSt.step {w0 : World} {p q n : Nat} {L M : List Int} {s : Int} {A : Option Addr} {m c : Nat} {B : Option Addr} {mb cb : Nat} {hB : Option Nat} {w w' : World} (h : WSt w0 p q n L M s A m c B mb cb hB w) (hb : Below w.heap.size w w') : WSt w0 p q n L M s A m c B mb cb hB w' :=
  ⟨below_step h.below hb, h.p0, h.pq, (hb.block p (blk_lt h.hP)).trans h.hP, (hb.block q (blk_lt h.hQ)).trans h.hQ, Kd.R_below h.hR hb,
    fun k e => ⟨Nat.lt_of_lt_of_le (h.hH k e).1 hb.size, (h.hH k e).2⟩, fun W hW => h.hF W (fun k e => (hW k e).trans (hb.block k (h.hH k e).1)), h.hm, h.hmb, h.hcb⟩
theorem WSt.push {w0 : World} {p q n : Nat} {L M : List Int} {s : Int} {A : Option Addr} {m c : Nat} {B : Option Addr} {mb cb : Nat} {hB : Option Nat} {w : World} (h : WSt w0 p q n L M s A m c B mb cb hB w) (L' : List Int) (c0 s1 : Int) (hn1 : 1 ≤ n) (hn2 : n ≤ 65536)
    (hs : (L.length < n ∧ L' = L ++ [c0] ∧ roll_In.f s m c0 = some s1) ∨ (L.length = n ∧ L' = L.drop 1 ++ [c0] ∧ roll_Roll.f s m (rd L 0) c0 = some s1)) :
    Calls Try.prog 22 #[.pointer (some ⟨p, 0, none⟩), .int .u8 c0] w fun e w' => e = .returned (.int .u32 s1) ∧ ∃ A' m' c', WSt w0 p q n L' M s1 A' m' c' B mb cb hB w' := by
  have hm := h.hm
  refine (win_PushO.step (fun k => k ≠ p ∧ k ≠ q ∧ hB ≠ some k) p p n m c A L L' s c0 s1 w h.hP h.hR (fun k hk => hk.1) (fun k hk => ⟨by have := blk_lt h.hP; omega, by have := blk_lt h.hQ; omega, fun e => by have := (h.hH k e).1; omega⟩) (Nat.le_refl _) hm hn1 hn2 (by rw [← hm] at hs; exact hs)).mono ?_
  rintro e w' ⟨rfl, hb, hk, A', m', c', hm', hP', hR'⟩
  have hpq := h.pq
  refine ⟨rfl, A', m', c', h.below.trans (hb.mono h.p0), h.p0, h.pq, hP', (hk q (blk_lt h.hQ) (by omega) (fun x => x.2.1 rfl)).trans h.hQ, hR', fun k e => ⟨Nat.lt_of_lt_of_le (h.hH k e).1 hb.size, (h.hH k e).2⟩,
    fun W hW => h.hF W (fun k e => (hW k e).trans (hk k (h.hH k e).1 (h.hH k e).2.1 (fun x => x.2.2 e))), hm', h.hmb, h.hcb⟩
theorem WSt.ref {w0 : World} {p q n : Nat} {L M : List Int} {s : Int} {A : Option Addr} {m c : Nat} {B : Option Addr} {mb cb : Nat} {hB : Option Nat} {w : World} (h : WSt w0 p q n L M s A m c B mb cb hB w) (k : Nat) (M' : List Int) (c0 s1 : Int) (hl : M.length ≤ 100000)
    (hs : (M.length < n ∧ M' = M ++ [c0]) ∨ (M.length = n ∧ 1 ≤ n ∧ M' = M.drop 1 ++ [c0])) (hf : remoraref04_Of.f k M' = some s1) :
    Calls Try.prog 31 #[.pointer (some ⟨q, 0, none⟩), .int .u8 c0] w fun e w' => e = .returned (.int .u32 s1) ∧ ∃ B' mb' cb' hB', WSt w0 p q n L M' s A m c B' mb' cb' hB' w' := by
  refine (ref_Push.step k q n B mb cb M M' c0 s1 w h.hQ (h.hF w (fun _ _ => rfl)) (by have := h.hmb; omega) hl hs hf).mono ?_
  rintro e w' ⟨rfl, hb, hk, B', m', cb', j, hQ', hm', hcb', hj1, hj2, hF'⟩
  have hpq := h.pq
  have hR1 : (Kd.int .u8).R 5 w' p (fun k => k ≠ p ∧ k ≠ q ∧ hB ≠ some k) (.slice A m c) L := Kd.R_step h.hR (fun k ho hlt => hk k hlt ho.2.1)
  refine ⟨rfl, B', m', cb', some j, h.below.trans (hb.mono (Nat.le_trans h.p0 (Nat.le_of_lt hpq))), h.p0, h.pq, (hk p (blk_lt h.hP) (by omega)).trans h.hP, hQ', Kd.R_reok rfl hR1 (fun k e => ?_), fun k e => ?_,
    fun W hW => hF' W (hW j rfl), h.hm, hm'.symm, hcb'⟩
  · have h1 := h.hR.1 k e
    have h2 := Kd.R_lt h.hR k e
    exact ⟨h1.1, h1.2.1, fun e => by injection e with e; omega⟩
  · injection e with e
    subst e
    have := blk_lt h.hP
    have := blk_lt h.hQ
    exact ⟨hj2, by omega, by omega⟩
theorem WSt.clear {w0 : World} {p q n : Nat} {L M : List Int} {s : Int} {A : Option Addr} {m c : Nat} {B : Option Addr} {mb cb : Nat} {hB : Option Nat} {w : World} (h : WSt w0 p q n L M s A m c B mb cb hB w) :
    Calls Try.prog 27 #[.pointer (some ⟨p, 0, none⟩)] w fun e w' => e = .returned (.tuple #[]) ∧ WSt w0 p q n [] M 0 none 0 0 B mb cb hB w' := by
  have hpq := h.pq
  refine (win_Clear.at_ p (n : Int) s _ w h.hP ⟨_, _, _, rfl⟩).mono ?_
  rintro e w' ⟨rfl, rfl⟩
  have hb := (h.below.setCell (p := ⟨p, 1, none⟩) h.p0 (.slice none 0 0)).setCell (p := ⟨p, 2, none⟩) h.p0 (.int .u32 0)
  have hk : ∀ k, k ≠ p → ((w.setCell ⟨p, 1, none⟩ (.slice none 0 0)).setCell ⟨p, 2, none⟩ (.int .u32 0)).heap[k]? = w.heap[k]? := fun k hk => (Below.heap_setCell _ ⟨p, 2, none⟩ _ k hk).trans (Below.heap_setCell _ ⟨p, 1, none⟩ _ k hk)
  have hz : ((w.setCell ⟨p, 1, none⟩ (.slice none 0 0)).setCell ⟨p, 2, none⟩ (.int .u32 0)).heap.size = w.heap.size := by simp [World.setCell]
  refine ⟨rfl, hb, h.p0, h.pq, blk_set (blk_set h.hP 1 _) 2 _, (hk q (by omega)).trans h.hQ, Kd.R_nil _ _ _ _ _, fun k e => ⟨by rw [hz]; exact (h.hH k e).1, (h.hH k e).2⟩, fun W hW => h.hF W (fun k e => (hW k e).trans (hk k (h.hH k e).2.1)), rfl, h.hmb, h.hcb⟩
theorem WSt.refclear {w0 : World} {p q n : Nat} {L M : List Int} {s : Int} {A : Option Addr} {m c : Nat} {B : Option Addr} {mb cb : Nat} {hB : Option Nat} {w : World} (h : WSt w0 p q n L M s A m c B mb cb hB w) :
    Calls Try.prog 28 #[.pointer (some ⟨q, 0, none⟩)] w fun e w' => e = .returned (.tuple #[]) ∧ WSt w0 p q n L [] s A m c none 0 0 none w' := by
  have hpq := h.pq
  refine (ref_Clear.at_ q (n : Int) _ w h.hQ ⟨_, _, _, rfl⟩).mono ?_
  rintro e w' ⟨rfl, rfl⟩
  have hk : ∀ k, k ≠ q → (w.setCell ⟨q, 1, none⟩ (.slice none 0 0)).heap[k]? = w.heap[k]? := fun k hk => Below.heap_setCell _ ⟨q, 1, none⟩ _ k hk
  have hR1 : (Kd.int .u8).R 5 (w.setCell ⟨q, 1, none⟩ (.slice none 0 0)) p (fun k => k ≠ p ∧ k ≠ q ∧ hB ≠ some k) (.slice A m c) L := Kd.R_step h.hR (fun k ho hlt => hk k ho.2.1)
  refine ⟨rfl, h.below.setCell (p := ⟨q, 1, none⟩) (Nat.le_trans h.p0 (Nat.le_of_lt hpq)) _, h.p0, h.pq, (hk p (by omega)).trans h.hP, blk_set h.hQ 1 _, Kd.R_mono hR1 (fun k ho => ⟨ho.1, ho.2.1, by simp⟩), fun k e => by simp at e,
    fun W hW => (Kd.R_reads' (Kd.R_nil (Kd.int .u8) 5 W 0 (fun _ => True))).2.2, h.hm, rfl, Nat.le_refl _⟩


end Go.Proofs.Ytnbekpmkjpjneaa.P
