-- Written by a program of the session (wip/tool/mk.py) out of the translation; Lean checks it.
import Derived.Test.YtmllikjhflnngaaDoorPx0
namespace Go.Proofs.YtmllikjhflnngaaDoor.P
open Go.RowKit Go.Proofs.YtmllikjhflnngaaDoorW.PrintWords Go.Proofs.YtmllikjhflnngaaDoorW.PrintLast Go.Proofs.YtmllikjhflnngaaDoorW.PrintMore
attribute [local go_sem] max2_int min2_int max_two min_two max_three min_three max_four min_four   -- for this text's walks alone
set_option linter.unusedVariables false
set_option linter.unusedSimpArgs false

/-! ### crc_Open: function 16, a contract of my own -/
theorem sealV_eq (s : Int) : sealV s = .agg ((sealL s).map (Value.int .u8)).toArray := rfl
theorem tail_cell {w : World} {a : Addr} {l : List Int} (hC : Kd.C (Kd.int .u8) w (some a) l.length l) (n : Nat) (hn : l.length = n + 4) (i : Nat) (hi : i < 4) : w.cell? ((a.add n).add i) = some (.int .u8 (rd l ((n + i : Nat) : Int))) := by
  obtain ⟨ad, e, hx⟩ := Kd.at_int hC ((n + i : Nat) : Int) (by omega) (by omega)
  cases e
  rw [Addr.add_add]
  rw [Int.toNat_natCast] at hx
  exact hx
theorem crc_seal.at_ (A : Option Addr) (c n : Nat) (l : List Int) (w : World) (hn : l.length = n) (hG : GT w) (hC : Kd.C (Kd.int .u8) w A n l) (hcap : n ≤ c) (hlen : n ≤ 9223372036854775807) :
    Calls Tryd.prog 38 #[.slice A n c] w fun e w' => e = .returned (sealV (crcSum l)) ∧ Below w.heap.size w w' := by
  subst hn
  exact crc_seal.calls A c l w hG hC hcap hlen
set_option maxHeartbeats 1000000 in
theorem crc_Open.bad (a : Addr) (c : Nat) (l : List Int) (n : Nat) (w : World) (hG : GT w) (hC : Kd.C (Kd.int .u8) w (some a) l.length l) (hcap : l.length ≤ c) (hlen : l.length ≤ 9223372036854775807) (hn : l.length = n + 4) (x0 x1 x2 x3 : Int)
    (hx0 : rd l ((n + 0 : Nat) : Int) = x0) (hx1 : rd l ((n + 1 : Nat) : Int) = x1) (hx2 : rd l ((n + 2 : Nat) : Int) = x2) (hx3 : rd l ((n + 3 : Nat) : Int) = x3) (hb : decide (sealL (crcSum (l.take n)) = [x0, x1, x2, x3]) = false) :
    Calls Tryd.prog 16 #[.slice (some a) l.length c] w fun e w' => e = .returned (.tuple #[.slice none 0 0, .int .i64 6]) ∧ Below w.heap.size w w' := by
  have hS : ∀ W : World, Below w.heap.size w W → W.cell? (a.add n) = some (.int .u8 x0) ∧ W.cell? ⟨(a.add n).block, (a.add n).off + 1, none⟩ = some (.int .u8 x1) ∧
      W.cell? ⟨(a.add n).block, (a.add n).off + 2, none⟩ = some (.int .u8 x2) ∧ W.cell? ⟨(a.add n).block, (a.add n).off + 3, none⟩ = some (.int .u8 x3) := by
    intro W hb
    have t := fun i hi => tail_cell (Kd.C_below hC hb) n hn i hi
    subst hx0 hx1 hx2 hx3
    exact ⟨(by have := t 0 (by omega); rwa [Addr.add_zero'] at this), t 1 (by omega), t 2 (by omega), t 3 (by omega)⟩
  obtain ⟨i0, hi0, _, hsz0, _⟩ := info_parts info5_
  have hs1 := cut_to (P := Tryd.prog) 22 5 .i64 Tryd.underlying22 hi0 (some a) (n + 4) c (n : Int) (by omega) (by omega) (by omega)
  have hs2 := cut_from (P := Tryd.prog) 22 5 .i64 Tryd.underlying22 hi0 1 hsz0 (some a) (n + 4) c (n : Int) (by omega) (by omega)
  rw [Int.toNat_natCast] at hs1 hs2
  rw [if_neg (by omega), show n + 4 - n = 4 by omega, Nat.mul_one] at hs2
  have hs3 := fun W : World => run_arrayAt (P := Tryd.prog) W 69 5 4 (some (a.add n)) 4 (c - n) Tryd.underlying69 (Nat.le_refl _)
  have hbin : ∀ W : World, (binOp .neq 69 (sealV (crcSum (l.take n))) (.agg #[.int .u8 x0, .int .u8 x1, .int .u8 x2, .int .u8 x3])).run Tryd.prog W = .ok (.bool true) W := by
    intro W
    have := run_equalIn_ints (P := Tryd.prog) W 9998 69 5 .u8 4 (sealL (crcSum (l.take n))) [x0, x1, x2, x3] Tryd.underlying69 Tryd.underlying5 (by kernel_rfl) rfl rfl
    rw [hb, ← sealV_eq] at this
    unfold sealV at this ⊢
    rw [run_neq_struct]
    rw [show (9998 + 2 : Nat) = 10000 from rfl] at this
    simp only [List.map_cons, List.map_nil] at this
    rw [this]; rfl
  have hgu : ∀ W : World, (eqGuard .neq 69 (.tmp 13) (.tmp 18) (sealV (crcSum (l.take n))) (.agg #[.int .u8 x0, .int .u8 x1, .int .u8 x2, .int .u8 x3])).run Tryd.prog W = .ok () W := fun W => run_guard_agg W 69 _ _ _ _ (by kernel_rfl)
  have HCut : Kd.C (Kd.int .u8) w (some a) n (l.take n) := by
    have h_ := Kd.C_take hC (m := n) (by omega)
    rwa [List.length_take, Nat.min_eq_left (by omega)] at h_
  have HG1 := GT.below hG (below_drew1 (Below.refl _ w))
  have HC1 : Kd.C (Kd.int .u8) w.drew (some a) n (l.take n) := Kd.C_below HCut (below_drew1 (Below.refl _ w))
  have HG := Aside0.mk hG
  have HG1 := Aside0.mk HG1
  have HC1 := Aside0.mk HC1
  have hnc : n ≤ c := by omega
  have hn63 : n ≤ 9223372036854775807 := by omega
  have HC := Aside0.mk HCut
  have HS := Aside0.mk hS
  clear hG hC HCut hS hi0 hsz0 hb hx0 hx1 hx2 hx3
  have hc4 : (n : Int) + 4 ≤ c := by omega
  have hl5 : (n : Int) ≤ 9223372036854775803 := by omega
  have hc0 : (0 : Int) ≤ n := by omega
  have htl : (l.take n).length = n := by rw [List.length_take]; omega
  rw [hn]
  clear hn hcap hlen
  go_enter Tryd.func16, Tryd.ntmps16
  go_wp2
  refine start_ (n := 10) (S := fun w' => w'.cell? (a.add n) = some (.int .u8 x0) ∧ w'.cell? ⟨(a.add n).block, (a.add n).off + 1, none⟩ = some (.int .u8 x1) ∧ w'.cell? ⟨(a.add n).block, (a.add n).off + 2, none⟩ = some (.int .u8 x2) ∧ w'.cell? ⟨(a.add n).block, (a.add n).off + 3, none⟩ = some (.int .u8 x3)) (ds := []) #[false, false, false, false, false, false, false, false, false, false] (by kernel_rfl) rfl rfl ⟨((HS.out _ (below_drew1 (Below.refl _ _))).1), ((HS.out _ (below_drew1 (Below.refl _ _))).2.1), ((HS.out _ (below_drew1 (Below.refl _ _))).2.2.1), ((HS.out _ (below_drew1 (Below.refl _ _))).2.2.2)⟩ (fun hHeld => ?_)
  refine pure_ (i := 0) (N := some 10) (v := ?_) (a' := ?_) #[true, false, false, false, false, false, false, false, false, false] rfl rfl (by kernel_rfl) (fun _ _ _ h => h) (Or.inl ⟨by rfl, ?_⟩) ?_ ?_
  rotate_left
  · intro w'
    go_simp
    with_reducible rfl
  rotate_left
  · simp only [Act.put, List.setIfInBounds_toArray, List.set_cons_zero, List.set_cons_succ, i64_w, i32_w]
    rfl
  refine pure_ (i := 1) (N := some 11) (v := ?_) (a' := ?_) #[true, true, false, false, false, false, false, false, false, false] rfl rfl (by kernel_rfl) (fun _ _ _ h => h) (Or.inl ⟨by rfl, ?_⟩) ?_ ?_
  rotate_left
  · intro w'
    go_simp
    with_reducible rfl
  rotate_left
  · simp only [Act.put, List.setIfInBounds_toArray, List.set_cons_zero, List.set_cons_succ, i64_w, i32_w]
    rfl
  refine pure_ (i := 2) (N := some 12) (v := ?_) (a' := ?_) #[true, true, true, false, false, false, false, false, false, false] rfl rfl (by kernel_rfl) (fun _ _ _ h => h) (Or.inl ⟨by rfl, ?_⟩) ?_ ?_
  rotate_left
  · intro w'
    go_simp
    with_reducible rfl
  rotate_left
  · simp only [Act.put, List.setIfInBounds_toArray, List.set_cons_zero, List.set_cons_succ, i64_w, i32_w]
    rfl
  refine pure_ (i := 4) (N := some 14) (v := ?_) (a' := ?_) #[true, true, true, false, true, false, false, false, false, false] rfl rfl (by kernel_rfl) (fun _ _ _ h => h) (Or.inl ⟨by rfl, ?_⟩) ?_ ?_
  rotate_left
  · intro w'
    go_simp
    with_reducible rfl
  rotate_left
  · simp only [Act.put, List.setIfInBounds_toArray, List.set_cons_zero, List.set_cons_succ, i64_w, i32_w]
    rfl
  refine pure_ (i := 5) (N := some 15) (v := ?_) (a' := ?_) #[true, true, true, false, true, true, false, false, false, false] rfl rfl (by kernel_rfl) (fun _ _ _ h => h) (Or.inl ⟨by rfl, ?_⟩) ?_ ?_
  rotate_left
  · intro w'
    go_simp
    with_reducible rfl
  rotate_left
  · simp only [Act.put, List.setIfInBounds_toArray, List.set_cons_zero, List.set_cons_succ, i64_w, i32_w]
    rfl
  refine pure_ (i := 6) (N := some 16) (v := ?_) (a' := ?_) #[true, true, true, false, true, true, true, false, false, false] rfl rfl (by kernel_rfl) (fun _ _ _ h => h) (Or.inl ⟨by rfl, ?_⟩) ?_ ?_
  rotate_left
  · intro w'
    go_simp
    with_reducible rfl
  rotate_left
  · simp only [Act.put, List.setIfInBounds_toArray, List.set_cons_zero, List.set_cons_succ, i64_w, i32_w]
    rfl
  refine pure_ (i := 7) (N := some 17) (v := ?_) (a' := ?_) #[true, true, true, false, true, true, true, true, false, false] rfl rfl (by kernel_rfl) (fun _ _ _ h => h) (Or.inl ⟨by rfl, ?_⟩) ?_ ?_
  rotate_left
  · intro w'
    go_simp
    with_reducible rfl
  rotate_left
  · simp only [Act.put, List.setIfInBounds_toArray, List.set_cons_zero, List.set_cons_succ, i64_w, i32_w]
    rfl
  refine take_ (i := 8) (N := some 18) (v := ?_) (a' := ?_) #[true, true, true, false, true, true, true, true, true, false] rfl rfl (by kernel_rfl) (fun _ _ _ h => h) (Or.inl ⟨by rfl, ?_⟩) hHeld ?_ ?_
  rotate_left
  · rintro w' ⟨s0, s1, s2, s3⟩
    go_simp
    with_reducible rfl
  rotate_left
  · simp only [Act.put, List.setIfInBounds_toArray, List.set_cons_zero, List.set_cons_succ, i64_w, i32_w]
    rfl
  refine one_ (i := 3) (N := some 13) #[true, true, true, true, true, true, true, true, true, false] rfl rfl (by kernel_rfl) (by decide) (fun K hK => ?_)
  refine goes_ Tryd.func38 (by kernel_rfl) rfl #[.slice (some a) n c] (by rfl) rfl rfl (by simp only [List.map_toArray, List.map_cons, List.map_nil]; rfl) ?_
  with_reducible refine (crc_seal.at_ (some a) c n (l.take n) _ htl HG1.out HC1.out hnc hn63).mono ?_
  rintro e w3 ⟨rfl, hb3⟩
  refine ⟨_, rfl, ?_⟩
  refine hK.out _ _ ⟨((HS.out _ (below_step (below_drew1 (Below.refl _ w)) hb3)).1), ((HS.out _ (below_step (below_drew1 (Below.refl _ w)) hb3)).2.1), ((HS.out _ (below_step (below_drew1 (Below.refl _ w)) hb3)).2.2.1), ((HS.out _ (below_step (below_drew1 (Below.refl _ w)) hb3)).2.2.2)⟩ (fun hHeld => ?_)
  clear hK K
  refine norm_ (a' := ?_) ?_ ?_
  rotate_left
  · show Act.put _ (some 13) _ = _
    simp only [Act.put, List.setIfInBounds_toArray, List.set_cons_zero, List.set_cons_succ, i64_w, i32_w]
    rfl
  refine pure_ (i := 9) (N := some 19) (v := ?_) (a' := ?_) #[true, true, true, true, true, true, true, true, true, true] rfl rfl (by kernel_rfl) (fun _ _ _ h => h) (Or.inl ⟨by rfl, ?_⟩) ?_ ?_
  rotate_left
  · intro w'
    go_simp
    with_reducible rfl
  rotate_left
  · simp only [Act.put, List.setIfInBounds_toArray, List.set_cons_zero, List.set_cons_succ, i64_w, i32_w]
    rfl
  refine done_ (by kernel_rfl) ?_

  go_wp2
  go_ret2
  exact ⟨rfl, below_step (below_drew1 (Below.refl _ w)) hb3⟩
set_option maxHeartbeats 1000000 in
theorem crc_Open.good (a : Addr) (c : Nat) (l : List Int) (n : Nat) (w : World) (hG : GT w) (hC : Kd.C (Kd.int .u8) w (some a) l.length l) (hcap : l.length ≤ c) (hlen : l.length ≤ 140737488355328) (hn : l.length = n + 4) (x0 x1 x2 x3 : Int)
    (hx0 : rd l ((n + 0 : Nat) : Int) = x0) (hx1 : rd l ((n + 1 : Nat) : Int) = x1) (hx2 : rd l ((n + 2 : Nat) : Int) = x2) (hx3 : rd l ((n + 3 : Nat) : Int) = x3) (hb : decide (sealL (crcSum (l.take n)) = [x0, x1, x2, x3]) = true) :
    Calls Tryd.prog 16 #[.slice (some a) l.length c] w fun e w' => ∃ v, e = .returned (.tuple #[v, .int .i64 0]) ∧ Kd.R (Kd.int .u8) 5 w' w.heap.size (fun _ => True) v (l.take n) ∧ Below w.heap.size w w' := by
  have hS : ∀ W : World, Below w.heap.size w W → W.cell? (a.add n) = some (.int .u8 x0) ∧ W.cell? ⟨(a.add n).block, (a.add n).off + 1, none⟩ = some (.int .u8 x1) ∧
      W.cell? ⟨(a.add n).block, (a.add n).off + 2, none⟩ = some (.int .u8 x2) ∧ W.cell? ⟨(a.add n).block, (a.add n).off + 3, none⟩ = some (.int .u8 x3) := by
    intro W hb
    have t := fun i hi => tail_cell (Kd.C_below hC hb) n hn i hi
    subst hx0 hx1 hx2 hx3
    exact ⟨(by have := t 0 (by omega); rwa [Addr.add_zero'] at this), t 1 (by omega), t 2 (by omega), t 3 (by omega)⟩
  obtain ⟨i0, hi0, _, hsz0, _⟩ := info_parts info5_
  have hs1 := cut_to (P := Tryd.prog) 22 5 .i64 Tryd.underlying22 hi0 (some a) (n + 4) c (n : Int) (by omega) (by omega) (by omega)
  have hs2 := cut_from (P := Tryd.prog) 22 5 .i64 Tryd.underlying22 hi0 1 hsz0 (some a) (n + 4) c (n : Int) (by omega) (by omega)
  rw [Int.toNat_natCast] at hs1 hs2
  rw [if_neg (by omega), show n + 4 - n = 4 by omega, Nat.mul_one] at hs2
  have hs3 := fun W : World => run_arrayAt (P := Tryd.prog) W 69 5 4 (some (a.add n)) 4 (c - n) Tryd.underlying69 (Nat.le_refl _)
  have hbin : ∀ W : World, (binOp .neq 69 (sealV (crcSum (l.take n))) (.agg #[.int .u8 x0, .int .u8 x1, .int .u8 x2, .int .u8 x3])).run Tryd.prog W = .ok (.bool false) W := by
    intro W
    have := run_equalIn_ints (P := Tryd.prog) W 9998 69 5 .u8 4 (sealL (crcSum (l.take n))) [x0, x1, x2, x3] Tryd.underlying69 Tryd.underlying5 (by kernel_rfl) rfl rfl
    rw [hb, ← sealV_eq] at this
    unfold sealV at this ⊢
    rw [run_neq_struct]
    rw [show (9998 + 2 : Nat) = 10000 from rfl] at this
    simp only [List.map_cons, List.map_nil] at this
    rw [this]; rfl
  have hgu : ∀ W : World, (eqGuard .neq 69 (.tmp 13) (.tmp 18) (sealV (crcSum (l.take n))) (.agg #[.int .u8 x0, .int .u8 x1, .int .u8 x2, .int .u8 x3])).run Tryd.prog W = .ok () W := fun W => run_guard_agg W 69 _ _ _ _ (by kernel_rfl)
  have HCut : Kd.C (Kd.int .u8) w (some a) n (l.take n) := by
    have h_ := Kd.C_take hC (m := n) (by omega)
    rwa [List.length_take, Nat.min_eq_left (by omega)] at h_
  have HG1 := GT.below hG (below_drew1 (Below.refl _ w))
  have HC1 : Kd.C (Kd.int .u8) w.drew (some a) n (l.take n) := Kd.C_below HCut (below_drew1 (Below.refl _ w))
  have HG := Aside0.mk hG
  have HG1 := Aside0.mk HG1
  have HC1 := Aside0.mk HC1
  have hnc : n ≤ c := by omega
  have hn63 : n ≤ 9223372036854775807 := by omega
  have HC := Aside0.mk HCut
  have HS := Aside0.mk hS
  clear hG hC HCut hS hi0 hsz0 hb hx0 hx1 hx2 hx3
  have hc4 : (n : Int) + 4 ≤ c := by omega
  have hl5 : (n : Int) ≤ 9223372036854775803 := by omega
  have hc0 : (0 : Int) ≤ n := by omega
  have hn47 : n < 140737488355328 := by omega
  have htl : (l.take n).length = n := by rw [List.length_take]; omega
  rw [hn]
  clear hn hcap hlen
  go_enter Tryd.func16, Tryd.ntmps16
  go_wp2
  refine start_ (n := 10) (S := fun w' => w'.cell? (a.add n) = some (.int .u8 x0) ∧ w'.cell? ⟨(a.add n).block, (a.add n).off + 1, none⟩ = some (.int .u8 x1) ∧ w'.cell? ⟨(a.add n).block, (a.add n).off + 2, none⟩ = some (.int .u8 x2) ∧ w'.cell? ⟨(a.add n).block, (a.add n).off + 3, none⟩ = some (.int .u8 x3)) (ds := []) #[false, false, false, false, false, false, false, false, false, false] (by kernel_rfl) rfl rfl ⟨((HS.out _ (below_drew1 (Below.refl _ _))).1), ((HS.out _ (below_drew1 (Below.refl _ _))).2.1), ((HS.out _ (below_drew1 (Below.refl _ _))).2.2.1), ((HS.out _ (below_drew1 (Below.refl _ _))).2.2.2)⟩ (fun hHeld => ?_)
  refine pure_ (i := 0) (N := some 10) (v := ?_) (a' := ?_) #[true, false, false, false, false, false, false, false, false, false] rfl rfl (by kernel_rfl) (fun _ _ _ h => h) (Or.inl ⟨by rfl, ?_⟩) ?_ ?_
  rotate_left
  · intro w'
    go_simp
    with_reducible rfl
  rotate_left
  · simp only [Act.put, List.setIfInBounds_toArray, List.set_cons_zero, List.set_cons_succ, i64_w, i32_w]
    rfl
  refine pure_ (i := 1) (N := some 11) (v := ?_) (a' := ?_) #[true, true, false, false, false, false, false, false, false, false] rfl rfl (by kernel_rfl) (fun _ _ _ h => h) (Or.inl ⟨by rfl, ?_⟩) ?_ ?_
  rotate_left
  · intro w'
    go_simp
    with_reducible rfl
  rotate_left
  · simp only [Act.put, List.setIfInBounds_toArray, List.set_cons_zero, List.set_cons_succ, i64_w, i32_w]
    rfl
  refine pure_ (i := 2) (N := some 12) (v := ?_) (a' := ?_) #[true, true, true, false, false, false, false, false, false, false] rfl rfl (by kernel_rfl) (fun _ _ _ h => h) (Or.inl ⟨by rfl, ?_⟩) ?_ ?_
  rotate_left
  · intro w'
    go_simp
    with_reducible rfl
  rotate_left
  · simp only [Act.put, List.setIfInBounds_toArray, List.set_cons_zero, List.set_cons_succ, i64_w, i32_w]
    rfl
  refine pure_ (i := 4) (N := some 14) (v := ?_) (a' := ?_) #[true, true, true, false, true, false, false, false, false, false] rfl rfl (by kernel_rfl) (fun _ _ _ h => h) (Or.inl ⟨by rfl, ?_⟩) ?_ ?_
  rotate_left
  · intro w'
    go_simp
    with_reducible rfl
  rotate_left
  · simp only [Act.put, List.setIfInBounds_toArray, List.set_cons_zero, List.set_cons_succ, i64_w, i32_w]
    rfl
  refine pure_ (i := 5) (N := some 15) (v := ?_) (a' := ?_) #[true, true, true, false, true, true, false, false, false, false] rfl rfl (by kernel_rfl) (fun _ _ _ h => h) (Or.inl ⟨by rfl, ?_⟩) ?_ ?_
  rotate_left
  · intro w'
    go_simp
    with_reducible rfl
  rotate_left
  · simp only [Act.put, List.setIfInBounds_toArray, List.set_cons_zero, List.set_cons_succ, i64_w, i32_w]
    rfl
  refine pure_ (i := 6) (N := some 16) (v := ?_) (a' := ?_) #[true, true, true, false, true, true, true, false, false, false] rfl rfl (by kernel_rfl) (fun _ _ _ h => h) (Or.inl ⟨by rfl, ?_⟩) ?_ ?_
  rotate_left
  · intro w'
    go_simp
    with_reducible rfl
  rotate_left
  · simp only [Act.put, List.setIfInBounds_toArray, List.set_cons_zero, List.set_cons_succ, i64_w, i32_w]
    rfl
  refine pure_ (i := 7) (N := some 17) (v := ?_) (a' := ?_) #[true, true, true, false, true, true, true, true, false, false] rfl rfl (by kernel_rfl) (fun _ _ _ h => h) (Or.inl ⟨by rfl, ?_⟩) ?_ ?_
  rotate_left
  · intro w'
    go_simp
    with_reducible rfl
  rotate_left
  · simp only [Act.put, List.setIfInBounds_toArray, List.set_cons_zero, List.set_cons_succ, i64_w, i32_w]
    rfl
  refine take_ (i := 8) (N := some 18) (v := ?_) (a' := ?_) #[true, true, true, false, true, true, true, true, true, false] rfl rfl (by kernel_rfl) (fun _ _ _ h => h) (Or.inl ⟨by rfl, ?_⟩) hHeld ?_ ?_
  rotate_left
  · rintro w' ⟨s0, s1, s2, s3⟩
    go_simp
    with_reducible rfl
  rotate_left
  · simp only [Act.put, List.setIfInBounds_toArray, List.set_cons_zero, List.set_cons_succ, i64_w, i32_w]
    rfl
  refine one_ (i := 3) (N := some 13) #[true, true, true, true, true, true, true, true, true, false] rfl rfl (by kernel_rfl) (by decide) (fun K hK => ?_)
  refine goes_ Tryd.func38 (by kernel_rfl) rfl #[.slice (some a) n c] (by rfl) rfl rfl (by simp only [List.map_toArray, List.map_cons, List.map_nil]; rfl) ?_
  with_reducible refine (crc_seal.at_ (some a) c n (l.take n) _ htl HG1.out HC1.out hnc hn63).mono ?_
  rintro e w3 ⟨rfl, hb3⟩
  refine ⟨_, rfl, ?_⟩
  refine hK.out _ _ ⟨((HS.out _ (below_step (below_drew1 (Below.refl _ w)) hb3)).1), ((HS.out _ (below_step (below_drew1 (Below.refl _ w)) hb3)).2.1), ((HS.out _ (below_step (below_drew1 (Below.refl _ w)) hb3)).2.2.1), ((HS.out _ (below_step (below_drew1 (Below.refl _ w)) hb3)).2.2.2)⟩ (fun hHeld => ?_)
  clear hK K
  refine norm_ (a' := ?_) ?_ ?_
  rotate_left
  · show Act.put _ (some 13) _ = _
    simp only [Act.put, List.setIfInBounds_toArray, List.set_cons_zero, List.set_cons_succ, i64_w, i32_w]
    rfl
  refine pure_ (i := 9) (N := some 19) (v := ?_) (a' := ?_) #[true, true, true, true, true, true, true, true, true, true] rfl rfl (by kernel_rfl) (fun _ _ _ h => h) (Or.inl ⟨by rfl, ?_⟩) ?_ ?_
  rotate_left
  · intro w'
    go_simp
    with_reducible rfl
  rotate_left
  · simp only [Act.put, List.setIfInBounds_toArray, List.set_cons_zero, List.set_cons_succ, i64_w, i32_w]
    rfl
  refine done_ (by kernel_rfl) ?_

  have HB3 := Aside0.mk (below_step (below_drew1 (Below.refl _ w)) hb3)
  clear hb3 hHeld
  go_wp2_with ((with_reducible refine gate_builtin (b := .append) (xs := #[.const (.slice none 0 0), .tmp 22]) rfl ?_); (try (refine gate_guard (by rfl) ?_; dsimp only)); at_builtin; refine Kd.R_append_rows (Kd.int .u8) (w0 := w) w.heap.size rfl (.const (.slice none 0 0)) (.tmp 22) 22 5 (.int .u8 0) 1 rfl Tryd.underlying22 info5_ rfl (by decide) (by omega) (.slice none 0 0) ([] : List Int) (l.take n) _ _ _ (fun _ => True) (fun _ => False) rfl rfl ?aO ?aR (fun _ _ h => h) (fun _ h => h.elim) ?aF ?aB ?aS ?aL ?_; (case aR => exact Kd.C_below HC.out HB3.out); (case aB => exact HB3.out); (case aF => exact (fun _ _ => trivial)); (case aO => exact Kd.R_nil _ _ _ _ _); (case aS => exact (below_size HB3.out)); (case aL => simp; omega); intro v2 w4 ho hb hg hat; have HO4 := Aside0.mk ho; have HB4 := Aside0.mk hb; clear ho hb hg hat)
  go_ret2
  exact ⟨_, rfl, HO4.out, HB4.out⟩

theorem crc_Open.small (A : Option Addr) (c : Nat) (l : List Int) (w : World) (hlen : l.length < 4) :
    Calls Tryd.prog 16 #[.slice A l.length c] w fun e w' => e = .returned (.tuple #[.slice none 0 0, .int .i64 4]) ∧ w' = w := by
  have h0 : (l.length : Int) - 4 < 0 := by omega
  have h1 : -4 ≤ (l.length : Int) - 4 := by omega
  go_enter Tryd.func16, Tryd.ntmps16
  go_wp2
  go_ret2
  exact ⟨rfl, rfl⟩
def crc_Open.f (l0 : List Int) : Option (List Int × Int) :=
  if l0.length < 4 then some ([], 4) else if l0.length ≤ 140737488355328 then
    (if l0.drop (l0.length - 4) = sealL (crcSum (l0.take (l0.length - 4))) then some (l0.take (l0.length - 4), 0) else some ([], 6)) else none
theorem four_tail (l : List Int) (n : Nat) (hn : l.length = n + 4) : l.drop n = [rd l ((n + 0 : Nat) : Int), rd l ((n + 1 : Nat) : Int), rd l ((n + 2 : Nat) : Int), rd l ((n + 3 : Nat) : Int)] := by
  apply List.ext_getElem
  · simp; omega
  · intro i h1 h2
    have hi : i < 4 := by simpa using h2
    have e : ∀ j : Nat, j < l.length → rd l (j : Int) = l.getD j 0 := fun j hj => by simp [rd]
    rw [e _ (by omega), e _ (by omega), e _ (by omega), e _ (by omega)]
    have : i = 0 ∨ i = 1 ∨ i = 2 ∨ i = 3 := by omega
    rcases this with rfl | rfl | rfl | rfl <;> (simp [List.getD_eq_getElem?_getD]; rw [List.getElem?_eq_getElem (by omega)]; rfl)
theorem crc_Open.calls (A0 : Option Addr) (c0 : Nat) (l0 : List Int) (r1 : List Int) (r2 : Int) (w : World) (hG : GT w) (hr0 : Kd.C (Kd.int .u8) w A0 l0.length l0) (hc0 : l0.length ≤ c0) (h : crc_Open.f l0 = some (r1, r2)) :
    Calls Tryd.prog 16 #[.slice A0 l0.length c0] w fun e w' => ∃ v0_ : Value, e = .returned (.tuple #[v0_, .int .i64 r2]) ∧ Kd.R (Kd.int .u8) 5 w' w.heap.size (fun _ => True) v0_ r1 ∧ Below w.heap.size w w' := by
  unfold crc_Open.f at h
  by_cases h4 : l0.length < 4
  · rw [if_pos h4] at h
    simp only [Option.some.injEq, Prod.mk.injEq] at h
    obtain ⟨rfl, rfl⟩ := h
    refine (crc_Open.small A0 c0 l0 w h4).mono ?_
    rintro e w' ⟨rfl, rfl⟩
    exact ⟨_, rfl, Kd.R_nil _ _ _ _ _, Below.refl _ _⟩
  · rw [if_neg h4] at h
    by_cases h47 : l0.length ≤ 140737488355328
    · rw [if_pos h47] at h
      obtain ⟨n, hn⟩ : ∃ n, l0.length = n + 4 := ⟨l0.length - 4, by omega⟩
      have hn4 : l0.length - 4 = n := by omega
      obtain ⟨ad, e, _⟩ := Kd.at_int hr0 0 (by omega) (by omega)
      cases e
      rw [hn4, four_tail l0 n hn] at h
      by_cases he : [rd l0 ((n + 0 : Nat) : Int), rd l0 ((n + 1 : Nat) : Int), rd l0 ((n + 2 : Nat) : Int), rd l0 ((n + 3 : Nat) : Int)] = sealL (crcSum (l0.take n))
      · rw [if_pos he] at h
        simp only [Option.some.injEq, Prod.mk.injEq] at h
        obtain ⟨rfl, rfl⟩ := h
        exact crc_Open.good ad c0 l0 n w hG hr0 hc0 h47 hn _ _ _ _ rfl rfl rfl rfl (by simp only [he, decide_true])
      · rw [if_neg he] at h
        simp only [Option.some.injEq, Prod.mk.injEq] at h
        obtain ⟨rfl, rfl⟩ := h
        refine (crc_Open.bad ad c0 l0 n w hG hr0 hc0 (by omega) hn _ _ _ _ rfl rfl rfl rfl (decide_eq_false fun hh => he hh.symm)).mono ?_
        rintro e w' ⟨rfl, hb⟩
        exact ⟨_, rfl, Kd.R_nil _ _ _ _ _, hb⟩
    · rw [if_neg h47] at h
      cases h


-- NOT PRINTED: function 34 (frame_need)

end Go.Proofs.YtmllikjhflnngaaDoor.P
