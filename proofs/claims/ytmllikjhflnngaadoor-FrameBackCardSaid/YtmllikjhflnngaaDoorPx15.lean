-- Written by a program of the session (wip/tool/mk.py) out of the translation; Lean checks it.
import Derived.Test.YtmllikjhflnngaaDoorPx0
import Derived.Test.YtmllikjhflnngaaDoorPx1
import Derived.Test.YtmllikjhflnngaaDoorPx2
import Derived.Test.YtmllikjhflnngaaDoorPx6
import Derived.Test.YtmllikjhflnngaaDoorPx8
import Derived.Test.YtmllikjhflnngaaDoorPx9
import Derived.Test.YtmllikjhflnngaaDoorPx13
namespace Go.Proofs.YtmllikjhflnngaaDoor.P
open Go.RowKit Go.Proofs.YtmllikjhflnngaaDoorW.PrintWords Go.Proofs.YtmllikjhflnngaaDoorW.PrintLast Go.Proofs.YtmllikjhflnngaaDoorW.PrintMore
attribute [local go_sem] max2_int min2_int max_two min_two max_three min_three max_four min_four   -- for this text's walks alone
set_option linter.unusedVariables false
set_option linter.unusedSimpArgs false

/-! ### remoralaw29_FrameBack: function 5, a contract of my own -/
theorem R_sl {w : World} {b0 : Nat} {ok : Nat → Prop} {v : Value} {l : List Int} {e : Nat} (h : (Kd.int .u8).R e w b0 ok v l) : ∃ A c, v = .slice A l.length c ∧ l.length ≤ c ∧ Kd.C (Kd.int .u8) w A l.length l := by
  obtain ⟨A, c, rfl⟩ := Kd.R_slice h
  obtain ⟨_, h2, h3⟩ := Kd.R_reads' h
  exact ⟨A, c, rfl, h2, h3⟩
theorem putN (k : Nat) (A : Option Addr) (n c : Nat) (l : List Int) (x : Int) (r : List Int) (w : World) (hC : Kd.C (Kd.int .u8) w A n l) (hc : n ≤ c) (hn : l.length = n) (h : num_Put.f k l x = some r) :
    Calls Tryd.prog 17 #[.slice A n c, .int .i64 x] w fun e w' => ∃ v0_ : Value, e = .returned (v0_) ∧ Kd.R (Kd.int .u8) 5 w' w.heap.size (fun _ => True) v0_ r ∧ Below w.heap.size w w' := by
  subst hn
  exact num_Put.calls k A c l x r w hC hc h
theorem neq_self_str (s : ByteArray) : (s.toList != s.toList) = false := by simp
set_option maxHeartbeats 4000000 in
set_option maxRecDepth 100000 in
theorem back_true (k : Nat) (A0 : Option Addr) (c0 : Nat) (A : Option Addr) (ca : Nat) (D : Option Addr) (cd : Nat) (kind : Int) (body la lb B O N ALL : List Int) (w : World) (hG : GT w) (hC : Kd.C (Kd.int .u8) w A0 body.length body) (hc0 : body.length ≤ c0)
    (hCa : Kd.C (Kd.int .u8) w A la.length la) (hca : la.length ≤ ca) (hCd : Kd.C (Kd.int .u8) w D lb.length lb) (hcd : lb.length ≤ cd) (hk0 : 0 ≤ kind) (hk1 : kind ≤ 255) (hsum : body.length + la.length + lb.length ≤ 20000)
    (hput : frame_Put.f k kind body = some (B, 0)) (hopen : crc_Open.f B = some (O, 0)) (hnum : num_Put.f k [kind] (body.length : Int) = some N) (hO : N ++ body = O) (hN : N.length ≤ 100) (hBl : B.length ≤ 30000) (hall : (la ++ B) ++ lb = ALL)
    (hg1 : frame_Get.f k ALL (la.length : Int) = some (kind, body, (la.length : Int) + (B.length : Int), 0)) (y : Int) (Y : List Int) (nx h : Int) (hg2 : frame_Get.f k ALL 0 = some (y, Y, nx, h))
    (hend : (h ≠ 0 ∧ y = 0 ∧ Y = [] ∧ nx = 0) ∨ (h = 0 ∧ ∃ Z, frame_Put.f k y Y = some (Z, 0) ∧ 0 ≤ nx ∧ nx ≤ (ALL.length : Int) ∧ Z = ALL.take nx.toNat)) :
    Calls Tryd.prog 5 #[.int .u8 kind, .slice A0 body.length c0, .agg #[.slice A la.length ca, .slice D lb.length cd]] w fun e w' => e = .returned (.bool true) ∧ Below w.heap.size w w' := by
  have HB0 := Aside0.mk (below_alloc (Below.refl _ w) (.cells #[.slice A la.length ca, .slice D lb.length cd] 38))
  have u0 := fr_new w (.cells #[.slice A la.length ca, .slice D lb.length cd] 38)
  have sz0 := fr_size w (.cells #[.slice A la.length ca, .slice D lb.length cd] 38)
  have z0 : (w.alloc (.cells #[.slice A la.length ca, .slice D lb.length cd] 38)).cell? ⟨w.heap.size, 0, none⟩ = some (.slice A la.length ca) := by rw [cell_of_row _ _ _ _ 38 (0, 0) u0]; rfl
  have z1 : (w.alloc (.cells #[.slice A la.length ca, .slice D lb.length cd] 38)).cell? ⟨w.heap.size, 1, none⟩ = some (.slice D lb.length cd) := by rw [cell_of_row _ _ _ _ 38 (0, 0) u0]; rfl
  have Hz0 := Aside0.mk z0
  have Hz1 := Aside0.mk z1
  have HG := Aside0.mk (hG.alloc (.cells #[.slice A la.length ca, .slice D lb.length cd] 38))
  have HC := Aside0.mk (Kd.C_alloc hC (.cells #[.slice A la.length ca, .slice D lb.length cd] 38))
  have HCA := Aside0.mk (Kd.C_alloc hCa (.cells #[.slice A la.length ca, .slice D lb.length cd] 38))
  have HCD := Aside0.mk (Kd.C_alloc hCd (.cells #[.slice A la.length ca, .slice D lb.length cd] 38))
  have HPUT := Aside0.mk hput
  have HOPEN := Aside0.mk hopen
  have HNUM := Aside0.mk hnum
  have HON := Aside0.mk hO
  have HALL := Aside0.mk hall
  have HG1 := Aside0.mk hg1
  have HG2 := Aside0.mk hg2
  have HEND := Aside0.mk hend
  have HN := Aside0.mk hN
  have HBL := Aside0.mk hBl
  have HSUM := Aside0.mk hsum
  have hl1 : body.length ≤ 20000 := by omega
  have hl2 : la.length ≤ 20000 := by omega
  have hl3 : lb.length ≤ 20000 := by omega
  have d1 : decide (20000 < (body.length : Int) + (la.length : Int) + (lb.length : Int)) = false := decide_eq_false (by omega)
  have d2 : decide (20000 < body.length + la.length + lb.length) = false := decide_eq_false (by omega)
  clear hG hC hCa hCd hput hopen hnum hO hall hg1 hg2 hend hN u0 sz0 hsum
  go_enter Tryd.func5, Tryd.ntmps5
  go_wp2_with fail
  generalize hw0 : w.alloc (.cells #[.slice A la.length ca, .slice D lb.length cd] 38) = w0 at *
  clear hw0 z0 z1
  refine (frame_Put.calls k kind A0 c0 body B 0 w0 HG.out HC.out hc0 HPUT.out).mono ?_
  rintro e w1 ⟨v, rfl, hR, hb1⟩
  obtain ⟨A1, c1, rfl, hc1, hC1⟩ := R_sl hR
  have HB1 := Aside0.mk hb1
  have HC1 := Aside0.mk hC1
  clear hR hb1 hC1
  go_wp2_with fail
  refine (crc_Open.calls A1 c1 B O 0 w1 (HG.out.below HB1.out) HC1.out hc1 HOPEN.out).mono ?_
  rintro e w2 ⟨v, rfl, hR, hb2⟩
  obtain ⟨A2, c2, rfl, hc2, hC2⟩ := R_sl hR
  have HB2 := Aside0.mk (below_step HB1.out hb2)
  have HB12 := Aside0.mk hb2
  have HC2 := Aside0.mk hC2
  clear hR hb2 hC2
  go_wp2_with fail

  have dd := neq_self_str (strOfNums O)
  refine start_ (n := 19) (S := fun w' => (convert 22 9 (.slice A2 O.length c2)).run Tryd.prog w' = .ok (.string (strOfNums O)) w') (ds := []) #[false, false, false, false, false, false, false, false, false, false, false, false, false, false, false, false, false, false, false] (by kernel_rfl) rfl rfl (Kd.C_string (P := Tryd.prog) (A := A2) (c := c2) Tryd.underlying22 Tryd.underlying5 Tryd.underlying9 (Kd.C_below HC2.out (below_drew (Below.refl _ w2)))) (fun hHeld => ?_)
  refine pure_ (i := 0) (N := some 45) (v := ?_) (a' := ?_) #[true, false, false, false, false, false, false, false, false, false, false, false, false, false, false, false, false, false, false] rfl rfl (by kernel_rfl) (fun _ _ _ h => h) (Or.inl ⟨by rfl, ?_⟩) ?_ ?_
  rotate_left
  · intro w'
    go_simp
    with_reducible rfl
  rotate_left
  · simp only [Act.put, List.setIfInBounds_toArray, List.set_cons_zero, List.set_cons_succ, i64_w, i32_w]
    rfl
  refine pure_ (i := 1) (N := some 46) (v := ?_) (a' := ?_) #[true, true, false, false, false, false, false, false, false, false, false, false, false, false, false, false, false, false, false] rfl rfl (by kernel_rfl) (fun _ _ _ h => h) (Or.inl ⟨by rfl, ?_⟩) ?_ ?_
  rotate_left
  · intro w'
    go_simp
    with_reducible rfl
  rotate_left
  · simp only [Act.put, List.setIfInBounds_toArray, List.set_cons_zero, List.set_cons_succ, i64_w, i32_w]
    rfl
  refine pure_ (i := 2) (N := some 47) (v := ?_) (a' := ?_) #[true, true, true, false, false, false, false, false, false, false, false, false, false, false, false, false, false, false, false] rfl rfl (by kernel_rfl) (fun _ _ _ h => h) (Or.inl ⟨by rfl, ?_⟩) ?_ ?_
  rotate_left
  · intro w'
    go_simp
    with_reducible rfl
  rotate_left
  · simp only [Act.put, List.setIfInBounds_toArray, List.set_cons_zero, List.set_cons_succ, i64_w, i32_w]
    rfl
  refine pure_ (i := 3) (N := some 48) (v := ?_) (a' := ?_) #[true, true, true, true, false, false, false, false, false, false, false, false, false, false, false, false, false, false, false] rfl rfl (by kernel_rfl) (fun _ _ _ h => h) (Or.inl ⟨by rfl, ?_⟩) ?_ ?_
  rotate_left
  · intro w'
    go_simp
    with_reducible rfl
  rotate_left
  · simp only [Act.put, List.setIfInBounds_toArray, List.set_cons_zero, List.set_cons_succ, i64_w, i32_w]
    rfl
  refine pure_ (i := 4) (N := some 49) (v := ?_) (a' := ?_) #[true, true, true, true, true, false, false, false, false, false, false, false, false, false, false, false, false, false, false] rfl rfl (by kernel_rfl) (fun _ _ _ h => h) (Or.inl ⟨by rfl, ?_⟩) ?_ ?_
  rotate_left
  · intro w'
    go_simp
    with_reducible rfl
  rotate_left
  · simp only [Act.put, List.setIfInBounds_toArray, List.set_cons_zero, List.set_cons_succ, i64_w, i32_w]
    rfl
  refine pure_ (i := 5) (N := some 50) (v := ?_) (a' := ?_) #[true, true, true, true, true, true, false, false, false, false, false, false, false, false, false, false, false, false, false] rfl rfl (by kernel_rfl) (fun _ _ _ h => h) (Or.inl ⟨by rfl, ?_⟩) ?_ ?_
  rotate_left
  · intro w'
    go_simp
    with_reducible rfl
  rotate_left
  · simp only [Act.put, List.setIfInBounds_toArray, List.set_cons_zero, List.set_cons_succ, i64_w, i32_w]
    rfl
  refine pure_ (i := 6) (N := some 51) (v := ?_) (a' := ?_) #[true, true, true, true, true, true, true, false, false, false, false, false, false, false, false, false, false, false, false] rfl rfl (by kernel_rfl) (fun _ _ _ h => h) (Or.inl ⟨by rfl, ?_⟩) ?_ ?_
  rotate_left
  · intro w'
    go_simp
    with_reducible rfl
  rotate_left
  · simp only [Act.put, List.setIfInBounds_toArray, List.set_cons_zero, List.set_cons_succ, i64_w, i32_w]
    rfl
  refine pure_ (i := 7) (N := some 52) (v := ?_) (a' := ?_) #[true, true, true, true, true, true, true, true, false, false, false, false, false, false, false, false, false, false, false] rfl rfl (by kernel_rfl) (fun _ _ _ h => h) (Or.inl ⟨by rfl, ?_⟩) ?_ ?_
  rotate_left
  · intro w'
    go_simp
    with_reducible rfl
  rotate_left
  · simp only [Act.put, List.setIfInBounds_toArray, List.set_cons_zero, List.set_cons_succ, i64_w, i32_w]
    rfl
  refine pure_ (i := 9) (N := some 54) (v := ?_) (a' := ?_) #[true, true, true, true, true, true, true, true, false, true, false, false, false, false, false, false, false, false, false] rfl rfl (by kernel_rfl) (fun _ _ _ h => h) (Or.inl ⟨by rfl, ?_⟩) ?_ ?_
  rotate_left
  · intro w'
    go_simp
    with_reducible rfl
  rotate_left
  · simp only [Act.put, List.setIfInBounds_toArray, List.set_cons_zero, List.set_cons_succ, i64_w, i32_w]
    rfl
  refine pure_ (i := 11) (N := some 56) (v := ?_) (a' := ?_) #[true, true, true, true, true, true, true, true, false, true, false, true, false, false, false, false, false, false, false] rfl rfl (by kernel_rfl) (fun _ _ _ h => h) (Or.inl ⟨by rfl, ?_⟩) ?_ ?_
  rotate_left
  · intro w'
    go_simp
    with_reducible rfl
  rotate_left
  · simp only [Act.put, List.setIfInBounds_toArray, List.set_cons_zero, List.set_cons_succ, i64_w, i32_w]
    rfl
  refine pure_ (i := 12) (N := some 57) (v := ?_) (a' := ?_) #[true, true, true, true, true, true, true, true, false, true, false, true, true, false, false, false, false, false, false] rfl rfl (by kernel_rfl) (fun _ _ _ h => h) (Or.inl ⟨by rfl, ?_⟩) ?_ ?_
  rotate_left
  · intro w'
    go_simp
    with_reducible rfl
  rotate_left
  · simp only [Act.put, List.setIfInBounds_toArray, List.set_cons_zero, List.set_cons_succ, i64_w, i32_w]
    rfl
  refine pure_ (i := 14) (N := some 59) (v := ?_) (a' := ?_) #[true, true, true, true, true, true, true, true, false, true, false, true, true, false, true, false, false, false, false] rfl rfl (by kernel_rfl) (fun _ _ _ h => h) (Or.inl ⟨by rfl, ?_⟩) ?_ ?_
  rotate_left
  · intro w'
    go_simp
    with_reducible rfl
  rotate_left
  · simp only [Act.put, List.setIfInBounds_toArray, List.set_cons_zero, List.set_cons_succ, i64_w, i32_w]
    rfl
  refine take_ (i := 8) (N := some 53) (v := ?_) (a' := ?_) #[true, true, true, true, true, true, true, true, true, true, false, true, true, false, true, false, false, false, false] rfl rfl (by kernel_rfl) (fun _ _ _ h => h) (Or.inl ⟨by rfl, ?_⟩) hHeld ?_ ?_
  rotate_left
  · intro w' s0
    go_simp
    with_reducible rfl
  rotate_left
  · simp only [Act.put, List.setIfInBounds_toArray, List.set_cons_zero, List.set_cons_succ, i64_w, i32_w]
    rfl
  refine one_ (i := 10) (N := some 55) #[true, true, true, true, true, true, true, true, true, true, true, true, true, false, true, false, false, false, false] rfl rfl (by kernel_rfl) (by decide) (fun K hK => ?_)
  refine value_ (w1 := ?_) (v := ?_) (by rfl) rfl ?_ ?_
  rotate_left 2
  · go_simp
    constructor
    · rfl
    · rfl
  have hb3 : Below w2.heap.size w2 ((w2.alloc (.cells #[.int .u8 kind] 5)).drew) := below_drew (below_alloc (Below.refl _ w2) _)
  have hC3 : Kd.C (Kd.int .u8) ((w2.alloc (.cells #[.int .u8 kind] 5)).drew) (some ⟨w2.heap.size, 0, none⟩) 1 [kind] := Kd.C_below (Kd.C_const w2 5 [kind] (0, 0) (by simp)) (below_drew (Below.refl _ _))
  refine hK.out _ _ (Kd.C_string (P := Tryd.prog) (A := A2) (c := c2) Tryd.underlying22 Tryd.underlying5 Tryd.underlying9 (Kd.C_below HC2.out hb3)) (fun hHeld => ?_)
  clear hK K
  refine norm_ (a' := ?_) ?_ ?_
  rotate_left
  · show Act.put _ (some 55) _ = _
    simp only [Act.put, List.setIfInBounds_toArray, List.set_cons_zero, List.set_cons_succ, i64_w, i32_w]
    rfl
  refine one_ (i := 13) (N := some 58) #[true, true, true, true, true, true, true, true, true, true, true, true, true, true, true, false, false, false, false] rfl rfl (by kernel_rfl) (by decide) (fun K hK => ?_)
  refine goes_ Tryd.func17 (by kernel_rfl) rfl #[.slice (some ⟨w2.heap.size, 0, none⟩) 1 1, .int .i64 body.length] (by rfl) rfl rfl (by simp only [List.map_toArray, List.map_cons, List.map_nil]; rfl) ?_
  with_reducible refine (putN k (some ⟨w2.heap.size, 0, none⟩) 1 1 [kind] _ N _ hC3 (Nat.le_refl _) rfl HNUM.out).mono ?_
  rintro e w4 ⟨v4, rfl, hR4, hb4⟩
  refine ⟨_, rfl, ?_⟩
  have hb4' := below_step hb3 hb4
  have hb3s := hb3.size
  clear hb3 hC3
  refine hK.out _ _ (Kd.C_string (P := Tryd.prog) (A := A2) (c := c2) Tryd.underlying22 Tryd.underlying5 Tryd.underlying9 (Kd.C_below HC2.out hb4')) (fun hHeld => ?_)
  clear hK K
  refine norm_ (a' := ?_) ?_ ?_
  rotate_left
  · show Act.put _ (some 58) _ = _
    simp only [Act.put, List.setIfInBounds_toArray, List.set_cons_zero, List.set_cons_succ, i64_w, i32_w]
    rfl
  refine one_ (i := 15) (N := some 60) #[true, true, true, true, true, true, true, true, true, true, true, true, true, true, true, true, false, false, false] rfl rfl (by kernel_rfl) (by decide) (fun K hK => ?_)
  obtain ⟨A4, c4, rfl⟩ := Kd.R_slice hR4
  refine Kd.R_append_rows_step (Kd.int .u8) (w0 := w2) w2.heap.size (by rfl) (.tmp 58) (.tmp 59) 22 5 (.int .u8 0) 1 rfl Tryd.underlying22 info5 rfl (by decide) (by omega) (.slice A4 N.length c4) N body A0 body.length c0 (fun _ => True) (fun _ => False) rfl rfl (Kd.R_lower hR4 hb3s) (Kd.C_below (Kd.C_below HC.out HB2.out) hb4') (fun _ _ h => h) (fun _ h => h.elim) (fun _ _ => trivial) hb4' hb4'.size (by have := HN.out; omega) ?_
  intro v5 w5 hR5 hb5 hg5 hat5
  rw [HON.out] at hR5
  obtain ⟨A5, c5, rfl, hc5, hC5⟩ := R_sl hR5
  have hcv5 := Kd.C_string (P := Tryd.prog) (A := A5) (c := c5) Tryd.underlying22 Tryd.underlying5 Tryd.underlying9 hC5
  refine hK.out _ _ (Kd.C_string (P := Tryd.prog) (A := A2) (c := c2) Tryd.underlying22 Tryd.underlying5 Tryd.underlying9 (Kd.C_below HC2.out hb5)) (fun hHeld => ?_)
  clear hK K
  refine norm_ (a' := ?_) ?_ ?_
  rotate_left
  · show Act.put _ (some 60) _ = _
    simp only [Act.put, List.setIfInBounds_toArray, List.set_cons_zero, List.set_cons_succ, i64_w, i32_w]
    rfl
  refine one_ (i := 16) (N := some 61) #[true, true, true, true, true, true, true, true, true, true, true, true, true, true, true, true, true, false, false] rfl rfl (by kernel_rfl) (by decide) (fun K hK => ?_)
  refine value_ (w1 := ?_) (v := ?_) (by rfl) rfl ?_ ?_
  rotate_left 2
  · go_simp
    constructor
    · rfl
    · rfl
  refine hK.out _ _ (Kd.C_string (P := Tryd.prog) (A := A2) (c := c2) Tryd.underlying22 Tryd.underlying5 Tryd.underlying9 (Kd.C_below HC2.out hb5)) (fun hHeld => ?_)
  clear hK K
  refine norm_ (a' := ?_) ?_ ?_
  rotate_left
  · show Act.put _ (some 61) _ = _
    simp only [Act.put, List.setIfInBounds_toArray, List.set_cons_zero, List.set_cons_succ, i64_w, i32_w]
    rfl
  refine pure_ (i := 17) (N := some 62) (v := ?_) (a' := ?_) #[true, true, true, true, true, true, true, true, true, true, true, true, true, true, true, true, true, true, false] rfl rfl (by kernel_rfl) (fun _ _ _ h => h) (Or.inl ⟨by rfl, ?_⟩) ?_ ?_
  rotate_left
  · intro w'
    go_simp
    with_reducible rfl
  rotate_left
  · simp only [Act.put, List.setIfInBounds_toArray, List.set_cons_zero, List.set_cons_succ, i64_w, i32_w]
    rfl
  refine pure_ (i := 18) (N := some 63) (v := ?_) (a' := ?_) #[true, true, true, true, true, true, true, true, true, true, true, true, true, true, true, true, true, true, true] rfl rfl (by kernel_rfl) (fun _ _ _ h => h) (Or.inl ⟨by rfl, ?_⟩) ?_ ?_
  rotate_left
  · intro w'
    go_simp
    with_reducible rfl
  rotate_left
  · simp only [Act.put, List.setIfInBounds_toArray, List.set_cons_zero, List.set_cons_succ, i64_w, i32_w]
    rfl
  refine done_ (by kernel_rfl) ?_
  have HB5 := Aside0.mk (below_step HB2.out hb5)
  have HB15 := Aside0.mk (HB12.out.trans (hb5.mono HB12.out.size))
  clear hb5 hg5 hat5 hR5 hC5 hcv5 hR4 hb4 hb4' dd hb3s
  go_wp2_with fail

  refine start_ (n := 10) (S := fun w' => w'.cell? ⟨w.heap.size, 0, none⟩ = some (.slice A la.length ca) ∧ w'.cell? ⟨w.heap.size, 1, none⟩ = some (.slice D lb.length cd)) (ds := []) #[false, false, false, false, false, false, false, false, false, false] (by kernel_rfl) rfl rfl ⟨pw_cell_below (below_drew HB5.out) Hz0.out, pw_cell_below (below_drew HB5.out) Hz1.out⟩ (fun hHeld => ?_)
  refine pure_ (i := 0) (N := some 64) (v := ?_) (a' := ?_) #[true, false, false, false, false, false, false, false, false, false] rfl rfl (by kernel_rfl) (fun _ _ _ h => h) (Or.inl ⟨by rfl, ?_⟩) ?_ ?_
  rotate_left
  · intro w'
    go_simp
    with_reducible rfl
  rotate_left
  · simp only [Act.put, List.setIfInBounds_toArray, List.set_cons_zero, List.set_cons_succ, i64_w, i32_w]
    rfl
  refine pure_ (i := 1) (N := some 65) (v := ?_) (a' := ?_) #[true, true, false, false, false, false, false, false, false, false] rfl rfl (by kernel_rfl) (fun _ _ _ h => h) (Or.inl ⟨by rfl, ?_⟩) ?_ ?_
  rotate_left
  · intro w'
    go_simp
    with_reducible rfl
  rotate_left
  · simp only [Act.put, List.setIfInBounds_toArray, List.set_cons_zero, List.set_cons_succ, i64_w, i32_w]
    rfl
  refine pure_ (i := 4) (N := some 68) (v := ?_) (a' := ?_) #[true, true, false, false, true, false, false, false, false, false] rfl rfl (by kernel_rfl) (fun _ _ _ h => h) (Or.inl ⟨by rfl, ?_⟩) ?_ ?_
  rotate_left
  · intro w'
    go_simp
    with_reducible rfl
  rotate_left
  · simp only [Act.put, List.setIfInBounds_toArray, List.set_cons_zero, List.set_cons_succ, i64_w, i32_w]
    rfl
  refine pure_ (i := 6) (N := some 70) (v := ?_) (a' := ?_) #[true, true, false, false, true, false, true, false, false, false] rfl rfl (by kernel_rfl) (fun _ _ _ h => h) (Or.inl ⟨by rfl, ?_⟩) ?_ ?_
  rotate_left
  · intro w'
    go_simp
    with_reducible rfl
  rotate_left
  · simp only [Act.put, List.setIfInBounds_toArray, List.set_cons_zero, List.set_cons_succ, i64_w, i32_w]
    rfl
  refine take_ (i := 2) (N := some 66) (v := ?_) (a' := ?_) #[true, true, true, false, true, false, true, false, false, false] rfl rfl (by kernel_rfl) (fun _ _ _ h => h) (Or.inl ⟨by rfl, ?_⟩) hHeld ?_ ?_
  rotate_left
  · rintro w' ⟨s0, s1⟩
    go_simp
    with_reducible rfl
  rotate_left
  · simp only [Act.put, List.setIfInBounds_toArray, List.set_cons_zero, List.set_cons_succ, i64_w, i32_w]
    rfl
  refine take_ (i := 7) (N := some 71) (v := ?_) (a' := ?_) #[true, true, true, false, true, false, true, true, false, false] rfl rfl (by kernel_rfl) (fun _ _ _ h => h) (Or.inl ⟨by rfl, ?_⟩) hHeld ?_ ?_
  rotate_left
  · rintro w' ⟨s0, s1⟩
    go_simp
    with_reducible rfl
  rotate_left
  · simp only [Act.put, List.setIfInBounds_toArray, List.set_cons_zero, List.set_cons_succ, i64_w, i32_w]
    rfl
  refine one_ (i := 3) (N := some 67) #[true, true, true, true, true, false, true, true, false, false] rfl rfl (by kernel_rfl) (by decide) (fun K hK => ?_)
  refine Kd.R_append_rows_step (Kd.int .u8) (w0 := w5) w5.heap.size (by rfl) (.tmp 64) (.tmp 66) 22 5 (.int .u8 0) 1 rfl Tryd.underlying22 info5 rfl (by decide) (by omega) (.slice none 0 0) ([] : List Int) la A la.length ca (fun _ => True) (fun _ => False) rfl rfl (Kd.R_nil _ _ _ _ _) (Kd.C_below HCA.out (below_drew HB5.out)) (fun _ _ h => h) (fun _ h => h.elim) (fun _ _ => trivial) (below_drew (Below.refl _ w5)) (Nat.le_refl _) (by simp only [List.length_nil]; omega) ?_
  intro v6 w6 hR6 hb6 hg6 hat6
  rw [List.nil_append] at hR6
  obtain ⟨A6, c6, rfl⟩ := Kd.R_slice hR6
  refine hK.out _ _ ⟨pw_cell_below (below_step HB5.out hb6) Hz0.out, pw_cell_below (below_step HB5.out hb6) Hz1.out⟩ (fun hHeld => ?_)
  clear hK K
  refine norm_ (a' := ?_) ?_ ?_
  rotate_left
  · show Act.put _ (some 67) _ = _
    simp only [Act.put, List.setIfInBounds_toArray, List.set_cons_zero, List.set_cons_succ, i64_w, i32_w]
    rfl
  refine one_ (i := 5) (N := some 69) #[true, true, true, true, true, true, true, true, false, false] rfl rfl (by kernel_rfl) (by decide) (fun K hK => ?_)
  refine Kd.R_append_rows_step (Kd.int .u8) (w0 := w5) w5.heap.size (by rfl) (.tmp 67) (.tmp 68) 22 5 (.int .u8 0) 1 rfl Tryd.underlying22 info5 rfl (by decide) (by omega) (.slice A6 la.length c6) (la) B A1 B.length c1 (fun _ => True) (fun _ => False) rfl rfl hR6 (Kd.C_below HC1.out (below_step HB15.out hb6)) (fun _ _ h => h) (fun _ h => h.elim) (fun _ _ => trivial) hb6 hb6.size (by have := HBL.out; omega) ?_
  intro v7 w7 hR7 hb7 hg7 hat7
  obtain ⟨A7, c7, rfl⟩ := Kd.R_slice hR7
  refine hK.out _ _ ⟨pw_cell_below (below_step HB5.out hb7) Hz0.out, pw_cell_below (below_step HB5.out hb7) Hz1.out⟩ (fun hHeld => ?_)
  clear hK K
  refine norm_ (a' := ?_) ?_ ?_
  rotate_left
  · show Act.put _ (some 69) _ = _
    simp only [Act.put, List.setIfInBounds_toArray, List.set_cons_zero, List.set_cons_succ, i64_w, i32_w]
    rfl
  refine one_ (i := 8) (N := some 72) #[true, true, true, true, true, true, true, true, true, false] rfl rfl (by kernel_rfl) (by decide) (fun K hK => ?_)
  refine Kd.R_append_rows_step (Kd.int .u8) (w0 := w5) w5.heap.size (by rfl) (.tmp 69) (.tmp 71) 22 5 (.int .u8 0) 1 rfl Tryd.underlying22 info5 rfl (by decide) (by omega) (.slice A7 (la ++ B).length c7) (la ++ B) lb D lb.length cd (fun _ => True) (fun _ => False) rfl rfl hR7 (Kd.C_below HCD.out (below_step HB5.out hb7)) (fun _ _ h => h) (fun _ h => h.elim) (fun _ _ => trivial) hb7 hb7.size (by have := HBL.out; rw [List.length_append]; omega) ?_
  intro v8 w8 hR8 hb8 hg8 hat8
  rw [HALL.out] at hR8
  obtain ⟨A8, c8, rfl, hc8, hC8⟩ := R_sl hR8
  refine hK.out _ _ ⟨pw_cell_below (below_step HB5.out hb8) Hz0.out, pw_cell_below (below_step HB5.out hb8) Hz1.out⟩ (fun hHeld => ?_)
  clear hK K
  refine norm_ (a' := ?_) ?_ ?_
  rotate_left
  · show Act.put _ (some 72) _ = _
    simp only [Act.put, List.setIfInBounds_toArray, List.set_cons_zero, List.set_cons_succ, i64_w, i32_w]
    rfl
  refine pure_ (i := 9) (N := some 11) (v := ?_) (a' := ?_) #[true, true, true, true, true, true, true, true, true, true] rfl rfl (by kernel_rfl) (fun _ _ _ h => h) (Or.inl ⟨by rfl, ?_⟩) ?_ ?_
  rotate_left
  · intro w'
    go_simp
    with_reducible rfl
  rotate_left
  · simp only [Act.put, List.setIfInBounds_toArray, List.set_cons_zero, List.set_cons_succ, i64_w, i32_w]
    rfl
  refine done_ (by kernel_rfl) ?_
  have HB8 := Aside0.mk (below_step HB5.out hb8)
  have HB18 := Aside0.mk (below_step HB15.out hb8)
  have HC8 := Aside0.mk hC8
  have hz8 := pw_cell_below HB8.out Hz0.out
  have hlALL : ALL.length ≤ 70000 := by have h1 := HALL.out; have h2 := HBL.out; rw [← h1, List.length_append, List.length_append]; omega
  have HLA := Aside0.mk hlALL
  clear hb8 hb7 hb6 hg6 hg7 hg8 hat6 hat7 hat8 hR6 hR7 hR8 hC8
  go_wp2_with fail
  refine (frame_Get.calls k A8 c8 ALL (la.length : Int) kind body ((la.length : Int) + (B.length : Int)) 0 w8 (HG.out.below HB8.out) HC8.out hc8 HG1.out).mono ?_
  rintro e w9 ⟨v9, rfl, hR9, hb9⟩
  obtain ⟨A9, c9, rfl, hc9, hC9⟩ := R_sl hR9
  have hb9a := below_alloc hb9 (.cells #[.int .i64 kind, .slice A9 body.length c9] 27)
  have u9 := fr_new w9 (.cells #[.int .i64 kind, .slice A9 body.length c9] 27)
  have HB9 := Aside0.mk (below_step HB8.out hb9a)
  have HB19 := Aside0.mk (below_step HB18.out hb9a)
  have HC9 := Aside0.mk (Kd.C_below HC8.out hb9a)
  have x0 : (w9.alloc (.cells #[.int .i64 kind, .slice A9 body.length c9] 27)).cell? ⟨w9.heap.size, 0, none⟩ = some (.int .i64 kind) := by rw [cell_of_row _ _ _ _ 27 (0, 0) u9]; rfl
  have x1 : (w9.alloc (.cells #[.int .i64 kind, .slice A9 body.length c9] 27)).cell? ⟨w9.heap.size, 1, none⟩ = some (.slice A9 body.length c9) := by rw [cell_of_row _ _ _ _ 27 (0, 0) u9]; rfl
  have cv1 := Kd.C_string (P := Tryd.prog) (A := A9) (c := c9) Tryd.underlying22 Tryd.underlying5 Tryd.underlying9 (Kd.C_alloc hC9 (.cells #[.int .i64 kind, .slice A9 body.length c9] 27))
  have cv2 := Kd.C_string (P := Tryd.prog) (A := A0) (c := c0) Tryd.underlying22 Tryd.underlying5 Tryd.underlying9 (Kd.C_below HC.out HB9.out)
  have hz9 := pw_cell_below HB9.out Hz0.out
  clear hR9 hb9 hb9a hC9 u9 hz8 HB8 HB18 HC8
  go_wp2_with fail
  generalize hw9a : w9.alloc (.cells #[.int .i64 kind, .slice A9 body.length c9] 27) = w9a at HB9 HB19 HC9 ⊢
  clear hw9a x0 x1 cv1 cv2 hz9 HG1
  rcases HEND.out with ⟨hh, rfl, rfl, rfl⟩ | ⟨rfl, Z, hZ, hn0, hn1, hZe⟩
  · have hh1 : (h != 0) = true := by simpa using hh
    have hh2 : (h == 0) = false := by simpa using hh
    clear hh HEND
    refine (frame_Get.calls k A8 c8 ALL 0 0 [] 0 h w9a (HG.out.below HB9.out) HC9.out hc8 HG2.out).mono ?_
    rintro e w10 ⟨v10, rfl, hR10, hb10⟩
    obtain ⟨A10, c10, rfl⟩ := Kd.R_slice hR10
    have hb10a := below_alloc hb10 (.cells #[.int .i64 0, .slice A10 0 c10] 27)
    have u10 := fr_new w10 (.cells #[.int .i64 0, .slice A10 0 c10] 27)
    have x0 : (w10.alloc (.cells #[.int .i64 0, .slice A10 0 c10] 27)).cell? ⟨w10.heap.size, 0, none⟩ = some (.int .i64 0) := by rw [cell_of_row _ _ _ _ 27 (0, 0) u10]; rfl
    have x1 : (w10.alloc (.cells #[.int .i64 0, .slice A10 0 c10] 27)).cell? ⟨w10.heap.size, 1, none⟩ = some (.slice A10 0 c10) := by rw [cell_of_row _ _ _ _ 27 (0, 0) u10]; rfl
    have HB10 := Aside0.mk (below_step HB9.out hb10a)
    clear hR10 hb10 hb10a u10
    go_wp2_with fail
    refine (remoralaw29_awake.calls true _ (HG.out.below HB10.out) rfl).mono ?_
    rintro e w11 ⟨rfl, hb11⟩
    have HB11 := Aside0.mk (below_step HB0.out (below_step HB10.out hb11))
    clear hb11
    go_wp2
    go_ret
    exact ⟨rfl, HB11.out⟩
  · have HZ := Aside0.mk hZ
    obtain ⟨n, rfl⟩ : ∃ n : Nat, nx = (n : Int) := ⟨nx.toNat, by omega⟩
    rw [Int.toNat_natCast] at hZe
    have hnA : n ≤ ALL.length := by omega
    have HZE := Aside0.mk hZe
    clear hZ hZe hn0 HEND
    refine (frame_Get.calls k A8 c8 ALL 0 y Y (n : Int) 0 w9a (HG.out.below HB9.out) HC9.out hc8 HG2.out).mono ?_
    rintro e w10 ⟨v10, rfl, hR10, hb10⟩
    obtain ⟨A10, c10, rfl, hc10, hC10⟩ := R_sl hR10
    have hb10a := below_alloc hb10 (.cells #[.int .i64 y, .slice A10 Y.length c10] 27)
    have u10 := fr_new w10 (.cells #[.int .i64 y, .slice A10 Y.length c10] 27)
    have x0 : (w10.alloc (.cells #[.int .i64 y, .slice A10 Y.length c10] 27)).cell? ⟨w10.heap.size, 0, none⟩ = some (.int .i64 y) := by rw [cell_of_row _ _ _ _ 27 (0, 0) u10]; rfl
    have x1 : (w10.alloc (.cells #[.int .i64 y, .slice A10 Y.length c10] 27)).cell? ⟨w10.heap.size, 1, none⟩ = some (.slice A10 Y.length c10) := by rw [cell_of_row _ _ _ _ 27 (0, 0) u10]; rfl
    have HB10 := Aside0.mk (below_step HB9.out hb10a)
    have HC10 := Aside0.mk (Kd.C_alloc hC10 (.cells #[.int .i64 y, .slice A10 Y.length c10] 27))
    have HC10a := Aside0.mk (Kd.C_below HC9.out hb10a)
    clear hR10 hb10 hb10a u10 hC10
    go_wp2_with fail
    refine (frame_Put.calls k y A10 c10 Y Z 0 _ (HG.out.below HB10.out) HC10.out hc10 HZ.out).mono ?_
    rintro e w11 ⟨v11, rfl, hR11, hb11⟩
    obtain ⟨A11, c11, rfl, hc11, hC11⟩ := R_sl hR11
    have HB11 := Aside0.mk (below_step HB10.out hb11)
    have HC11 := Aside0.mk hC11
    have hcut := cut_upto A8 ALL.length c8 n hnA hc8
    have hCt : Kd.C (Kd.int .u8) w11 A8 n Z := by rw [HZE.out]; exact C_upto n (Kd.C_below HC10a.out hb11) hnA
    have HCT := Aside0.mk hCt
    have e1 : decide ((n : Int) ≤ (ALL.length : Int)) = true := decide_eq_true (by omega)
    have e2 : decide (n ≤ ALL.length) = true := decide_eq_true hnA
    clear hR11 hb11 hC11 hCt x0 x1 HC10a HC10
    go_wp2_with fail
    refine start_ (n := 21) (S := fun w' => (convert 22 9 (.slice A11 Z.length c11)).run Tryd.prog w' = .ok (.string (strOfNums Z)) w' ∧ (convert 22 9 (.slice A8 n c8)).run Tryd.prog w' = .ok (.string (strOfNums Z)) w') (ds := [18]) #[false, false, false, false, false, false, false, false, false, false, false, false, false, false, false, false, false, false, false, false, false] (by kernel_rfl) rfl rfl ⟨Kd.C_string (P := Tryd.prog) (A := A11) (c := c11) Tryd.underlying22 Tryd.underlying5 Tryd.underlying9 (Kd.C_below HC11.out (below_drew (Below.refl _ w11))), Kd.C_string (P := Tryd.prog) (A := A8) (c := c8) Tryd.underlying22 Tryd.underlying5 Tryd.underlying9 (Kd.C_below HCT.out (below_drew (Below.refl _ w11)))⟩ (fun hHeld => ?_)
    refine pure_ (i := 0) (N := some 138) (v := ?_) (a' := ?_) #[true, false, false, false, false, false, false, false, false, false, false, false, false, false, false, false, false, false, false, false, false] rfl rfl (by kernel_rfl) (fun _ _ _ h => h) (Or.inl ⟨by rfl, ?_⟩) ?_ ?_
    rotate_left
    · intro w'
      go_simp
      with_reducible rfl
    rotate_left
    · simp only [Act.put, List.setIfInBounds_toArray, List.set_cons_zero, List.set_cons_succ, i64_w, i32_w]
      rfl
    refine pure_ (i := 1) (N := some 139) (v := ?_) (a' := ?_) #[true, true, false, false, false, false, false, false, false, false, false, false, false, false, false, false, false, false, false, false, false] rfl rfl (by kernel_rfl) (fun _ _ _ h => h) (Or.inl ⟨by rfl, ?_⟩) ?_ ?_
    rotate_left
    · intro w'
      go_simp
      with_reducible rfl
    rotate_left
    · simp only [Act.put, List.setIfInBounds_toArray, List.set_cons_zero, List.set_cons_succ, i64_w, i32_w]
      rfl
    refine pure_ (i := 2) (N := some 140) (v := ?_) (a' := ?_) #[true, true, true, false, false, false, false, false, false, false, false, false, false, false, false, false, false, false, false, false, false] rfl rfl (by kernel_rfl) (fun _ _ _ h => h) (Or.inl ⟨by rfl, ?_⟩) ?_ ?_
    rotate_left
    · intro w'
      go_simp
      with_reducible rfl
    rotate_left
    · simp only [Act.put, List.setIfInBounds_toArray, List.set_cons_zero, List.set_cons_succ, i64_w, i32_w]
      rfl
    refine pure_ (i := 3) (N := some 141) (v := ?_) (a' := ?_) #[true, true, true, true, false, false, false, false, false, false, false, false, false, false, false, false, false, false, false, false, false] rfl rfl (by kernel_rfl) (fun _ _ _ h => h) (Or.inl ⟨by rfl, ?_⟩) ?_ ?_
    rotate_left
    · intro w'
      go_simp
      with_reducible rfl
    rotate_left
    · simp only [Act.put, List.setIfInBounds_toArray, List.set_cons_zero, List.set_cons_succ, i64_w, i32_w]
      rfl
    refine pure_ (i := 4) (N := some 142) (v := ?_) (a' := ?_) #[true, true, true, true, true, false, false, false, false, false, false, false, false, false, false, false, false, false, false, false, false] rfl rfl (by kernel_rfl) (fun _ _ _ h => h) (Or.inl ⟨by rfl, ?_⟩) ?_ ?_
    rotate_left
    · intro w'
      go_simp
      with_reducible rfl
    rotate_left
    · simp only [Act.put, List.setIfInBounds_toArray, List.set_cons_zero, List.set_cons_succ, i64_w, i32_w]
      rfl
    refine pure_ (i := 5) (N := some 143) (v := ?_) (a' := ?_) #[true, true, true, true, true, true, false, false, false, false, false, false, false, false, false, false, false, false, false, false, false] rfl rfl (by kernel_rfl) (fun _ _ _ h => h) (Or.inl ⟨by rfl, ?_⟩) ?_ ?_
    rotate_left
    · intro w'
      go_simp
      with_reducible rfl
    rotate_left
    · simp only [Act.put, List.setIfInBounds_toArray, List.set_cons_zero, List.set_cons_succ, i64_w, i32_w]
      rfl
    refine pure_ (i := 6) (N := some 144) (v := ?_) (a' := ?_) #[true, true, true, true, true, true, true, false, false, false, false, false, false, false, false, false, false, false, false, false, false] rfl rfl (by kernel_rfl) (fun _ _ _ h => h) (Or.inl ⟨by rfl, ?_⟩) ?_ ?_
    rotate_left
    · intro w'
      go_simp
      with_reducible rfl
    rotate_left
    · simp only [Act.put, List.setIfInBounds_toArray, List.set_cons_zero, List.set_cons_succ, i64_w, i32_w]
      rfl
    refine pure_ (i := 7) (N := some 145) (v := ?_) (a' := ?_) #[true, true, true, true, true, true, true, true, false, false, false, false, false, false, false, false, false, false, false, false, false] rfl rfl (by kernel_rfl) (fun _ _ _ h => h) (Or.inl ⟨by rfl, ?_⟩) ?_ ?_
    rotate_left
    · intro w'
      go_simp
      with_reducible rfl
    rotate_left
    · simp only [Act.put, List.setIfInBounds_toArray, List.set_cons_zero, List.set_cons_succ, i64_w, i32_w]
      rfl
    refine pure_ (i := 8) (N := some 146) (v := ?_) (a' := ?_) #[true, true, true, true, true, true, true, true, true, false, false, false, false, false, false, false, false, false, false, false, false] rfl rfl (by kernel_rfl) (fun _ _ _ h => h) (Or.inl ⟨by rfl, ?_⟩) ?_ ?_
    rotate_left
    · intro w'
      go_simp
      with_reducible rfl
    rotate_left
    · simp only [Act.put, List.setIfInBounds_toArray, List.set_cons_zero, List.set_cons_succ, i64_w, i32_w]
      rfl
    refine pure_ (i := 9) (N := some 147) (v := ?_) (a' := ?_) #[true, true, true, true, true, true, true, true, true, true, false, false, false, false, false, false, false, false, false, false, false] rfl rfl (by kernel_rfl) (fun _ _ _ h => h) (Or.inl ⟨by rfl, ?_⟩) ?_ ?_
    rotate_left
    · intro w'
      go_simp
      with_reducible rfl
    rotate_left
    · simp only [Act.put, List.setIfInBounds_toArray, List.set_cons_zero, List.set_cons_succ, i64_w, i32_w]
      rfl
    refine pure_ (i := 11) (N := some 149) (v := ?_) (a' := ?_) #[true, true, true, true, true, true, true, true, true, true, false, true, false, false, false, false, false, false, false, false, false] rfl rfl (by kernel_rfl) (fun _ _ _ h => h) (Or.inl ⟨by rfl, ?_⟩) ?_ ?_
    rotate_left
    · intro w'
      go_simp
      with_reducible rfl
    rotate_left
    · simp only [Act.put, List.setIfInBounds_toArray, List.set_cons_zero, List.set_cons_succ, i64_w, i32_w]
      rfl
    refine pure_ (i := 12) (N := some 150) (v := ?_) (a' := ?_) #[true, true, true, true, true, true, true, true, true, true, false, true, true, false, false, false, false, false, false, false, false] rfl rfl (by kernel_rfl) (fun _ _ _ h => h) (Or.inl ⟨by rfl, ?_⟩) ?_ ?_
    rotate_left
    · intro w'
      go_simp
      with_reducible rfl
    rotate_left
    · simp only [Act.put, List.setIfInBounds_toArray, List.set_cons_zero, List.set_cons_succ, i64_w, i32_w]
      rfl
    refine pure_ (i := 13) (N := some 151) (v := ?_) (a' := ?_) #[true, true, true, true, true, true, true, true, true, true, false, true, true, true, false, false, false, false, false, false, false] rfl rfl (by kernel_rfl) (fun _ _ _ h => h) (Or.inl ⟨by rfl, ?_⟩) ?_ ?_
    rotate_left
    · intro w'
      go_simp
      with_reducible rfl
    rotate_left
    · simp only [Act.put, List.setIfInBounds_toArray, List.set_cons_zero, List.set_cons_succ, i64_w, i32_w]
      rfl
    refine take_ (i := 10) (N := some 148) (v := ?_) (a' := ?_) #[true, true, true, true, true, true, true, true, true, true, true, true, true, true, false, false, false, false, false, false, false] rfl rfl (by kernel_rfl) (fun _ _ _ h => h) (Or.inl ⟨by rfl, ?_⟩) hHeld ?_ ?_
    rotate_left
    · rintro w' ⟨s0, s1⟩
      go_simp
      with_reducible rfl
    rotate_left
    · simp only [Act.put, List.setIfInBounds_toArray, List.set_cons_zero, List.set_cons_succ, i64_w, i32_w]
      rfl
    refine take_ (i := 14) (N := some 152) (v := ?_) (a' := ?_) #[true, true, true, true, true, true, true, true, true, true, true, true, true, true, true, false, false, false, false, false, false] rfl rfl (by kernel_rfl) (fun _ _ _ h => h) (Or.inl ⟨by rfl, ?_⟩) hHeld ?_ ?_
    rotate_left
    · rintro w' ⟨s0, s1⟩
      go_simp
      with_reducible rfl
    rotate_left
    · simp only [Act.put, List.setIfInBounds_toArray, List.set_cons_zero, List.set_cons_succ, i64_w, i32_w]
      rfl
    refine pure_ (i := 15) (N := some 153) (v := ?_) (a' := ?_) #[true, true, true, true, true, true, true, true, true, true, true, true, true, true, true, true, false, false, false, false, false] rfl rfl (by kernel_rfl) (fun _ _ _ h => h) (Or.inl ⟨by rfl, ?_⟩) ?_ ?_
    rotate_left
    · intro w'
      go_simp
      with_reducible rfl
    rotate_left
    · simp only [Act.put, List.setIfInBounds_toArray, List.set_cons_zero, List.set_cons_succ, i64_w, i32_w]
      rfl
    refine pure_ (i := 16) (N := some 154) (v := ?_) (a' := ?_) #[true, true, true, true, true, true, true, true, true, true, true, true, true, true, true, true, true, false, false, false, false] rfl rfl (by kernel_rfl) (fun _ _ _ h => h) (Or.inl ⟨by rfl, ?_⟩) ?_ ?_
    rotate_left
    · intro w'
      go_simp
      with_reducible rfl
    rotate_left
    · simp only [Act.put, List.setIfInBounds_toArray, List.set_cons_zero, List.set_cons_succ, i64_w, i32_w]
      rfl
    refine pure_ (i := 17) (N := some 155) (v := ?_) (a' := ?_) #[true, true, true, true, true, true, true, true, true, true, true, true, true, true, true, true, true, true, false, false, false] rfl rfl (by kernel_rfl) (fun _ _ _ h => h) (Or.inl ⟨by rfl, ?_⟩) ?_ ?_
    rotate_left
    · intro w'
      go_simp
      with_reducible rfl
    rotate_left
    · simp only [Act.put, List.setIfInBounds_toArray, List.set_cons_zero, List.set_cons_succ, i64_w, i32_w]
      rfl
    refine last_ (i := 18) (N := some 156) #[true, true, true, true, true, true, true, true, true, true, true, true, true, true, true, true, true, true, true, false, false] rfl rfl (by kernel_rfl) (by decide) (fun K hK => ?_)
    refine goes_ Tryd.func12 (by kernel_rfl) rfl #[] (by rfl) rfl rfl (by simp) ?_
    with_reducible refine (remoralaw29_awake.calls true _ (HG.out.below (below_drew HB11.out)) rfl).mono ?_
    rintro e w13 ⟨rfl, hb13'⟩
    refine ⟨_, rfl, ?_⟩
    have hb13 := below_step (below_drew (Below.refl _ w11)) hb13'
    refine hK.out _ _ ?_
    clear hK K
    refine norm_ (a' := ?_) ?_ ?_
    rotate_left
    · show Act.put _ (some 156) _ = _
      simp only [Act.put, List.setIfInBounds_toArray, List.set_cons_zero, List.set_cons_succ, i64_w, i32_w]
      rfl
    refine pure_ (i := 19) (N := some 157) (v := ?_) (a' := ?_) #[true, true, true, true, true, true, true, true, true, true, true, true, true, true, true, true, true, true, true, true, false] rfl rfl (by kernel_rfl) (fun _ _ _ h => h) (Or.inl ⟨by rfl, ?_⟩) ?_ ?_
    rotate_left
    · intro w'
      go_simp
      with_reducible rfl
    rotate_left
    · simp only [Act.put, List.setIfInBounds_toArray, List.set_cons_zero, List.set_cons_succ, i64_w, i32_w]
      rfl
    refine pure_ (i := 20) (N := some 6) (v := ?_) (a' := ?_) #[true, true, true, true, true, true, true, true, true, true, true, true, true, true, true, true, true, true, true, true, true] rfl rfl (by kernel_rfl) (fun _ _ _ h => h) (Or.inl ⟨by rfl, ?_⟩) ?_ ?_
    rotate_left
    · intro w'
      go_simp
      with_reducible rfl
    rotate_left
    · simp only [Act.put, List.setIfInBounds_toArray, List.set_cons_zero, List.set_cons_succ, i64_w, i32_w]
      rfl
    refine done_ (by kernel_rfl) ?_
    have HB13 := Aside0.mk (below_step HB0.out (below_step HB11.out hb13))
    clear hb13
    go_wp2
    go_ret
    exact ⟨rfl, HB13.out⟩
/-- What is left to plain Lean: what Put, Open and Get answer. -/
def remoralaw29_FrameBack.f : Option Bool := some true
def remoralaw29_FrameBack.Pure : Prop := ∀ (kind : Int) (body la lb : List Int), 0 ≤ kind → kind ≤ 255 → (∀ x ∈ body, 0 ≤ x ∧ x ≤ 255) → (∀ x ∈ la, 0 ≤ x ∧ x ≤ 255) → (∀ x ∈ lb, 0 ≤ x ∧ x ≤ 255) → body.length + la.length + lb.length ≤ 20000 →
  ∃ (k : Nat) (B O N : List Int) (y : Int) (Y : List Int) (nx h : Int), frame_Put.f k kind body = some (B, 0) ∧ crc_Open.f B = some (O, 0) ∧ num_Put.f k [kind] (body.length : Int) = some N ∧ N ++ body = O ∧ N.length ≤ 100 ∧ B.length ≤ 30000 ∧
    frame_Get.f k ((la ++ B) ++ lb) (la.length : Int) = some (kind, body, (la.length : Int) + (B.length : Int), 0) ∧ frame_Get.f k ((la ++ B) ++ lb) 0 = some (y, Y, nx, h) ∧
    ((h ≠ 0 ∧ y = 0 ∧ Y = [] ∧ nx = 0) ∨ (h = 0 ∧ ∃ Z, frame_Put.f k y Y = some (Z, 0) ∧ 0 ≤ nx ∧ nx ≤ (((la ++ B) ++ lb).length : Int) ∧ Z = ((la ++ B) ++ lb).take nx.toNat))
set_option maxHeartbeats 2000000 in
theorem back_big (A0 : Option Addr) (n c0 : Nat) (A : Option Addr) (m ca : Nat) (D : Option Addr) (q cd : Nat) (kind : Int) (w : World) (hG : GT w) (hm1 : n ≤ 140737488351232) (hm2 : m ≤ 140737488351232) (hm3 : q ≤ 140737488351232) (hsum : 20000 < n + m + q) :
    Calls Tryd.prog 5 #[.int .u8 kind, .slice A0 n c0, .agg #[.slice A m ca, .slice D q cd]] w fun e w' => e = .returned (.bool true) ∧ Below w.heap.size w w' := by
  have u0 := fr_new w (.cells #[.slice A m ca, .slice D q cd] 38)
  have z0 : (w.alloc (.cells #[.slice A m ca, .slice D q cd] 38)).cell? ⟨w.heap.size, 0, none⟩ = some (.slice A m ca) := by rw [cell_of_row _ _ _ _ 38 (0, 0) u0]; rfl
  have z1 : (w.alloc (.cells #[.slice A m ca, .slice D q cd] 38)).cell? ⟨w.heap.size, 1, none⟩ = some (.slice D q cd) := by rw [cell_of_row _ _ _ _ 38 (0, 0) u0]; rfl
  have HG := Aside0.mk (hG.alloc (.cells #[.slice A m ca, .slice D q cd] 38))
  have d1 : decide (20000 < (n : Int) + (m : Int) + (q : Int)) = true := decide_eq_true (by omega)
  have d2 : decide (20000 < n + m + q) = true := decide_eq_true (by omega)
  clear hG u0 hsum
  go_enter Tryd.func5, Tryd.ntmps5
  go_wp2_with fail
  refine (remoralaw29_awake.calls true _ HG.out rfl).mono ?_
  rintro e w1 ⟨rfl, hb⟩
  have HB := Aside0.mk (below_step (below_alloc (Below.refl _ w) _) hb)
  clear hb
  go_wp2
  go_ret
  exact ⟨rfl, HB.out⟩
theorem remoralaw29_FrameBack.walk (P : remoralaw29_FrameBack.Pure) (A0 : Option Addr) (c0 : Nat) (A : Option Addr) (ca : Nat) (D : Option Addr) (cd : Nat) (kind : Int) (body la lb : List Int) (w : World) (hG : GT w) (hC : Kd.C (Kd.int .u8) w A0 body.length body) (hc0 : body.length ≤ c0)
    (hCa : Kd.C (Kd.int .u8) w A la.length la) (hca : la.length ≤ ca) (hCd : Kd.C (Kd.int .u8) w D lb.length lb) (hcd : lb.length ≤ cd) (hk0 : 0 ≤ kind) (hk1 : kind ≤ 255) (hb1 : ∀ x ∈ body, 0 ≤ x ∧ x ≤ 255) (hb2 : ∀ x ∈ la, 0 ≤ x ∧ x ≤ 255) (hb3 : ∀ x ∈ lb, 0 ≤ x ∧ x ≤ 255)
    (hm1 : body.length ≤ 140737488351232) (hm2 : la.length ≤ 140737488351232) (hm3 : lb.length ≤ 140737488351232) :
    Calls Tryd.prog 5 #[.int .u8 kind, .slice A0 body.length c0, .agg #[.slice A la.length ca, .slice D lb.length cd]] w fun e w' => e = .returned (.bool true) ∧ Below w.heap.size w w' := by
  by_cases hs : body.length + la.length + lb.length ≤ 20000
  · obtain ⟨k, B, O, N, y, Y, nx, h, h1, h2, h3, h4, h5, h6, h7, h8, h9⟩ := P kind body la lb hk0 hk1 hb1 hb2 hb3 hs
    exact back_true k A0 c0 A ca D cd kind body la lb B O N _ w hG hC hc0 hCa hca hCd hcd hk0 hk1 hs h1 h2 h3 h4 h5 h6 rfl h7 y Y nx h h8 h9
  · exact back_big A0 _ c0 A _ ca D _ cd kind w hG hm1 hm2 hm3 (by omega)


end Go.Proofs.YtmllikjhflnngaaDoor.P
