-- Written by a program of the session (wip/tool/mk.py) out of the translation; Lean checks it.
import Derived.Test.YtniboafnkiijcaaDoorPx0
import Derived.Test.YtniboafnkiijcaaDoorPx1
import Derived.Test.YtniboafnkiijcaaDoorPx2
namespace Go.Proofs.YtniboafnkiijcaaDoor.P
open Go.RowKit Go.Proofs.YtniboafnkiijcaaDoorW.PrintWords Go.Proofs.YtniboafnkiijcaaDoorW.PrintLast Go.Proofs.YtniboafnkiijcaaDoorW.PrintMore
attribute [local go_sem] max2_int min2_int max_two min_two max_three min_three max_four min_four   -- for this text's walks alone
set_option linter.unusedVariables false
set_option linter.unusedSimpArgs false

/-! ### ledger_Ledger_Tell: function 23, a contract of my own -/
def tellX (q : ByteArray) (s : St) (sm : ByteArray) : Ln := ⟨q, s.ino, s.size, s.sec, s.nano, sm⟩
def tellE (q : ByteArray) (s : St) (sm : ByteArray) : Int := if mayF (tellX q s sm) = 9 then 9 else if s.kind = 1 then mayF (tellX q s sm) else 17
def capS (room : Int) (S : List Ln) : List Ln := if (S.length : Int) > room then S.tail else S
theorem outS_head (y : Ln) (S : List Ln) (h : (paths (y :: S)).Nodup) : outS (eqP y.path) (y :: S) = S := by
  unfold outS
  rw [List.filter_cons, if_neg (by simp [(eqP_iff y.path y.path).2 rfl]), List.filter_eq_self]
  intro z hz
  have hne : z.path ≠ y.path := fun e => (List.nodup_cons.1 h).1 (by rw [← e]; exact List.mem_map.2 ⟨z, hz, rfl⟩)
  cases hz2 : eqP y.path z.path with
  | true => exact absurd ((eqP_iff _ _).1 hz2) hne
  | false => rfl
theorem Lg.mono {b0 p mb n n' : Nat} {room : Int} {v : Value} {S : List Ln} {w : World} (h : Lg b0 p mb n room v S w) (hn : n ≤ n') : Lg b0 p mb n' room v S w := by
  obtain ⟨D, hown, h2⟩ := h.hM
  exact ⟨h.hP, ⟨D, hown.mono hn, h2⟩, h.hR, h.hN, h.hz, h.hne, h.hp0, h.hm0, h.hl⟩
set_option maxHeartbeats 8000000 in
set_option maxRecDepth 20000 in
theorem led_Tell.at_ (b0 p mb n : Nat) (room : Int) (v : Value) (S : List Ln) (q : ByteArray) (s : St) (sm : ByteArray) (w : World) (h : Lg b0 p mb n room v S w) (hq : q.size ≤ 1000000) (hS : S.length < 1000000) (hn : n ≤ 1000000) :
    Calls Tryd.prog 23 #[.pointer (some ⟨p, 0, none⟩), .string q, stV s, .string sm] w fun e w' => e = .returned (.int .i64 (tellE q s sm)) ∧
      ((tellE q s sm ≠ 0 ∧ Lg b0 p mb n room v S w' ∧ Below w.heap.size w w') ∨
       (tellE q s sm = 0 ∧ ∃ v', Lg b0 p mb (n + 1) room v' (capS room (lastS (tellX q s sm) S)) w' ∧ Bm p mb w w' ∧ ∀ j, v'.ownBlock = some j → w.heap.size ≤ j)) := by
  have hmf : ∀ (fn : Fn) (first cap : Array Value) (w : World), (Instr.makeFunc fn first cap).run Tryd.prog w = .ok (.func fn first cap) w := fun _ _ _ _ => rfl
  obtain ⟨w1, hw1⟩ : ∃ w1, w.alloc (.cells (stC s) 37) = w1 := ⟨_, rfl⟩
  obtain ⟨g, hg⟩ : ∃ g, w.heap.size = g := ⟨_, rfl⟩
  have HG1 : Aside0 (w1.heap[g]? = some (.cells (stC s) 37 (0, 0))) := ⟨by rw [← hw1, ← hg]; exact blk_new w _⟩
  have HB1 : Aside0 (Below g w w1) := ⟨by rw [← hw1, ← hg]; exact below_alloc (Below.refl _ _) _⟩
  have HL1 := Aside0.mk (h.below (by rw [hg]; exact HB1.out))
  have HW1 : Aside0 (w1.heap.size = g + 1) := ⟨by rw [← hw1, ← hg]; simp⟩
  have HQ := Aside0.mk hq
  have HS := Aside0.mk (And.intro hS hn)
  have HH := Aside0.mk h
  obtain ⟨gx, hgx⟩ : ∃ gx, g + 1 = gx := ⟨_, rfl⟩
  have hsz : w1.heap.size = gx := by rw [HW1.out, hgx]
  obtain ⟨w2, hw2⟩ : ∃ w2, w1.alloc (.cells #[.string q, .int .i64 s.ino, .int .i64 s.size, .int .i64 s.sec, .int .i64 s.nano, .string sm] 68) = w2 := ⟨_, rfl⟩
  have HX2 : Aside0 (w2.heap[gx]? = some (.cells #[.string q, .int .i64 s.ino, .int .i64 s.size, .int .i64 s.sec, .int .i64 s.nano, .string sm] 68 (0, 0))) := ⟨by rw [← hw2, ← hsz]; exact blk_new w1 _⟩
  have HB2 : Aside0 (Below gx w1 w2) := ⟨by rw [← hw2, ← hsz]; exact below_alloc (Below.refl _ _) _⟩
  have HBW : Aside0 (Below w.heap.size w w2) := ⟨ld_step (by rw [hg]; exact HB1.out) (by rw [hsz]; exact HB2.out)⟩
  have HNE : Aside0 (gx ≠ p ∧ gx ≠ mb ∧ g ≠ p ∧ g ≠ mb) := ⟨by have h1 := blk_lt h.hP; have h2 := h.hM.lt; exact ⟨by omega, by omega, by omega, by omega⟩⟩
  have HG2 := Aside0.mk (blk_below HG1.out (by rw [hsz]; exact HB2.out))
  obtain ⟨s0, s1, s2, s5, s6⟩ := st_cells HG1.out
  obtain ⟨x0, x1, x2, x3, x4, x5⟩ := ln_cells (x := (⟨q, s.ino, s.size, s.sec, s.nano, sm⟩ : Ln)) HX2.out
  dsimp only at x0 x1 x2 x3 x4 x5
  have HMay := Aside0.mk (line_may.at_ (tellX q s sm) hq w2)
  unfold lnV at HMay
  have HE : Aside0 (mayF (tellX q s sm) = 9 ∨ mayF (tellX q s sm) = 2 ∨ mayF (tellX q s sm) = 0) := ⟨by unfold mayF; split; exact .inl rfl; split; exact .inr (.inl rfl); exact .inr (.inr rfl)⟩
  obtain ⟨r, hr⟩ : ∃ r, tellE q s sm = r := ⟨_, rfl⟩
  rw [hr]
  unfold tellE at hr
  have HRr := Aside0.mk hr
  unfold tellX at HMay HE HRr ⊢
  dsimp only at HMay
  unfold stV
  clear h hq hS hn hr
  go_enter Tryd.func23, Tryd.ntmps23
  go_wp2_with fail
  refine HMay.out.mono ?_
  rintro e w3 ⟨rfl, hb⟩
  have HB3 := Aside0.mk (ld_step HBW.out hb)
  have HL3 := Aside0.mk (HH.out.below HB3.out)
  have HX3 := Aside0.mk (blk_below HX2.out hb)
  have HG3 := Aside0.mk (blk_below HG2.out hb)
  clear hb s0 s1 s2 s5 s6 x0 x1 x2 x3 x4 x5 HMay
  obtain ⟨s0, s1, s2, s5, s6⟩ := st_cells HG3.out
  have HRR := HRr.out
  generalize mayF (⟨q, s.ino, s.size, s.sec, s.nano, sm⟩ : Ln) = f at HE HRR ⊢
  have quit : ∀ z : Int, z = r → z ≠ 0 → (Ending.returned (.int .i64 z) = Ending.returned (.int .i64 r) ∧ ((r ≠ 0 ∧ Lg b0 p mb n room v S w3 ∧ Below w.heap.size w w3) ∨ (r = 0 ∧ ∃ v', Lg b0 p mb (n + 1) room v' (capS room (lastS (⟨q, s.ino, s.size, s.sec, s.nano, sm⟩ : Ln) S)) w3 ∧ Bm p mb w w3 ∧ ∀ j, v'.ownBlock = some j → w.heap.size ≤ j))) := fun z hz h0 => ⟨by rw [hz], .inl ⟨by rw [← hz]; exact h0, HL3.out, HB3.out⟩⟩
  rcases HE.out with rfl | rfl | rfl
  · have HQ9 := Aside0.mk (quit 9 (by simpa using HRR) (by decide))
    clear HRR
    go_wp2
    go_ret
    have q9 := HQ9.out
    rw [hg] at q9
    first | exact q9 | (rw [hg]; exact q9) | exact HQ9.out
  · by_cases k0 : s.kind = 1
    · have e0 : (s.kind == 1) = true := beq_iff_eq.mpr k0
      have e0' : (s.kind != 1) = false := bne_eq_false_iff_eq.mpr k0
      have HQ9 := Aside0.mk (quit 2 (by simpa [k0] using HRR) (by decide))
      clear k0 HRR
      go_wp2
      go_ret
      have q9 := HQ9.out
      rw [hg] at q9
      first | exact q9 | (rw [hg]; exact q9) | exact HQ9.out
    · have e0 : (s.kind == 1) = false := beq_eq_false_iff_ne.mpr k0
      have e0' : (s.kind != 1) = true := bne_iff_ne.mpr k0
      have HQ9 := Aside0.mk (quit 17 (by simpa [k0] using HRR) (by decide))
      clear k0 HRR
      go_wp2
      go_ret
      have q9 := HQ9.out
      rw [hg] at q9
      first | exact q9 | (rw [hg]; exact q9) | exact HQ9.out
  · by_cases k0 : s.kind = 1
    rotate_left
    · have e0 : (s.kind == 1) = false := beq_eq_false_iff_ne.mpr k0
      have e0' : (s.kind != 1) = true := bne_iff_ne.mpr k0
      have HQ9 := Aside0.mk (quit 17 (by simpa [k0] using HRR) (by decide))
      clear k0 HRR
      go_wp2
      go_ret
      have q9 := HQ9.out
      rw [hg] at q9
      first | exact q9 | (rw [hg]; exact q9) | exact HQ9.out
    have e0 : (s.kind == 1) = true := beq_iff_eq.mpr k0
    have e0' : (s.kind != 1) = false := bne_eq_false_iff_eq.mpr k0
    have hr0 : 0 = r := by simpa [k0] using HRR
    have HLa := Aside0.mk (row_last.at_ b0 p mb n room v S (⟨q, s.ino, s.size, s.sec, s.nano, sm⟩ : Ln) w3.drew (HL3.out.below (below_drew (Below.refl _ _))) HQ.out HS.out.1 HS.out.2)
    unfold lnV at HLa
    have HR0 := Aside0.mk hr0
    clear k0 quit HRR hr0
    go_wp2_with fail
    refine start_ (n := 6) (S := fun w' => w'.cell? ⟨gx, 0, none⟩ = some (.string q) ∧ w'.cell? ⟨gx, 1, none⟩ = some (.int .i64 s.ino) ∧ w'.cell? ⟨gx, 2, none⟩ = some (.int .i64 s.size) ∧ w'.cell? ⟨gx, 3, none⟩ = some (.int .i64 s.sec) ∧ w'.cell? ⟨gx, 4, none⟩ = some (.int .i64 s.nano) ∧ w'.cell? ⟨gx, 5, none⟩ = some (.string sm)) (ds := []) #[false, false, false, false, false, false] (by kernel_rfl) rfl rfl ⟨(ln_cells (x := (⟨q, s.ino, s.size, s.sec, s.nano, sm⟩ : Ln)) HX3.out).1, (ln_cells (x := (⟨q, s.ino, s.size, s.sec, s.nano, sm⟩ : Ln)) HX3.out).2.1, (ln_cells (x := (⟨q, s.ino, s.size, s.sec, s.nano, sm⟩ : Ln)) HX3.out).2.2.1, (ln_cells (x := (⟨q, s.ino, s.size, s.sec, s.nano, sm⟩ : Ln)) HX3.out).2.2.2.1, (ln_cells (x := (⟨q, s.ino, s.size, s.sec, s.nano, sm⟩ : Ln)) HX3.out).2.2.2.2.1, (ln_cells (x := (⟨q, s.ino, s.size, s.sec, s.nano, sm⟩ : Ln)) HX3.out).2.2.2.2.2⟩ (fun hHeld => ?_)
    refine pure_ (i := 0) (N := some 38) (v := ?_) (a' := ?_) #[true, false, false, false, false, false] rfl rfl (by kernel_rfl) (fun _ _ _ h => h) (Or.inl ⟨by rfl, ?_⟩) ?_ ?_
    rotate_left
    · intro w'
      go_simp
      with_reducible rfl
    rotate_left
    · simp only [Act.put, List.setIfInBounds_toArray, List.set_cons_zero, List.set_cons_succ, i64_w, i32_w]
      rfl
    refine pure_ (i := 1) (N := some 39) (v := ?_) (a' := ?_) #[true, true, false, false, false, false] rfl rfl (by kernel_rfl) (fun _ _ _ h => h) (Or.inl ⟨by rfl, ?_⟩) ?_ ?_
    rotate_left
    · intro w'
      go_simp
      with_reducible rfl
    rotate_left
    · simp only [Act.put, List.setIfInBounds_toArray, List.set_cons_zero, List.set_cons_succ, i64_w, i32_w]
      rfl
    refine pure_ (i := 2) (N := some 40) (v := ?_) (a' := ?_) #[true, true, true, false, false, false] rfl rfl (by kernel_rfl) (fun _ _ _ h => h) (Or.inl ⟨by rfl, ?_⟩) ?_ ?_
    rotate_left
    · intro w'
      go_simp
      with_reducible rfl
    rotate_left
    · simp only [Act.put, List.setIfInBounds_toArray, List.set_cons_zero, List.set_cons_succ, i64_w, i32_w]
      rfl
    refine pure_ (i := 3) (N := some 41) (v := ?_) (a' := ?_) #[true, true, true, true, false, false] rfl rfl (by kernel_rfl) (fun _ _ _ h => h) (Or.inl ⟨by rfl, ?_⟩) ?_ ?_
    rotate_left
    · intro w'
      go_simp
      with_reducible rfl
    rotate_left
    · simp only [Act.put, List.setIfInBounds_toArray, List.set_cons_zero, List.set_cons_succ, i64_w, i32_w]
      rfl
    refine take_ (i := 4) (N := some 42) (v := ?_) (a' := ?_) #[true, true, true, true, true, false] rfl rfl (by kernel_rfl) (fun _ _ _ h => h) (Or.inl ⟨by rfl, ?_⟩) hHeld ?_ ?_
    rotate_left
    · rintro w' ⟨s0, s1, s2, s3, s4, s5⟩
      go_simp
      with_reducible rfl
    rotate_left
    · simp only [Act.put, List.setIfInBounds_toArray, List.set_cons_zero, List.set_cons_succ, i64_w, i32_w]
      rfl
    refine one_ (i := 5) (N := some 43) #[true, true, true, true, true, true] rfl rfl (by kernel_rfl) (by decide) (fun K hK => ?_)
    refine goes_ Tryd.func42 (by kernel_rfl) rfl #[.pointer (some ⟨p, 1, none⟩), .string q, .agg #[.string q, .int .i64 s.ino, .int .i64 s.size, .int .i64 s.sec, .int .i64 s.nano, .string sm]] (by rfl) rfl rfl (by simp only [List.map_toArray, List.map_cons, List.map_nil]; rfl) ?_
    with_reducible refine (HLa.out).mono ?_
    rintro e w4 ⟨rfl, v4, hL4, hB4, hO4⟩
    refine ⟨_, rfl, ?_⟩
    have HL4 := Aside0.mk hL4
    have HB4 := Aside0.mk hB4
    have HO4 := Aside0.mk hO4
    have HX4 := Aside0.mk (hB4.blk (w := w3.drew) HX3.out HNE.out.1 HNE.out.2.1)
    clear hL4 hB4 hO4
    refine hK.out _ _ ⟨(ln_cells (x := (⟨q, s.ino, s.size, s.sec, s.nano, sm⟩ : Ln)) HX4.out).1, (ln_cells (x := (⟨q, s.ino, s.size, s.sec, s.nano, sm⟩ : Ln)) HX4.out).2.1, (ln_cells (x := (⟨q, s.ino, s.size, s.sec, s.nano, sm⟩ : Ln)) HX4.out).2.2.1, (ln_cells (x := (⟨q, s.ino, s.size, s.sec, s.nano, sm⟩ : Ln)) HX4.out).2.2.2.1, (ln_cells (x := (⟨q, s.ino, s.size, s.sec, s.nano, sm⟩ : Ln)) HX4.out).2.2.2.2.1, (ln_cells (x := (⟨q, s.ino, s.size, s.sec, s.nano, sm⟩ : Ln)) HX4.out).2.2.2.2.2⟩ (fun hHeld => ?_)
    clear hK K
    refine norm_ (a' := ?_) ?_ ?_
    rotate_left
    · show Act.put _ (some 43) _ = _
      simp only [Act.put, List.setIfInBounds_toArray, List.set_cons_zero, List.set_cons_succ, i64_w, i32_w]
      rfl
    refine done_ (by kernel_rfl) ?_
    clear hHeld s0 s1 s2 s5 s6 HLa
    generalize hS1 : lastS (⟨q, s.ino, s.size, s.sec, s.nano, sm⟩ : Ln) S = S1 at HL4
    have HBW4 := Aside0.mk ((((Bm.refl p mb w).below HB3.out).below (below_drew (Below.refl _ _))).trans HB4.out)
    have HO4' : Aside0 (∀ j, v4.ownBlock = some j → w.heap.size ≤ j) := ⟨fun j hj => by have h1 := HO4.out j hj; have h2 : w3.heap.size ≤ j := h1; have := HB3.out.size; omega⟩
    obtain ⟨A, c, rfl, hc, hC⟩ := Kd.R_reads HL4.out.hR
    obtain ⟨m, hm⟩ : ∃ m, m = (paths S1).length := ⟨_, rfl⟩
    have hmS : m = S1.length := by rw [hm]; unfold paths; rw [List.length_map]
    have HC4 := Aside0.mk hC
    have HM := Aside0.mk (And.intro hm hmS)
    have HP4 := Aside0.mk HL4.out.hP
    rw [← hm] at HP4
    clear hC hc hm hmS
    go_wp2_with fail
    refine start_ (n := 11) (S := fun w' => w'.cell? ⟨p, 0, none⟩ = some (.int .i64 room) ∧ w'.cell? ⟨p, 1, none⟩ = some (.slice A m c)) (ds := []) #[false, false, false, false, false, false, false, false, false, false, false] (by kernel_rfl) rfl rfl ⟨(rw_cells HP4.out).1, (rw_cells HP4.out).2.1⟩ (fun hHeld => ?_)
    refine pure_ (i := 0) (N := some 44) (v := ?_) (a' := ?_) #[true, false, false, false, false, false, false, false, false, false, false] rfl rfl (by kernel_rfl) (fun _ _ _ h => h) (Or.inl ⟨by rfl, ?_⟩) ?_ ?_
    rotate_left
    · intro w'
      go_simp
      with_reducible rfl
    rotate_left
    · simp only [Act.put, List.setIfInBounds_toArray, List.set_cons_zero, List.set_cons_succ, i64_w, i32_w]
      rfl
    refine pure_ (i := 1) (N := some 45) (v := ?_) (a' := ?_) #[true, true, false, false, false, false, false, false, false, false, false] rfl rfl (by kernel_rfl) (fun _ _ _ h => h) (Or.inl ⟨by rfl, ?_⟩) ?_ ?_
    rotate_left
    · intro w'
      go_simp
      with_reducible rfl
    rotate_left
    · simp only [Act.put, List.setIfInBounds_toArray, List.set_cons_zero, List.set_cons_succ, i64_w, i32_w]
      rfl
    refine pure_ (i := 2) (N := some 46) (v := ?_) (a' := ?_) #[true, true, true, false, false, false, false, false, false, false, false] rfl rfl (by kernel_rfl) (fun _ _ _ h => h) (Or.inl ⟨by rfl, ?_⟩) ?_ ?_
    rotate_left
    · intro w'
      go_simp
      with_reducible rfl
    rotate_left
    · simp only [Act.put, List.setIfInBounds_toArray, List.set_cons_zero, List.set_cons_succ, i64_w, i32_w]
      rfl
    refine pure_ (i := 3) (N := some 47) (v := ?_) (a' := ?_) #[true, true, true, true, false, false, false, false, false, false, false] rfl rfl (by kernel_rfl) (fun _ _ _ h => h) (Or.inl ⟨by rfl, ?_⟩) ?_ ?_
    rotate_left
    · intro w'
      go_simp
      with_reducible rfl
    rotate_left
    · simp only [Act.put, List.setIfInBounds_toArray, List.set_cons_zero, List.set_cons_succ, i64_w, i32_w]
      rfl
    refine pure_ (i := 6) (N := some 50) (v := ?_) (a' := ?_) #[true, true, true, true, false, false, true, false, false, false, false] rfl rfl (by kernel_rfl) (fun _ _ _ h => h) (Or.inl ⟨by rfl, ?_⟩) ?_ ?_
    rotate_left
    · intro w'
      go_simp
      with_reducible rfl
    rotate_left
    · simp only [Act.put, List.setIfInBounds_toArray, List.set_cons_zero, List.set_cons_succ, i64_w, i32_w]
      rfl
    refine pure_ (i := 7) (N := some 51) (v := ?_) (a' := ?_) #[true, true, true, true, false, false, true, true, false, false, false] rfl rfl (by kernel_rfl) (fun _ _ _ h => h) (Or.inl ⟨by rfl, ?_⟩) ?_ ?_
    rotate_left
    · intro w'
      go_simp
      with_reducible rfl
    rotate_left
    · simp only [Act.put, List.setIfInBounds_toArray, List.set_cons_zero, List.set_cons_succ, i64_w, i32_w]
      rfl
    refine pure_ (i := 8) (N := some 52) (v := ?_) (a' := ?_) #[true, true, true, true, false, false, true, true, true, false, false] rfl rfl (by kernel_rfl) (fun _ _ _ h => h) (Or.inl ⟨by rfl, ?_⟩) ?_ ?_
    rotate_left
    · intro w'
      go_simp
      with_reducible rfl
    rotate_left
    · simp only [Act.put, List.setIfInBounds_toArray, List.set_cons_zero, List.set_cons_succ, i64_w, i32_w]
      rfl
    refine take_ (i := 4) (N := some 48) (v := ?_) (a' := ?_) #[true, true, true, true, true, false, true, true, true, false, false] rfl rfl (by kernel_rfl) (fun _ _ _ h => h) (Or.inl ⟨by rfl, ?_⟩) hHeld ?_ ?_
    rotate_left
    · rintro w' ⟨s0, s1⟩
      go_simp
      with_reducible rfl
    rotate_left
    · simp only [Act.put, List.setIfInBounds_toArray, List.set_cons_zero, List.set_cons_succ, i64_w, i32_w]
      rfl
    refine pure_ (i := 5) (N := some 49) (v := ?_) (a' := ?_) #[true, true, true, true, true, true, true, true, true, false, false] rfl rfl (by kernel_rfl) (fun _ _ _ h => h) (Or.inl ⟨by rfl, ?_⟩) ?_ ?_
    rotate_left
    · intro w'
      go_simp
      with_reducible rfl
    rotate_left
    · simp only [Act.put, List.setIfInBounds_toArray, List.set_cons_zero, List.set_cons_succ, i64_w, i32_w]
      rfl
    refine take_ (i := 9) (N := some 53) (v := ?_) (a' := ?_) #[true, true, true, true, true, true, true, true, true, true, false] rfl rfl (by kernel_rfl) (fun _ _ _ h => h) (Or.inl ⟨by rfl, ?_⟩) hHeld ?_ ?_
    rotate_left
    · rintro w' ⟨s0, s1⟩
      go_simp
      with_reducible rfl
    rotate_left
    · simp only [Act.put, List.setIfInBounds_toArray, List.set_cons_zero, List.set_cons_succ, i64_w, i32_w]
      rfl
    refine pure_ (i := 10) (N := some 54) (v := ?_) (a' := ?_) #[true, true, true, true, true, true, true, true, true, true, true] rfl rfl (by kernel_rfl) (fun _ _ _ h => h) (Or.inl ⟨by rfl, ?_⟩) ?_ ?_
    rotate_left
    · intro w'
      go_simp
      with_reducible rfl
    rotate_left
    · simp only [Act.put, List.setIfInBounds_toArray, List.set_cons_zero, List.set_cons_succ, i64_w, i32_w]
      rfl
    refine done_ (by kernel_rfl) ?_
    have HL5 := Aside0.mk (HL4.out.below (below_drew (Below.refl _ _)))
    have HBW5 := Aside0.mk (HBW4.out.below (below_drew (Below.refl _ _)))
    have HC5 := Aside0.mk (Kd.C_drew HC4.out)
    have HP5 : Aside0 (w4.drew.heap[p]? = _) := HP4
    clear hHeld HL4 HBW4 HC4 HP4
    generalize w4.drew = w5 at HL5 HBW5 HC5 HP5 ⊢
    have q1 := (rw_cells HP5.out).2.1
    by_cases kc : room < (m : Int)
    rotate_left
    · have ec : decide (room < (m : Int)) = false := decide_eq_false kc
      have KC := Aside0.mk kc
      clear kc
      rw [ec]
      go_wp2
      go_ret
      have hL := HL5.out
      refine ⟨by first | (show Ending.returned (.int .i64 0) = _; rw [HR0.out]; done) | (show Ending.returned (.int .i64 r) = _; rfl), .inr ⟨HR0.out.symm, _, ?_, HBW5.out, by first | exact HO4'.out | (rw [← hg]; exact HO4'.out)⟩⟩
      try rw [hS1]
      unfold capS
      rw [if_neg (by have := KC.out; have := HM.out; omega)]
      exact hL
    have ec : decide (room < (m : Int)) = true := decide_eq_true kc
    have KC := Aside0.mk kc
    cases hcs : S1 with
    | nil =>
      exfalso
      rw [hcs] at hS1
      unfold lastS at hS1
      simp at hS1
    | cons y T =>
    subst hcs
    have hm0 : (0 < m) = True := eq_true (by rw [HM.out.2]; simp)
    have hm0' : ((0 : Int) < (m : Int)) = True := eq_true (by have := of_eq_true hm0; omega)
    obtain ⟨ad, f0, rfl, hf0, hcell⟩ := str_at HC5.out 0 (by have := HM.out.1; have := of_eq_true hm0; omega)
    obtain rfl : y.path = f0 := by simpa [paths] using hf0
    rw [Addr.add_zero'] at hcell
    obtain ⟨gf, hgf⟩ : ∃ gf, w5.heap.size = gf := ⟨_, rfl⟩
    obtain ⟨w6, hw6⟩ : ∃ w6, w5.alloc (.cells #[.string y.path] 9) = w6 := ⟨_, rfl⟩
    have HF6 : w6.heap[gf]? = some (.cells #[.string y.path] 9 (0, 0)) := by rw [← hw6, ← hgf]; exact blk_new w5 _
    have HB6 : Below w5.heap.size w5 w6 := by rw [← hw6]; exact below_alloc (Below.refl _ _) _
    have hp5 := blk_lt HP5.out
    have hm5 := HL5.out.hM.lt
    have HO := Aside0.mk (row_out.tell b0 p mb (n + 1) gf y.path (eqP y.path) room _ (y :: T) w6 (HL5.out.below HB6) HF6 (by omega) (by omega) (fun w2 s h2 _ => clo_tell gf y.path s w2 h2))
    rw [outS_head y T HL5.out.hN] at HO
    have HBW6 := Aside0.mk (HBW5.out.below HB6)
    clear hf0 HF6 HB6 hp5 hm5 kc
    rw [ec]
    go_wp2_with fail
    refine HO.out.mono ?_
    rintro e w7 ⟨rfl, v7, hL7, hB7, hO7⟩
    have HL7 := Aside0.mk hL7
    have HB7 := Aside0.mk (HBW6.out.trans hB7)
    have HO7 : Aside0 (∀ j, v7.ownBlock = some j → w.heap.size ≤ j) := ⟨fun j hj => by have := hO7 j hj; have := HBW6.out.size; omega⟩
    clear hL7 hB7 hO7 HO
    go_wp2
    go_ret
    refine ⟨by first | (show Ending.returned (.int .i64 0) = _; rw [HR0.out]; done) | (show Ending.returned (.int .i64 r) = _; rfl), .inr ⟨HR0.out.symm, v7, ?_, HB7.out, by first | exact HO7.out | (rw [← hg]; exact HO7.out)⟩⟩
    try rw [hS1]
    unfold capS
    rw [if_pos (by have := KC.out; have := HM.out; omega)]
    exact HL7.out
theorem led_Paths.at_ (b0 p mb n : Nat) (room : Int) (v : Value) (S : List Ln) (w : World) (h : Lg b0 p mb n room v S w) :
    Calls Tryd.prog 18 #[.pointer (some ⟨p, 0, none⟩)] w fun e w' => ∃ v', e = .returned v' ∧ Kd.R Kd.string 9 w' w.heap.size (fun _ => True) v' (paths S) ∧ Below w.heap.size w w' := by
  obtain ⟨A, c, rfl, hc, hC⟩ := Kd.R_reads h.hR
  obtain ⟨L, hL⟩ : ∃ L, L = paths S := ⟨_, rfl⟩
  have hlen : L.length ≤ 1000000 := by rw [hL]; unfold paths; rw [List.length_map]; exact h.hl
  have q := (rw_cells h.hP).2.1
  rw [← hL] at q hC hc ⊢
  have HC := Aside0.mk hC
  obtain ⟨m, hm⟩ : ∃ m, m = L.length := ⟨_, rfl⟩
  rw [← hm] at q
  have HM := Aside0.mk hm
  rw [← hm] at HC
  have HL0 : Aside0 ((([] : List ByteArray).length + m) * 16 ≤ 140737488355328) := ⟨by rw [List.length_nil]; omega⟩
  clear h hC hc hL hlen hm
  go_enter Tryd.func18, Tryd.ntmps18
  go_wp2_with (first | ((with_reducible refine gate_builtin (b := .append) (xs := #[.const (.slice none 0 0), .tmp 9]) rfl ?_); at_builtin; refine Kd.R_append_rows Kd.string (w0 := w) w.heap.size rfl (.const (.slice none 0 0)) (.tmp 9) 46 9 (.string ⟨#[]⟩) 16 rfl Tryd.underlying46 ld_info9 rfl (by decide) (by omega) (.slice none 0 0) [] L A m c (fun _ => True) (fun _ => False) rfl rfl (Kd.R_nil _ _ _ _ _) HC.out (fun _ _ h => h) (fun _ h => h.elim) (fun _ _ => trivial) (Below.refl _ _) (Nat.le_refl _) HL0.out ?_; intro v9 w9 ho9 hb9 hg9 ha9; clear ha9))
  go_wp2
  go_ret
  exact ⟨_, rfl, ho9, hb9⟩
/-- A call: 0 Ask, 1 Tell, 2 Forget; any other one: nothing. -/
structure Ac where
  act : Int
  path : ByteArray
  st : St
  sum : ByteArray
def acC (a : Ac) : Array Value := #[.int .i64 a.act, .string a.path, .int .i64 a.st.kind, .int .i64 a.st.ino, .int .i64 a.st.size, .int .i64 a.st.links, .int .i64 a.st.mode, .int .i64 a.st.sec, .int .i64 a.st.nano, .int .i64 a.st.uid, .int .i64 a.st.gid, .string a.st.target, .string a.sum]
def acV (a : Ac) : Value := .agg (acC a)
theorem ld_results4 {fn : Func} {t u v x : Tmp} (h : fn.results = #[.tmp t, .tmp u, .tmp v, .tmp x]) (tmps : Array Value) (P : Program) (w : World) :
    (results fn tmps).run P w = .ok (.tuple #[tmps.getD t undef, tmps.getD u undef, tmps.getD v undef, tmps.getD x undef]) w := by
  simp [results, h]
theorem ac_cells {w : World} {g : Nat} {a : Ac} (h : w.heap[g]? = some (.cells (acC a) 39 (0, 0))) :
    w.cell? ⟨g, 0, none⟩ = some (.int .i64 a.act) ∧ w.cell? ⟨g, 1, none⟩ = some (.string a.path) ∧ w.cell? ⟨g, 2, none⟩ = some (.int .i64 a.st.kind) ∧ w.cell? ⟨g, 3, none⟩ = some (.int .i64 a.st.ino) ∧ w.cell? ⟨g, 4, none⟩ = some (.int .i64 a.st.size) ∧ w.cell? ⟨g, 5, none⟩ = some (.int .i64 a.st.links) ∧ w.cell? ⟨g, 6, none⟩ = some (.int .i64 a.st.mode) ∧ w.cell? ⟨g, 7, none⟩ = some (.int .i64 a.st.sec) ∧ w.cell? ⟨g, 8, none⟩ = some (.int .i64 a.st.nano) ∧ w.cell? ⟨g, 9, none⟩ = some (.int .i64 a.st.uid) ∧ w.cell? ⟨g, 10, none⟩ = some (.int .i64 a.st.gid) ∧ w.cell? ⟨g, 11, none⟩ = some (.string a.st.target) ∧ w.cell? ⟨g, 12, none⟩ = some (.string a.sum) := by
  refine ⟨?_, ?_, ?_, ?_, ?_, ?_, ?_, ?_, ?_, ?_, ?_, ?_, ?_⟩ <;> rw [cell_of_row w g _ _ 39 (0, 0) h] <;> rfl
def askX (S : List Ln) (q : ByteArray) (s : St) : Option Ln := S.find? (fun x => eqP q x.path && mt s x)
theorem askX_none {S : List Ln} {q : ByteArray} {s : St} (h : ∀ x ∈ S, x.path = q → mt s x = false) : askX S q s = none := by
  unfold askX
  rw [List.find?_eq_none]
  intro x hx
  cases he : eqP q x.path with
  | false => simp
  | true => rw [h x hx ((eqP_iff q x.path).1 he)]; simp
theorem nodup_unique {S : List Ln} (h : (paths S).Nodup) {x y : Ln} (hx : x ∈ S) (hy : y ∈ S) (e : x.path = y.path) : x = y := by
  induction S with
  | nil => cases hx
  | cons z T ih =>
    obtain ⟨h1, h2⟩ := List.nodup_cons.1 (show (z.path :: paths T).Nodup from h)
    rcases List.mem_cons.1 hx with rfl | hx'
    · rcases List.mem_cons.1 hy with rfl | hy'
      · rfl
      · exact absurd (List.mem_map.2 ⟨y, hy', e.symm⟩) h1
    · rcases List.mem_cons.1 hy with rfl | hy'
      · exact absurd (List.mem_map.2 ⟨x, hx', e⟩) h1
      · exact ih h2 hx' hy'
theorem askX_some {S : List Ln} {q : ByteArray} {s : St} {x : Ln} (hn : (paths S).Nodup) (hx : x ∈ S) (hq : x.path = q) (hm : mt s x = true) : askX S q s = some x := by
  unfold askX
  cases hf : S.find? (fun x => eqP q x.path && mt s x) with
  | none =>
    have := List.find?_eq_none.1 hf x hx
    rw [(eqP_iff q x.path).2 hq, hm] at this
    exact absurd rfl this
  | some y =>
    have h1 := List.find?_some hf
    have h2 := List.mem_of_find?_eq_some hf
    rw [Bool.and_eq_true] at h1
    exact congrArg some (nodup_unique hn h2 hx (((eqP_iff q y.path).1 h1.1).trans hq.symm))
structure Re where
  sum : ByteArray
  ok : Bool
  e : Int
  k : Int
  S : List Ln
def doF (room : Int) (S : List Ln) (a : Ac) : Re :=
  if a.act = 0 then (match askX S a.path a.st with | none => ⟨⟨#[]⟩, false, 0, 0, S⟩ | some x => ⟨x.sum, true, 0, 0, lastS x S⟩)
  else if a.act = 1 then ⟨⟨#[]⟩, false, tellE a.path a.st a.sum, 0, if tellE a.path a.st a.sum = 0 then capS room (lastS (tellX a.path a.st a.sum) S) else S⟩
  else if a.act = 2 then ⟨⟨#[]⟩, false, 0, (S.length : Int) - (outS (fun q => underF q a.path) S).length, outS (fun q => underF q a.path) S⟩
  else ⟨⟨#[]⟩, false, 0, 0, S⟩
def reV (r : Re) : Value := .tuple #[.string r.sum, .bool r.ok, .int .i64 r.e, .int .i64 r.k]
set_option maxHeartbeats 8000000 in
set_option maxRecDepth 20000 in
theorem law_Do.at_ (b0 p mb n : Nat) (room : Int) (v : Value) (S : List Ln) (a : Ac) (w : World) (h : Lg b0 p mb n room v S w) (hq : a.path.size ≤ 1000000) (hS : S.length < 1000000) (hn : n ≤ 1000000) :
    Calls Tryd.prog 11 #[.pointer (some ⟨p, 0, none⟩), acV a] w fun e w' => e = .returned (reV (doF room S a)) ∧ ∃ v', Lg b0 p mb (n + 1) room v' (doF room S a).S w' ∧ Bm p mb w w' := by
  obtain ⟨w1, hw1⟩ : ∃ w1, w.alloc (.cells (acC a) 39) = w1 := ⟨_, rfl⟩
  obtain ⟨g, hg⟩ : ∃ g, w.heap.size = g := ⟨_, rfl⟩
  have HG1 : Aside0 (w1.heap[g]? = some (.cells (acC a) 39 (0, 0))) := ⟨by rw [← hw1, ← hg]; exact blk_new w _⟩
  have HB1 : Aside0 (Below w.heap.size w w1) := ⟨by rw [← hw1]; exact below_alloc (Below.refl _ _) _⟩
  have HL1 := Aside0.mk (h.below HB1.out)
  have HBm := Aside0.mk ((Bm.refl p mb w).below HB1.out)
  have HN := Aside0.mk h.hN
  obtain ⟨c0, c1, c2, c3, c4, c5, c6, c7, c8, c9, c10, c11, c12⟩ := ac_cells HG1.out
  have HAsk := Aside0.mk (led_Ask.at_ b0 p mb n room v S a.path a.st w1 HL1.out hq hS hn)
  have HTell := Aside0.mk (led_Tell.at_ b0 p mb n room v S a.path a.st a.sum w1 HL1.out hq hS hn)
  have HFor := Aside0.mk (led_Forget.at_ b0 p mb n room v S a.path w1 HL1.out hq)
  unfold stV stC at HAsk HTell
  have HD : Aside0 (∀ r, r = doF room S a → reV (doF room S a) = reV r) := ⟨fun r h => by rw [h]⟩
  unfold acV
  clear h hq hS hn
  by_cases k0 : a.act = 0
  · have e0 : (a.act == 0) = true := beq_iff_eq.mpr k0
    have K0 := Aside0.mk k0
    clear k0
    go_enter Tryd.func11, Tryd.ntmps11
    go_wp2_with fail
    refine HAsk.out.mono ?_
    rintro e w2 (⟨rfl, hno, hL, hB⟩ | ⟨x, hx, hxq, hm, rfl, v', hL, hB, _⟩)
    · have HD2 : Aside0 (doF room S a = ⟨⟨#[]⟩, false, 0, 0, S⟩) := ⟨by unfold doF; rw [if_pos K0.out, askX_none hno]⟩
      have HL2 := Aside0.mk (hL.mono (Nat.le_succ n))
      have HB2 := Aside0.mk (HBm.out.below hB)
      clear hL hB hno
      clear HAsk HTell HFor
      go_wp2
      refine bodyPost_ret (ld_results4 rfl _ _ _) rfl ?_
      refine ⟨?_, v, ?_, HB2.out⟩
      · show Ending.returned (.tuple #[.string ⟨#[]⟩, .bool false, .int .i64 0, .int .i64 0]) = _
        rw [HD2.out]; rfl
      · rw [HD2.out]; exact HL2.out
    · have HD2 : Aside0 (doF room S a = ⟨x.sum, true, 0, 0, lastS x S⟩) := ⟨by unfold doF; rw [if_pos K0.out, askX_some HN.out hx hxq hm]⟩
      have HL2 := Aside0.mk hL
      have HB2 := Aside0.mk (HBm.out.trans hB)
      clear hL hB hx hxq hm
      clear HAsk HTell HFor
      go_wp2
      refine bodyPost_ret (ld_results4 rfl _ _ _) rfl ?_
      refine ⟨?_, v', ?_, HB2.out⟩
      · show Ending.returned (.tuple #[.string x.sum, .bool true, .int .i64 0, .int .i64 0]) = _
        rw [HD2.out]; rfl
      · rw [HD2.out]; exact HL2.out
  have e0 : (a.act == 0) = false := beq_eq_false_iff_ne.mpr k0
  by_cases k1 : a.act = 1
  · have e1 : (a.act == 1) = true := beq_iff_eq.mpr k1
    have K1 := Aside0.mk (And.intro k0 k1)
    clear k0 k1
    go_enter Tryd.func11, Tryd.ntmps11
    go_wp2_with fail
    refine HTell.out.mono ?_
    rintro e w2 ⟨rfl, ⟨hz, hL, hB⟩ | ⟨hz, v', hL, hB, _⟩⟩
    · have HD2 : Aside0 (doF room S a = ⟨⟨#[]⟩, false, tellE a.path a.st a.sum, 0, S⟩) := ⟨by unfold doF; rw [if_neg K1.out.1, if_pos K1.out.2, if_neg hz]⟩
      have HL2 := Aside0.mk (hL.mono (Nat.le_succ n))
      have HB2 := Aside0.mk (HBm.out.below hB)
      clear hL hB hz
      clear HAsk HTell HFor
      go_wp2
      refine bodyPost_ret (ld_results4 rfl _ _ _) rfl ?_
      refine ⟨?_, v, ?_, HB2.out⟩
      · show Ending.returned (.tuple #[.string ⟨#[]⟩, .bool false, .int .i64 (tellE a.path a.st a.sum), .int .i64 0]) = _
        rw [HD2.out]; rfl
      · rw [HD2.out]; exact HL2.out
    · have HD2 : Aside0 (doF room S a = ⟨⟨#[]⟩, false, tellE a.path a.st a.sum, 0, capS room (lastS (tellX a.path a.st a.sum) S)⟩) := ⟨by unfold doF; rw [if_neg K1.out.1, if_pos K1.out.2, if_pos hz]⟩
      have HL2 := Aside0.mk hL
      have HB2 := Aside0.mk (HBm.out.trans hB)
      clear hL hB hz
      clear HAsk HTell HFor
      go_wp2
      refine bodyPost_ret (ld_results4 rfl _ _ _) rfl ?_
      refine ⟨?_, v', ?_, HB2.out⟩
      · show Ending.returned (.tuple #[.string ⟨#[]⟩, .bool false, .int .i64 (tellE a.path a.st a.sum), .int .i64 0]) = _
        rw [HD2.out]; rfl
      · rw [HD2.out]; exact HL2.out
  have e1 : (a.act == 1) = false := beq_eq_false_iff_ne.mpr k1
  by_cases k2 : a.act = 2
  · have e2 : (a.act == 2) = true := beq_iff_eq.mpr k2
    have HD2 : Aside0 (doF room S a = ⟨⟨#[]⟩, false, 0, (S.length : Int) - (outS (fun q => underF q a.path) S).length, outS (fun q => underF q a.path) S⟩) := ⟨by unfold doF; rw [if_neg k0, if_neg k1, if_pos k2]⟩
    clear k0 k1 k2
    go_enter Tryd.func11, Tryd.ntmps11
    go_wp2_with fail
    refine HFor.out.mono ?_
    rintro e w2 ⟨rfl, v', hL, hB, _⟩
    have HL2 := Aside0.mk (hL.mono (Nat.le_succ n))
    have HB2 := Aside0.mk (HBm.out.trans hB)
    clear hL hB
    clear HAsk HTell HFor
    go_wp2
    refine bodyPost_ret (ld_results4 rfl _ _ _) rfl ?_
    refine ⟨?_, v', ?_, HB2.out⟩
    · show Ending.returned (.tuple #[.string ⟨#[]⟩, .bool false, .int .i64 0, .int .i64 ((S.length : Int) - (outS (fun q => underF q a.path) S).length)]) = _
      rw [HD2.out]; rfl
    · rw [HD2.out]; exact HL2.out
  have e2 : (a.act == 2) = false := beq_eq_false_iff_ne.mpr k2
  have HD2 : Aside0 (doF room S a = ⟨⟨#[]⟩, false, 0, 0, S⟩) := ⟨by unfold doF; rw [if_neg k0, if_neg k1, if_neg k2]⟩
  have HL2 := Aside0.mk (HL1.out.mono (Nat.le_succ n))
  clear k0 k1 k2
  go_enter Tryd.func11, Tryd.ntmps11
  clear HAsk HTell HFor
  go_wp2
  refine bodyPost_ret (ld_results4 rfl _ _ _) rfl ?_
  refine ⟨?_, v, ?_, HBm.out⟩
  · show Ending.returned (.tuple #[.string ⟨#[]⟩, .bool false, .int .i64 0, .int .i64 0]) = _
    rw [HD2.out]; rfl
  · rw [HD2.out]; exact HL2.out


/-! ### remoralaw33_sum: function 24 -/
def remoralaw33_sum.l0 : Nat → Int → List Int → Int → Option (ByteArray)
  | 0, _, _, _ => none
  | k + 1, x0, x3, x4 => if x4 < 32 then (if 0 ≤ x4 then (if x4 < (x3.length : Int) then (remoralaw33_sum.l0 k x0 (x3.set (x4 : Int).toNat x0) (wrap64 (x4 + 1))) else (none)) else (none)) else (some (strOfNums x3))
def remoralaw33_sum.f (k : Nat) (a0 : Int) : Option (ByteArray) := if 32 ≤ 281474976710656 then (remoralaw33_sum.l0 k a0 (List.replicate 32 0) 0) else (none)
theorem remoralaw33_sum.mono_l : ∀ k, (∀ y0 y1 y2, LeO (remoralaw33_sum.l0 k y0 y1 y2) (remoralaw33_sum.l0 (k + 1) y0 y1 y2))
  | 0 => fun _ _ _ r h => by simp [remoralaw33_sum.l0] at h
  | k + 1 => by
    have ih0 := remoralaw33_sum.mono_l k
    · intro y0 y1 y2
      unfold remoralaw33_sum.l0
      repeat' first
      | (with_reducible exact ih0 _ _ _)
      | (with_reducible exact LeO.refl _)
      | (with_reducible exact LeO.none _)
      | (with_reducible refine LeO.ite ?_ ?_)
      | (with_reducible refine LeO.bind ?_ (fun _ => ?_))
      | exact ih0 _ _ _
      | exact LeO.none _
      | refine LeO.ite ?_ ?_
      | refine LeO.bind ?_ (fun _ => ?_)
theorem remoralaw33_sum.mono : ∀ a0 k, LeO (remoralaw33_sum.f k a0) (remoralaw33_sum.f (k + 1) a0) := by
  intro a0 k
  have ih0 := remoralaw33_sum.mono_l k
  unfold remoralaw33_sum.f
  repeat' first
      | (with_reducible exact ih0 _ _ _)
      | (with_reducible exact LeO.refl _)
      | (with_reducible exact LeO.none _)
      | (with_reducible refine LeO.ite ?_ ?_)
      | (with_reducible refine LeO.bind ?_ (fun _ => ?_))
      | exact ih0 _ _ _
      | exact LeO.none _
      | refine LeO.ite ?_ ?_
      | refine LeO.bind ?_ (fun _ => ?_)
set_option maxHeartbeats 8000000 in
set_option maxRecDepth 100000 in
theorem remoralaw33_sum.calls (k : Nat) (a0 : Int) (r : ByteArray) (w : World) (h : remoralaw33_sum.f k a0 = some r) :
    Calls Tryd.prog 24 #[.int .u8 a0] w fun e w' => e = .returned (.string r) ∧ Below w.heap.size w w' := by
  have HB := Aside0.mk (Below.refl w.heap.size w)
  have H : (if 32 ≤ 281474976710656 then (remoralaw33_sum.l0 k a0 (List.replicate 32 0) 0) else (none)) = some r := h
  clear h
  by_cases c2 : 32 ≤ 281474976710656
  · rw [if_pos c2] at H
    have c2b0 := eq_true c2
    have c2b1 : decide (32 ≤ 281474976710656) = true := decide_eq_true c2
    clear c2
    obtain ⟨y105, hy105⟩ : ∃ y_ : List Int, y_ = (List.replicate 32 0) := ⟨_, rfl⟩
    replace H : (remoralaw33_sum.l0 k a0 y105 0) = some r := by first | (rw [hy105]; with_reducible exact H) | (have H2_ := (Option.bind_some _ _).symm.trans H; rw [hy105]; with_reducible exact H2_) | (have H2_ := (Option.bind_some _ _).symm.trans H; with_reducible exact H2_) | with_reducible exact H | (rw [hy105]; exact H) | exact H
    have Ny105 := Aside0.mk hy105
    clear hy105
    have H' := Aside0.mk H
    clear H
    go_enter Tryd.func24, Tryd.ntmps24
    go_wp2_with (first | ((with_reducible refine gate_dst (N := 5) rfl ?_); refine Kd.R_make (Kd.int .u8) _ 5 rfl (N := 5) rfl 41 _ _ rfl 32 rfl rfl Tryd.underlying41 (.int .u8 0) 1 info5 rfl (by decide) (by omega) 0 (ok := fun _ => True) (okp := fun _ => True) rfl (fun _ hk => hk) trivial (by omega) (by omega) (Below.refl _ _) (Nat.le_refl _) ?_; intro v106 w3 ho4 hb hg_ hnew_; clear hg_ hnew_; (first | rw [← Ny105.out] at ho4 | (simp only [Int.reduceToNat] at ho4; rw [← Ny105.out] at ho4)); have n0_ := Aside0.mk (Kd.R_lower ho4 (below_size (by repeat (first | (with_reducible first | exact HB.out | apply below_alloc | apply pw_below_drewN | apply below_drew1) | exact HB.out)))); have n1_ := Aside0.mk (below_step (by repeat (first | (with_reducible first | exact HB.out | apply below_alloc | apply pw_below_drewN | apply below_drew1) | exact HB.out)) hb); clear HB; have HO107 := n0_; have HB := n1_; clear n0_ n1_; clear hb ho4))
    go_loopg [4] k (fun kq v4 w' => ∃ (x3_1 : List Int) (x4_1 : Int), v4 = .int .i64 x4_1 ∧ Aside0 (remoralaw33_sum.l0 kq a0 x3_1 x4_1 = some r) ∧ Aside0 (kq ≤ k) ∧ Aside0 (Kd.R (Kd.int .u8) 5 w' w.heap.size (fun _ => True) v106 x3_1) ∧ Aside0 (Below w.heap.size w w'))
    case atStart => exact ⟨(y105), (0), (by first | rfl | (simp; done) | (simp [*]; done)), H', ⟨Nat.le_refl _⟩, ⟨by (with_reducible repeat (first | apply Kd.R_alloc | apply Kd.R_drewN | apply Kd.R_drew)); exact HO107.out⟩, ⟨by repeat (first | (with_reducible first | exact HB.out | apply below_alloc | apply pw_below_drewN | apply below_drew1) | exact HB.out)⟩⟩
    case round =>
      clear H'
      try clear c2
      try clear c2b0
      try clear c2b1
      try clear p2
      obtain ⟨x3_1, x4_1, rfl, HA, HK1, HO_3, HB⟩ := hrel
      cases gk with
      | zero => exact absurd HA.out (by simp [remoralaw33_sum.l0])
      | succ k1 =>
        have H := HA.out
        clear HA
        simp only [remoralaw33_sum.l0] at H
        by_cases c5 : x4_1 < 32
        · rw [if_pos c5] at H
          have c5b0 : decide (x4_1 < 32) = true := decide_eq_true c5
          clear c5
          by_cases c6 : 0 ≤ x4_1
          · rw [if_pos c6] at H
            have c6b0 : decide (0 ≤ x4_1) = true := decide_eq_true c6
            clear c6
            by_cases c7 : x4_1 < (x3_1.length : Int)
            · rw [if_pos c7] at H
              have c7b0 : decide (x4_1 < (x3_1.length : Int)) = true := decide_eq_true c7
              clear c7
              obtain ⟨y108, hy108⟩ : ∃ y_ : List Int, y_ = (x3_1.set (x4_1 : Int).toNat a0) := ⟨_, rfl⟩
              replace H : (remoralaw33_sum.l0 k1 a0 y108 (wrap64 (x4_1 + 1))) = some r := by first | (rw [hy108]; with_reducible exact H) | (have H2_ := (Option.bind_some _ _).symm.trans H; rw [hy108]; with_reducible exact H2_) | (have H2_ := (Option.bind_some _ _).symm.trans H; with_reducible exact H2_) | with_reducible exact H | (rw [hy108]; exact H) | exact H
              have Ny108 := Aside0.mk hy108
              clear hy108
              have H' := Aside0.mk H
              clear H
              have p8 : 0 ≤ (x4_1 : Int) := of_decide_eq_true (by first | (with_reducible assumption) | assumption)
              have q8 : (x4_1 : Int) < ((x3_1.length : Int) : Int) := of_decide_eq_true (by first | (with_reducible assumption) | assumption)
              obtain ⟨go8, co8, eo8, gb8, gl8, cl8, HG8⟩ := Kd.R_form HO_3.out (by omega)
              (first | cases eo8 | (injection eo8 with ea_ en_ ec_; (first | subst ea_ | (injection ea_ with ea_; subst ea_)); subst ec_; clear en_))
              have GB8 := Aside0.mk gb8
              have GG8 := Aside0.mk HG8
              clear gb8 gl8 HG8
              obtain ⟨hx8_0, hf8_0⟩ := Kd.R_celln 0 HO_3.out (x4_1 : Int) p8 q8
              replace p8 := eq_true p8
              replace q8 := eq_true q8
              have HP9 := Kd.R_putg HO_3.out (x4_1 : Int) a0
              go_wp2_with (first | ((with_reducible refine gate_store (t := 5) (p := 13) rfl ?_); refine store_event (t := 5) (p := 13) (v := ?vo_w10) (w1 := (wr.setCell ⟨go8, (x4_1 : Int).toNat, none⟩ (.int .u8 a0))) ?hg ?ho ?hn ?hr ?_; (case ho => rfl); (case hg => rfl); (case hn => rfl); (case hr => first | (go_simp; done) | (go_simp; rfl)); intro w10 hw; have hg : wr.grownBy w10 (some go8) := (by rw [hw]; exact HP9.2); have hp_ : Kd.R (Kd.int .u8) 5 w10 w.heap.size (fun _ => True) (.slice (some ⟨go8, 0, none⟩) x3_1.length co8) y108 := (by rw [hw, Ny108.out]; exact HP9.1); clear HP9; have n0_ := Aside0.mk (hp_); have n1_ := Aside0.mk ((by rw [hw]; exact below_set (HB.out) GB8.out : Below w.heap.size w w10)); clear HO_3; clear HB; have HO_3 := n0_; have HB := n1_; clear n0_ n1_; clear hg hw hp_))
              go_roundg k1
              case measure => have := HK1.out; omega
              case rel => exact ⟨(y108), (wrap64 (x4_1 + 1)), (by first | rfl | (simp; done) | (simp [*]; done)), H', ⟨by have := HK1.out; omega⟩, ⟨by (with_reducible repeat (first | apply Kd.R_alloc | apply Kd.R_drewN | apply Kd.R_drew)); exact HO_3.out⟩, ⟨by repeat (first | (with_reducible first | exact HB.out | apply below_alloc | apply pw_below_drewN | apply below_drew1) | exact HB.out)⟩⟩
            · rw [if_neg c7] at H
              exact absurd H (by simp)
          · rw [if_neg c6] at H
            exact absurd H (by simp)
        · rw [if_neg c5] at H
          have c5b0 : decide (x4_1 < 32) = false := decide_eq_false c5
          clear c5
          obtain rfl := Option.some.inj H
          have hcv11 := own_string (P := Tryd.prog) Tryd.underlying41 Tryd.underlying5 Tryd.underlying9 (Kd.own_of_R HO_3.out)
          go_wp2
          go_ret
          exact ⟨by first | rfl | (simp [errW_none, errW_some] <;> rfl) | (simp [*, errW_none, errW_some] <;> rfl), by repeat (first | (with_reducible first | exact HB.out | apply below_alloc | apply pw_below_drewN | apply below_drew1) | exact HB.out)⟩
  · rw [if_neg c2] at H
    exact absurd H (by simp)

-- NOT PRINTED: function 25 (ledger_Ledger_Ask)

/-! ### remoralaw33_awake: function 10, a contract of my own -/
def s0_ : St := ⟨1, 7, 0, 0, 0, 0, 0, 0, 0, ⟨#[]⟩⟩
theorem st0_cells {w : World} {g : Nat} (h : w.heap[g]? = some (.cells (stC s0_) 37 (0, 0))) :
    w.cell? ⟨g, 0, none⟩ = some (.int .i64 1) ∧ w.cell? ⟨g, 1, none⟩ = some (.int .i64 7) ∧ w.cell? ⟨g, 2, none⟩ = some (.int .i64 0) ∧ w.cell? ⟨g, 3, none⟩ = some (.int .i64 0) ∧ w.cell? ⟨g, 4, none⟩ = some (.int .i64 0) ∧ w.cell? ⟨g, 5, none⟩ = some (.int .i64 0) ∧ w.cell? ⟨g, 6, none⟩ = some (.int .i64 0) ∧ w.cell? ⟨g, 7, none⟩ = some (.int .i64 0) ∧ w.cell? ⟨g, 8, none⟩ = some (.int .i64 0) ∧ w.cell? ⟨g, 9, none⟩ = some (.string ⟨#[]⟩) := by
  refine ⟨?_, ?_, ?_, ?_, ?_, ?_, ?_, ?_, ?_, ?_⟩ <;> rw [cell_of_row w g _ _ 37 (0, 0) h] <;> rfl
def sumS (c : Int) : ByteArray := strOfNums (List.replicate 32 c)
theorem sum_f (c : Int) (h : c = 97 ∨ c = 98 ∨ c = 99) : remoralaw33_sum.f 40 c = some (sumS c) := by
  rcases h with rfl | rfl | rfl <;> kernel_rfl
abbrev bA : ByteArray := ⟨#[97]⟩
abbrev bB : ByteArray := ⟨#[98]⟩
abbrev bC : ByteArray := ⟨#[99]⟩
abbrev lA : Ln := tellX bA s0_ (sumS 97)
abbrev lB : Ln := tellX bB s0_ (sumS 98)
abbrev lC : Ln := tellX bC s0_ (sumS 99)
theorem split_small (p : ByteArray) (h : p = bA ∨ p = bB ∨ p = bC) : splitF p = [p] := by
  rcases h with rfl | rfl | rfl
  all_goals
    unfold splitF
    rw [if_neg (by rw [ByteArray.toList_eq]; decide)]
    kernel_rfl
theorem right_small (p : ByteArray) (h : p = bA ∨ p = bB ∨ p = bC) : rightF p = true := by
  rcases h with rfl | rfl | rfl
  all_goals
    unfold rightF
    rw [split_small _ (by first | exact .inl rfl | exact .inr (.inl rfl) | exact .inr (.inr rfl))]
    unfold partF
    simp only [ByteArray.toList_eq, List.all_cons, List.all_nil]
    decide
theorem tell_small (p : ByteArray) (c : Int) (h : p = bA ∨ p = bB ∨ p = bC) (hc : c = 97 ∨ c = 98 ∨ c = 99) : tellE p s0_ (sumS c) = 0 := by
  have hw : wrongF (tellX p s0_ (sumS c)) = false := by
    unfold wrongF tellX s0_
    rcases hc with rfl | rfl | rfl <;> rfl
  have hm : mayF (tellX p s0_ (sumS c)) = 0 := by
    unfold mayF
    have : (tellX p s0_ (sumS c)).path = p := rfl
    rw [this, right_small p h, hw]
    have he : p.toList.isEmpty = false := by
      rcases h with rfl | rfl | rfl <;> (rw [ByteArray.toList_eq]; rfl)
    rw [he]
    rfl
  unfold tellE
  rw [hm]
  rfl
theorem cap_a : capS 2 (lastS lA []) = [lA] := rfl
theorem eqP_ne {c s : ByteArray} (h : s ≠ c) : eqP c s = false := by
  cases hh : eqP c s with
  | false => rfl
  | true => exact absurd ((eqP_iff c s).1 hh) h
theorem eqP_rfl (c : ByteArray) : eqP c c = true := (eqP_iff c c).2 rfl
theorem cap_b : capS 2 (lastS lB [lA]) = [lA, lB] := by
  have e : eqP lB.path lA.path = false := eqP_ne (by decide)
  unfold lastS outS
  rw [List.filter_cons, e]
  rfl
theorem ask_a : lastS lA [lA, lB] = [lB, lA] := by
  have e : eqP lA.path lA.path = true := eqP_rfl _
  have e2 : eqP lA.path lB.path = false := eqP_ne (by decide)
  unfold lastS outS
  rw [List.filter_cons, e, List.filter_cons, e2]
  rfl
theorem cap_c : capS 2 (lastS lC [lB, lA]) = [lA, lC] := by
  have e : eqP lC.path lB.path = false := eqP_ne (by decide)
  have e2 : eqP lC.path lA.path = false := eqP_ne (by decide)
  unfold lastS outS
  rw [List.filter_cons, e, List.filter_cons, e2]
  rfl
theorem tell_any (q : ByteArray) (c : Int) (S S2 : List Ln) (n : Nat) (hq : q = bA ∨ q = bB ∨ q = bC) (hc : c = 97 ∨ c = 98 ∨ c = 99) (hS : S.length < 1000000) (hn : n ≤ 1000000) (hcap : capS 2 (lastS (tellX q s0_ (sumS c)) S) = S2)
    (b0 p mb : Nat) (v : Value) (w : World) (h : Lg b0 p mb n 2 v S w) :
    Calls Tryd.prog 23 #[.pointer (some ⟨p, 0, none⟩), .string q, .agg #[.int .i64 1, .int .i64 7, .int .i64 0, .int .i64 0, .int .i64 0, .int .i64 0, .int .i64 0, .int .i64 0, .int .i64 0, .string ⟨#[]⟩], .string (sumS c)] w fun e w' => e = .returned (.int .i64 0) ∧ ∃ v', Lg b0 p mb (n + 1) 2 v' S2 w' ∧ Bm p mb w w' := by
  refine (led_Tell.at_ b0 p mb n 2 v S q s0_ (sumS c) w h (by rcases hq with rfl | rfl | rfl <;> decide) hS hn).mono ?_
  rintro e w' ⟨rfl, ⟨h1, _⟩ | ⟨h1, v', hL, hB, _⟩⟩
  · exact absurd (tell_small q c hq hc) h1
  · rw [tell_small q c hq hc]
    rw [hcap] at hL
    exact ⟨rfl, v', hL, hB⟩
theorem ask_small (b0 p mb : Nat) (v : Value) (w : World) (h : Lg b0 p mb 2 2 v [lA, lB] w) :
    Calls Tryd.prog 25 #[.pointer (some ⟨p, 0, none⟩), .string bA, .agg #[.int .i64 1, .int .i64 7, .int .i64 0, .int .i64 0, .int .i64 0, .int .i64 0, .int .i64 0, .int .i64 0, .int .i64 0, .string ⟨#[]⟩]] w fun e w' => e = .returned (.tuple #[.string (sumS 97), .bool true]) ∧ ∃ v', Lg b0 p mb 3 2 v' [lB, lA] w' ∧ Bm p mb w w' := by
  refine (led_Ask.at_ b0 p mb 2 2 v [lA, lB] bA s0_ w h (by decide) (by simp) (by omega)).mono ?_
  rintro e w' (⟨_, h1, _⟩ | ⟨x, hx, hq, hm, rfl, v', hL, hB, _⟩)
  · have := h1 lA (by simp) rfl
    exact absurd this (by decide)
  · have hxA : x = lA := nodup_unique h.hN hx (by simp) (hq.trans rfl)
    subst hxA
    rw [ask_a] at hL
    exact ⟨rfl, v', hL, hB⟩
theorem two_C (w : World) (a b : ByteArray) : Kd.C Kd.string (w.alloc (.cells #[.string a, .string b] 9)) (some ⟨w.heap.size, 0, none⟩) 2 [a, b] := by
  refine Kd.C_of_reads (enc := Value.string) (d := a) (h1 := fun _ => rfl) ⟨rfl, by decide, fun _ => ⟨_, rfl, fun j hj => ?_⟩⟩
  have hb := blk_new w (.cells #[.string a, .string b] 9)
  match j, hj with
  | 0, _ => exact (cell_of_row _ _ _ _ _ _ hb)
  | 1, _ => exact (cell_of_row _ _ _ _ _ _ hb)
set_option maxHeartbeats 8000000 in
set_option maxRecDepth 20000 in
theorem law_awake.at_ (w : World) : Calls Tryd.prog 10 #[] w fun e w' => e = .returned (.bool true) ∧ Below w.heap.size w w' := by
  have HNew := Aside0.mk (led_New.at_ 2 w rfl)
  go_enter Tryd.func10, Tryd.ntmps10
  go_wp2_with fail
  refine HNew.out.mono ?_
  rintro e w1 ⟨p, mb, rfl, hL, hB⟩
  obtain ⟨gs, hgs⟩ : ∃ gs, w1.heap.size = gs := ⟨_, rfl⟩
  obtain ⟨w2, hw2⟩ : ∃ w2, w1.alloc (.cells #[.int .i64 1, .int .i64 7, .int .i64 0, .int .i64 0, .int .i64 0, .int .i64 0, .int .i64 0, .int .i64 0, .int .i64 0, .string ⟨#[]⟩] 37) = w2 := ⟨_, rfl⟩
  have HG2 : Aside0 (w2.heap[gs]? = some (.cells (stC s0_) 37 (0, 0))) := ⟨by rw [← hw2, ← hgs]; exact blk_new w1 _⟩
  have hB2 : Below w1.heap.size w1 w2 := by rw [← hw2]; exact below_alloc (Below.refl _ _) _
  have HL2 := Aside0.mk (hL.below hB2)
  have HNE : Aside0 (gs ≠ p ∧ gs ≠ mb) := ⟨by have h1 := blk_lt hL.hP; have h2 := hL.hM.lt; exact ⟨by omega, by omega⟩⟩
  have HB2 : Aside0 (Bm p mb w1 w2) := ⟨(Bm.refl p mb w1).below hB2⟩
  have HBB := Aside0.mk hB
  have HP0 : Aside0 (w.heap.size ≤ p ∧ w.heap.size ≤ mb) := ⟨⟨hL.hp0, hL.hm0⟩⟩
  have HW2 := Aside0.mk hw2
  clear hL hB hB2 HNew hw2
  go_wp2_with fail
  rw [HW2.out]
  refine start_ (n := 10) (S := fun w' => w'.cell? ⟨gs, 0, none⟩ = some (.int .i64 1) ∧ w'.cell? ⟨gs, 1, none⟩ = some (.int .i64 7) ∧ w'.cell? ⟨gs, 2, none⟩ = some (.int .i64 0) ∧ w'.cell? ⟨gs, 3, none⟩ = some (.int .i64 0) ∧ w'.cell? ⟨gs, 4, none⟩ = some (.int .i64 0) ∧ w'.cell? ⟨gs, 5, none⟩ = some (.int .i64 0) ∧ w'.cell? ⟨gs, 6, none⟩ = some (.int .i64 0) ∧ w'.cell? ⟨gs, 7, none⟩ = some (.int .i64 0) ∧ w'.cell? ⟨gs, 8, none⟩ = some (.int .i64 0) ∧ w'.cell? ⟨gs, 9, none⟩ = some (.string ⟨#[]⟩)) (ds := []) #[false, false, false, false, false, false, false, false, false, false] (by kernel_rfl) rfl rfl ⟨(st0_cells HG2.out).1, (st0_cells HG2.out).2.1, (st0_cells HG2.out).2.2.1, (st0_cells HG2.out).2.2.2.1, (st0_cells HG2.out).2.2.2.2.1, (st0_cells HG2.out).2.2.2.2.2.1, (st0_cells HG2.out).2.2.2.2.2.2.1, (st0_cells HG2.out).2.2.2.2.2.2.2.1, (st0_cells HG2.out).2.2.2.2.2.2.2.2.1, (st0_cells HG2.out).2.2.2.2.2.2.2.2.2⟩ (fun hHeld => ?_)
  refine pure_ (i := 0) (N := some 20) (v := ?_) (a' := ?_) #[true, false, false, false, false, false, false, false, false, false] rfl rfl (by kernel_rfl) (fun _ _ _ h => h) (Or.inl ⟨by rfl, ?_⟩) ?_ ?_
  rotate_left
  · intro w'
    go_simp
    with_reducible rfl
  rotate_left
  · simp only [Act.put, List.setIfInBounds_toArray, List.set_cons_zero, List.set_cons_succ, i64_w, i32_w]
    rfl
  refine pure_ (i := 4) (N := some 24) (v := ?_) (a' := ?_) #[true, false, false, false, true, false, false, false, false, false] rfl rfl (by kernel_rfl) (fun _ _ _ h => h) (Or.inl ⟨by rfl, ?_⟩) ?_ ?_
  rotate_left
  · intro w'
    go_simp
    with_reducible rfl
  rotate_left
  · simp only [Act.put, List.setIfInBounds_toArray, List.set_cons_zero, List.set_cons_succ, i64_w, i32_w]
    rfl
  refine take_ (i := 1) (N := some 21) (v := ?_) (a' := ?_) #[true, true, false, false, true, false, false, false, false, false] rfl rfl (by kernel_rfl) (fun _ _ _ h => h) (Or.inl ⟨by rfl, ?_⟩) hHeld ?_ ?_
  rotate_left
  · rintro w' ⟨s0, s1, s2, s3, s4, s5, s6, s7, s8, s9⟩
    go_simp
    with_reducible rfl
  rotate_left
  · simp only [Act.put, List.setIfInBounds_toArray, List.set_cons_zero, List.set_cons_succ, i64_w, i32_w]
    rfl
  refine take_ (i := 5) (N := some 25) (v := ?_) (a' := ?_) #[true, true, false, false, true, true, false, false, false, false] rfl rfl (by kernel_rfl) (fun _ _ _ h => h) (Or.inl ⟨by rfl, ?_⟩) hHeld ?_ ?_
  rotate_left
  · rintro w' ⟨s0, s1, s2, s3, s4, s5, s6, s7, s8, s9⟩
    go_simp
    with_reducible rfl
  rotate_left
  · simp only [Act.put, List.setIfInBounds_toArray, List.set_cons_zero, List.set_cons_succ, i64_w, i32_w]
    rfl
  refine one_ (i := 2) (N := some 22) #[true, true, true, false, true, true, false, false, false, false] rfl rfl (by kernel_rfl) (by decide) (fun K hK => ?_)
  refine goes_ Tryd.func24 (by kernel_rfl) rfl #[.int .u8 97] (by rfl) rfl rfl (by simp only [List.map_toArray, List.map_cons, List.map_nil]; rfl) ?_
  with_reducible refine (remoralaw33_sum.calls 40 97 (sumS 97) w2.drew (sum_f 97 (by decide))).mono ?_
  rintro e w3 ⟨rfl, hb_w3⟩
  refine ⟨_, rfl, ?_⟩
  have HL_w3 := Aside0.mk ((HL2.out.below (below_drew (Below.refl _ _))).below hb_w3)
  have HG_w3 := Aside0.mk (blk_below (w := w2.drew) HG2.out hb_w3)
  have HB_w3 := Aside0.mk ((HB2.out.below (below_drew (Below.refl _ _))).below hb_w3)
  clear hb_w3
  refine hK.out _ _ ⟨(st0_cells HG_w3.out).1, (st0_cells HG_w3.out).2.1, (st0_cells HG_w3.out).2.2.1, (st0_cells HG_w3.out).2.2.2.1, (st0_cells HG_w3.out).2.2.2.2.1, (st0_cells HG_w3.out).2.2.2.2.2.1, (st0_cells HG_w3.out).2.2.2.2.2.2.1, (st0_cells HG_w3.out).2.2.2.2.2.2.2.1, (st0_cells HG_w3.out).2.2.2.2.2.2.2.2.1, (st0_cells HG_w3.out).2.2.2.2.2.2.2.2.2⟩ (fun hHeld => ?_)
  clear hK K
  refine norm_ (a' := ?_) ?_ ?_
  rotate_left
  · show Act.put _ (some 22) _ = _
    simp only [Act.put, List.setIfInBounds_toArray, List.set_cons_zero, List.set_cons_succ, i64_w, i32_w]
    rfl
  refine one_ (i := 3) (N := some 23) #[true, true, true, true, true, true, false, false, false, false] rfl rfl (by kernel_rfl) (by decide) (fun K hK => ?_)
  refine goes_ Tryd.func23 (by kernel_rfl) rfl #[.pointer (some ⟨p, 0, none⟩), .string ⟨#[97]⟩, .agg #[.int .i64 1, .int .i64 7, .int .i64 0, .int .i64 0, .int .i64 0, .int .i64 0, .int .i64 0, .int .i64 0, .int .i64 0, .string ⟨#[]⟩], .string (sumS 97)] (by rfl) rfl rfl (by simp only [List.map_toArray, List.map_cons, List.map_nil]; rfl) ?_
  with_reducible refine (tell_any bA 97 [] [lA] 0 (.inl rfl) (.inl rfl) (by simp) (by omega) cap_a _ p mb _ _ HL_w3.out).mono ?_
  rintro e w4 ⟨rfl, v_w4, hL_w4, hB_w4⟩
  refine ⟨_, rfl, ?_⟩
  have HL_w4 := Aside0.mk hL_w4
  have HG_w4 := Aside0.mk (hB_w4.blk HG_w3.out HNE.out.1 HNE.out.2)
  have HB_w4 := Aside0.mk (HB_w3.out.trans hB_w4)
  clear hL_w4 hB_w4
  refine hK.out _ _ ⟨(st0_cells HG_w4.out).1, (st0_cells HG_w4.out).2.1, (st0_cells HG_w4.out).2.2.1, (st0_cells HG_w4.out).2.2.2.1, (st0_cells HG_w4.out).2.2.2.2.1, (st0_cells HG_w4.out).2.2.2.2.2.1, (st0_cells HG_w4.out).2.2.2.2.2.2.1, (st0_cells HG_w4.out).2.2.2.2.2.2.2.1, (st0_cells HG_w4.out).2.2.2.2.2.2.2.2.1, (st0_cells HG_w4.out).2.2.2.2.2.2.2.2.2⟩ (fun hHeld => ?_)
  clear hK K
  refine norm_ (a' := ?_) ?_ ?_
  rotate_left
  · show Act.put _ (some 23) _ = _
    simp only [Act.put, List.setIfInBounds_toArray, List.set_cons_zero, List.set_cons_succ, i64_w, i32_w]
    rfl
  refine one_ (i := 6) (N := some 26) #[true, true, true, true, true, true, true, false, false, false] rfl rfl (by kernel_rfl) (by decide) (fun K hK => ?_)
  refine goes_ Tryd.func24 (by kernel_rfl) rfl #[.int .u8 98] (by rfl) rfl rfl (by simp only [List.map_toArray, List.map_cons, List.map_nil]; rfl) ?_
  with_reducible refine (remoralaw33_sum.calls 40 98 (sumS 98) w4 (sum_f 98 (by decide))).mono ?_
  rintro e w5 ⟨rfl, hb_w5⟩
  refine ⟨_, rfl, ?_⟩
  have HL_w5 := Aside0.mk (HL_w4.out.below hb_w5)
  have HG_w5 := Aside0.mk (blk_below (w := w4) HG_w4.out hb_w5)
  have HB_w5 := Aside0.mk (HB_w4.out.below hb_w5)
  clear hb_w5
  refine hK.out _ _ ⟨(st0_cells HG_w5.out).1, (st0_cells HG_w5.out).2.1, (st0_cells HG_w5.out).2.2.1, (st0_cells HG_w5.out).2.2.2.1, (st0_cells HG_w5.out).2.2.2.2.1, (st0_cells HG_w5.out).2.2.2.2.2.1, (st0_cells HG_w5.out).2.2.2.2.2.2.1, (st0_cells HG_w5.out).2.2.2.2.2.2.2.1, (st0_cells HG_w5.out).2.2.2.2.2.2.2.2.1, (st0_cells HG_w5.out).2.2.2.2.2.2.2.2.2⟩ (fun hHeld => ?_)
  clear hK K
  refine norm_ (a' := ?_) ?_ ?_
  rotate_left
  · show Act.put _ (some 26) _ = _
    simp only [Act.put, List.setIfInBounds_toArray, List.set_cons_zero, List.set_cons_succ, i64_w, i32_w]
    rfl
  refine one_ (i := 7) (N := some 27) #[true, true, true, true, true, true, true, true, false, false] rfl rfl (by kernel_rfl) (by decide) (fun K hK => ?_)
  refine goes_ Tryd.func23 (by kernel_rfl) rfl #[.pointer (some ⟨p, 0, none⟩), .string ⟨#[98]⟩, .agg #[.int .i64 1, .int .i64 7, .int .i64 0, .int .i64 0, .int .i64 0, .int .i64 0, .int .i64 0, .int .i64 0, .int .i64 0, .string ⟨#[]⟩], .string (sumS 98)] (by rfl) rfl rfl (by simp only [List.map_toArray, List.map_cons, List.map_nil]; rfl) ?_
  with_reducible refine (tell_any bB 98 [lA] [lA, lB] 1 (.inr (.inl rfl)) (.inr (.inl rfl)) (by simp) (by omega) cap_b _ p mb _ _ HL_w5.out).mono ?_
  rintro e w6 ⟨rfl, v_w6, hL_w6, hB_w6⟩
  refine ⟨_, rfl, ?_⟩
  have HL_w6 := Aside0.mk hL_w6
  have HG_w6 := Aside0.mk (hB_w6.blk HG_w5.out HNE.out.1 HNE.out.2)
  have HB_w6 := Aside0.mk (HB_w5.out.trans hB_w6)
  clear hL_w6 hB_w6
  refine hK.out _ _ ⟨(st0_cells HG_w6.out).1, (st0_cells HG_w6.out).2.1, (st0_cells HG_w6.out).2.2.1, (st0_cells HG_w6.out).2.2.2.1, (st0_cells HG_w6.out).2.2.2.2.1, (st0_cells HG_w6.out).2.2.2.2.2.1, (st0_cells HG_w6.out).2.2.2.2.2.2.1, (st0_cells HG_w6.out).2.2.2.2.2.2.2.1, (st0_cells HG_w6.out).2.2.2.2.2.2.2.2.1, (st0_cells HG_w6.out).2.2.2.2.2.2.2.2.2⟩ (fun hHeld => ?_)
  clear hK K
  refine norm_ (a' := ?_) ?_ ?_
  rotate_left
  · show Act.put _ (some 27) _ = _
    simp only [Act.put, List.setIfInBounds_toArray, List.set_cons_zero, List.set_cons_succ, i64_w, i32_w]
    rfl
  refine pure_ (i := 8) (N := some 4) (v := ?_) (a' := ?_) #[true, true, true, true, true, true, true, true, true, false] rfl rfl (by kernel_rfl) (fun _ _ _ h => h) (Or.inl ⟨by rfl, ?_⟩) ?_ ?_
  rotate_left
  · intro w'
    go_simp
    with_reducible rfl
  rotate_left
  · simp only [Act.put, List.setIfInBounds_toArray, List.set_cons_zero, List.set_cons_succ, i64_w, i32_w]
    rfl
  refine pure_ (i := 9) (N := some 5) (v := ?_) (a' := ?_) #[true, true, true, true, true, true, true, true, true, true] rfl rfl (by kernel_rfl) (fun _ _ _ h => h) (Or.inl ⟨by rfl, ?_⟩) ?_ ?_
  rotate_left
  · intro w'
    go_simp
    with_reducible rfl
  rotate_left
  · simp only [Act.put, List.setIfInBounds_toArray, List.set_cons_zero, List.set_cons_succ, i64_w, i32_w]
    rfl
  refine done_ (by kernel_rfl) ?_
  clear hHeld
  obtain ⟨q0, q1, q2, q3, q4, q5, q6, q7, q8, q9⟩ := st0_cells HG_w6.out
  go_wp2_with fail
  refine (ask_small _ p mb _ w6 HL_w6.out).mono ?_
  rintro e w7 ⟨rfl, v7, hL7, hB7⟩
  have HL7 := Aside0.mk hL7
  have HB7 := Aside0.mk (HB_w6.out.trans hB7)
  have HG7 := Aside0.mk (hB7.blk HG_w6.out HNE.out.1 HNE.out.2)
  clear hL7 hB7 q0 q1 q2 q3 q4 q5 q6 q7 q8 q9
  go_wp2_with fail
  refine start_ (n := 5) (S := fun w' => w'.cell? ⟨gs, 0, none⟩ = some (.int .i64 1) ∧ w'.cell? ⟨gs, 1, none⟩ = some (.int .i64 7) ∧ w'.cell? ⟨gs, 2, none⟩ = some (.int .i64 0) ∧ w'.cell? ⟨gs, 3, none⟩ = some (.int .i64 0) ∧ w'.cell? ⟨gs, 4, none⟩ = some (.int .i64 0) ∧ w'.cell? ⟨gs, 5, none⟩ = some (.int .i64 0) ∧ w'.cell? ⟨gs, 6, none⟩ = some (.int .i64 0) ∧ w'.cell? ⟨gs, 7, none⟩ = some (.int .i64 0) ∧ w'.cell? ⟨gs, 8, none⟩ = some (.int .i64 0) ∧ w'.cell? ⟨gs, 9, none⟩ = some (.string ⟨#[]⟩)) (ds := []) #[false, false, false, false, false] (by kernel_rfl) rfl rfl ⟨(st0_cells HG7.out).1, (st0_cells HG7.out).2.1, (st0_cells HG7.out).2.2.1, (st0_cells HG7.out).2.2.2.1, (st0_cells HG7.out).2.2.2.2.1, (st0_cells HG7.out).2.2.2.2.2.1, (st0_cells HG7.out).2.2.2.2.2.2.1, (st0_cells HG7.out).2.2.2.2.2.2.2.1, (st0_cells HG7.out).2.2.2.2.2.2.2.2.1, (st0_cells HG7.out).2.2.2.2.2.2.2.2.2⟩ (fun hHeld => ?_)
  refine pure_ (i := 0) (N := some 34) (v := ?_) (a' := ?_) #[true, false, false, false, false] rfl rfl (by kernel_rfl) (fun _ _ _ h => h) (Or.inl ⟨by rfl, ?_⟩) ?_ ?_
  rotate_left
  · intro w'
    go_simp
    with_reducible rfl
  rotate_left
  · simp only [Act.put, List.setIfInBounds_toArray, List.set_cons_zero, List.set_cons_succ, i64_w, i32_w]
    rfl
  refine take_ (i := 1) (N := some 35) (v := ?_) (a' := ?_) #[true, true, false, false, false] rfl rfl (by kernel_rfl) (fun _ _ _ h => h) (Or.inl ⟨by rfl, ?_⟩) hHeld ?_ ?_
  rotate_left
  · rintro w' ⟨s0, s1, s2, s3, s4, s5, s6, s7, s8, s9⟩
    go_simp
    with_reducible rfl
  rotate_left
  · simp only [Act.put, List.setIfInBounds_toArray, List.set_cons_zero, List.set_cons_succ, i64_w, i32_w]
    rfl
  refine one_ (i := 2) (N := some 36) #[true, true, true, false, false] rfl rfl (by kernel_rfl) (by decide) (fun K hK => ?_)
  refine goes_ Tryd.func24 (by kernel_rfl) rfl #[.int .u8 99] (by rfl) rfl rfl (by simp only [List.map_toArray, List.map_cons, List.map_nil]; rfl) ?_
  with_reducible refine (remoralaw33_sum.calls 40 99 (sumS 99) w7.drew (sum_f 99 (by decide))).mono ?_
  rintro e w8 ⟨rfl, hb_w8⟩
  refine ⟨_, rfl, ?_⟩
  have HL_w8 := Aside0.mk ((HL7.out.below (below_drew (Below.refl _ _))).below hb_w8)
  have HG_w8 := Aside0.mk (blk_below (w := w7.drew) HG7.out hb_w8)
  have HB_w8 := Aside0.mk ((HB7.out.below (below_drew (Below.refl _ _))).below hb_w8)
  clear hb_w8
  refine hK.out _ _ ⟨(st0_cells HG_w8.out).1, (st0_cells HG_w8.out).2.1, (st0_cells HG_w8.out).2.2.1, (st0_cells HG_w8.out).2.2.2.1, (st0_cells HG_w8.out).2.2.2.2.1, (st0_cells HG_w8.out).2.2.2.2.2.1, (st0_cells HG_w8.out).2.2.2.2.2.2.1, (st0_cells HG_w8.out).2.2.2.2.2.2.2.1, (st0_cells HG_w8.out).2.2.2.2.2.2.2.2.1, (st0_cells HG_w8.out).2.2.2.2.2.2.2.2.2⟩ (fun hHeld => ?_)
  clear hK K
  refine norm_ (a' := ?_) ?_ ?_
  rotate_left
  · show Act.put _ (some 36) _ = _
    simp only [Act.put, List.setIfInBounds_toArray, List.set_cons_zero, List.set_cons_succ, i64_w, i32_w]
    rfl
  refine one_ (i := 3) (N := some 37) #[true, true, true, true, false] rfl rfl (by kernel_rfl) (by decide) (fun K hK => ?_)
  refine goes_ Tryd.func23 (by kernel_rfl) rfl #[.pointer (some ⟨p, 0, none⟩), .string ⟨#[99]⟩, .agg #[.int .i64 1, .int .i64 7, .int .i64 0, .int .i64 0, .int .i64 0, .int .i64 0, .int .i64 0, .int .i64 0, .int .i64 0, .string ⟨#[]⟩], .string (sumS 99)] (by rfl) rfl rfl (by simp only [List.map_toArray, List.map_cons, List.map_nil]; rfl) ?_
  with_reducible refine (tell_any bC 99 [lB, lA] [lA, lC] 3 (.inr (.inr rfl)) (.inr (.inr rfl)) (by simp) (by omega) cap_c _ p mb _ _ HL_w8.out).mono ?_
  rintro e w9 ⟨rfl, v_w9, hL_w9, hB_w9⟩
  refine ⟨_, rfl, ?_⟩
  have HL_w9 := Aside0.mk hL_w9
  have HG_w9 := Aside0.mk (hB_w9.blk HG_w8.out HNE.out.1 HNE.out.2)
  have HB_w9 := Aside0.mk (HB_w8.out.trans hB_w9)
  clear hL_w9 hB_w9
  refine hK.out _ _ ⟨(st0_cells HG_w9.out).1, (st0_cells HG_w9.out).2.1, (st0_cells HG_w9.out).2.2.1, (st0_cells HG_w9.out).2.2.2.1, (st0_cells HG_w9.out).2.2.2.2.1, (st0_cells HG_w9.out).2.2.2.2.2.1, (st0_cells HG_w9.out).2.2.2.2.2.2.1, (st0_cells HG_w9.out).2.2.2.2.2.2.2.1, (st0_cells HG_w9.out).2.2.2.2.2.2.2.2.1, (st0_cells HG_w9.out).2.2.2.2.2.2.2.2.2⟩ (fun hHeld => ?_)
  clear hK K
  refine norm_ (a' := ?_) ?_ ?_
  rotate_left
  · show Act.put _ (some 37) _ = _
    simp only [Act.put, List.setIfInBounds_toArray, List.set_cons_zero, List.set_cons_succ, i64_w, i32_w]
    rfl
  refine pure_ (i := 4) (N := some 8) (v := ?_) (a' := ?_) #[true, true, true, true, true] rfl rfl (by kernel_rfl) (fun _ _ _ h => h) (Or.inl ⟨by rfl, ?_⟩) ?_ ?_
  rotate_left
  · intro w'
    go_simp
    with_reducible rfl
  rotate_left
  · simp only [Act.put, List.setIfInBounds_toArray, List.set_cons_zero, List.set_cons_succ, i64_w, i32_w]
    rfl
  refine done_ (by kernel_rfl) ?_
  clear hHeld
  go_wp2_with fail
  refine (remoralaw33_sum.calls 40 97 (sumS 97) w9 (sum_f 97 (by decide))).mono ?_
  rintro e w10 ⟨rfl, hb10⟩
  have HL10 := Aside0.mk (HL_w9.out.below hb10)
  have HB10 := Aside0.mk (HB_w9.out.below hb10)
  clear hb10
  go_wp2_with fail
  refine (led_Paths.at_ _ p mb _ 2 _ _ w10 HL10.out).mono ?_
  rintro e w11 ⟨v11, rfl, hR11, hb11⟩
  have HB11 := Aside0.mk (HB10.out.below hb11)
  obtain ⟨A, c, rfl, hc, hC⟩ := Kd.R_reads hR11
  have hp : paths [lA, lC] = [bA, bC] := rfl
  rw [hp] at hC hc hR11 ⊢
  have HC11 := Aside0.mk hC
  have HCC := Aside0.mk hc
  have HT : remoraref17_Texts.f 10 [bA, bC] [bA, bC] = some true := by
    unfold remoraref17_Texts.f
    rw [if_pos rfl]
    simp only [remoraref17_Texts.l0, ByteArray.toList_eq]
    kernel_rfl
  have HTT := Aside0.mk (fun (w : World) (A : Option Addr) (c : Nat) (A2 : Option Addr) h1 h2 h3 => remoraref17_Texts.calls 10 A c [bA, bC] A2 2 [bA, bC] true w h1 h2 h3 (Nat.le_refl _) HT)
  clear hR11 hb11 hC hc hp HT
  go_wp2_with fail
  refine (HTT.out _ A c _ (Kd.C_alloc HC11.out _) HCC.out (two_C w11 bA bC)).mono ?_
  rintro e w12 ⟨rfl, hd12⟩
  have HB12 := Aside0.mk ((HB11.out.below (below_alloc (Below.refl _ _) _)).below hd12.below)
  clear hd12
  go_wp2
  go_ret
  exact ⟨by rfl, HB12.out.to HBB.out (Nat.le_refl _) HP0.out.1 HP0.out.2⟩


-- NOT PRINTED: function 26 (ledger_Ledger_Forget)

-- NOT PRINTED: function 11 (remoralaw33_Do)

end Go.Proofs.YtniboafnkiijcaaDoor.P
