-- Written by a program of the session (wip/tool/mk.py) out of the translation; Lean checks it.
import Derived.Test.YtniboafnkiijcaaPx0
import Derived.Test.YtniboafnkiijcaaPx1
import Derived.Test.YtniboafnkiijcaaPx2
import Derived.Test.YtniboafnkiijcaaPx3
namespace Go.Proofs.Ytniboafnkiijcaa.P
open Go.RowKit Go.Proofs.YtniboafnkiijcaaW.PrintWords Go.Proofs.YtniboafnkiijcaaW.PrintLast Go.Proofs.YtniboafnkiijcaaW.PrintMore
attribute [local go_sem] max2_int min2_int max_two min_two max_three min_three max_four min_four   -- for this text's walks alone
set_option linter.unusedVariables false
set_option linter.unusedSimpArgs false

/-! ### ledger_Ledger_Tell: function 14, a contract of my own -/
def tellX (q : ByteArray) (s : St) (sm : ByteArray) : Ln := ⟨q, s.ino, s.size, s.sec, s.nano, sm⟩
def tellE (q : ByteArray) (s : St) (sm : ByteArray) : Int := if mayF (tellX q s sm) = 9 then 9 else if s.kind = 1 then mayF (tellX q s sm) else 17
def capS (room : Int) (S : List Ln) : List Ln := if (S.length : Int) > room then S.tail else S
theorem outS_head (y : Ln) (S : List Ln) (h : (paths (y :: S)).Nodup) : outS (eqP y.path) (y :: S) = S := by
  unfold outS
  rw [List.filter_cons, if_neg (by simp [(eqP_iff y.path y.path).2 rfl]), List.filter_eq_self]
  intro z hz
  have hne : z.path ≠ y.path := fun e => (List.nodup_cons.1 h).1 (by rw [← e]; exact List.mem_map.2 ⟨z, hz, rfl⟩)
  cases hz2 : eqP y.path z.path with
  | true => exact absurd ((eqP_iff _ _).1 hz2) hne
  | false => rfl
theorem Lg.mono {b0 p mb n n' : Nat} {room : Int} {v : Value} {S : List Ln} {w : World} (h : Lg b0 p mb n room v S w) (hn : n ≤ n') : Lg b0 p mb n' room v S w := by
  obtain ⟨D, hown, h2⟩ := h.hM
  exact ⟨h.hP, ⟨D, hown.mono hn, h2⟩, h.hR, h.hN, h.hz, h.hne, h.hp0, h.hm0, h.hl⟩
set_option maxHeartbeats 8000000 in
theorem led_Tell.at_ (b0 p mb n : Nat) (room : Int) (v : Value) (S : List Ln) (q : ByteArray) (s : St) (sm : ByteArray) (w : World) (h : Lg b0 p mb n room v S w) (hq : q.size ≤ 1000000) (hS : S.length < 1000000) (hn : n ≤ 1000000) :
    Calls Try.prog 14 #[.pointer (some ⟨p, 0, none⟩), .string q, stV s, .string sm] w fun e w' => e = .returned (.int .i64 (tellE q s sm)) ∧
      ((tellE q s sm ≠ 0 ∧ Lg b0 p mb n room v S w' ∧ Below w.heap.size w w') ∨
       (tellE q s sm = 0 ∧ ∃ v', Lg b0 p mb (n + 1) room v' (capS room (lastS (tellX q s sm) S)) w' ∧ Bm p mb w w' ∧ ∀ j, v'.ownBlock = some j → w.heap.size ≤ j)) := by
  have hmf : ∀ (fn : Fn) (first cap : Array Value) (w : World), (Instr.makeFunc fn first cap).run Try.prog w = .ok (.func fn first cap) w := fun _ _ _ _ => rfl
  obtain ⟨w1, hw1⟩ : ∃ w1, w.alloc (.cells (stC s) 34) = w1 := ⟨_, rfl⟩
  obtain ⟨g, hg⟩ : ∃ g, w.heap.size = g := ⟨_, rfl⟩
  have HG1 : Aside0 (w1.heap[g]? = some (.cells (stC s) 34 (0, 0))) := ⟨by rw [← hw1, ← hg]; exact blk_new w _⟩
  have HB1 : Aside0 (Below g w w1) := ⟨by rw [← hw1, ← hg]; exact below_alloc (Below.refl _ _) _⟩
  have HL1 := Aside0.mk (h.below (by rw [hg]; exact HB1.out))
  have HW1 : Aside0 (w1.heap.size = g + 1) := ⟨by rw [← hw1, ← hg]; simp⟩
  have HQ := Aside0.mk hq
  have HS := Aside0.mk (And.intro hS hn)
  have HH := Aside0.mk h
  obtain ⟨gx, hgx⟩ : ∃ gx, g + 1 = gx := ⟨_, rfl⟩
  have hsz : w1.heap.size = gx := by rw [HW1.out, hgx]
  obtain ⟨w2, hw2⟩ : ∃ w2, w1.alloc (.cells #[.string q, .int .i64 s.ino, .int .i64 s.size, .int .i64 s.sec, .int .i64 s.nano, .string sm] 54) = w2 := ⟨_, rfl⟩
  have HX2 : Aside0 (w2.heap[gx]? = some (.cells #[.string q, .int .i64 s.ino, .int .i64 s.size, .int .i64 s.sec, .int .i64 s.nano, .string sm] 54 (0, 0))) := ⟨by rw [← hw2, ← hsz]; exact blk_new w1 _⟩
  have HB2 : Aside0 (Below gx w1 w2) := ⟨by rw [← hw2, ← hsz]; exact below_alloc (Below.refl _ _) _⟩
  have HBW : Aside0 (Below w.heap.size w w2) := ⟨ld_step (by rw [hg]; exact HB1.out) (by rw [hsz]; exact HB2.out)⟩
  have HNE : Aside0 (gx ≠ p ∧ gx ≠ mb ∧ g ≠ p ∧ g ≠ mb) := ⟨by have h1 := blk_lt h.hP; have h2 := h.hM.lt; exact ⟨by omega, by omega, by omega, by omega⟩⟩
  have HG2 := Aside0.mk (blk_below HG1.out (by rw [hsz]; exact HB2.out))
  obtain ⟨s0, s1, s2, s5, s6⟩ := st_cells HG1.out
  obtain ⟨x0, x1, x2, x3, x4, x5⟩ := ln_cells (x := (⟨q, s.ino, s.size, s.sec, s.nano, sm⟩ : Ln)) HX2.out
  dsimp only at x0 x1 x2 x3 x4 x5
  have HMay := Aside0.mk (line_may.at_ (tellX q s sm) hq w2)
  unfold lnV at HMay
  have HE : Aside0 (mayF (tellX q s sm) = 9 ∨ mayF (tellX q s sm) = 2 ∨ mayF (tellX q s sm) = 0) := ⟨by unfold mayF; split; exact .inl rfl; split; exact .inr (.inl rfl); exact .inr (.inr rfl)⟩
  obtain ⟨r, hr⟩ : ∃ r, tellE q s sm = r := ⟨_, rfl⟩
  rw [hr]
  unfold tellE at hr
  have HRr := Aside0.mk hr
  unfold tellX at HMay HE HRr ⊢
  dsimp only at HMay
  unfold stV
  clear h hq hS hn hr
  go_enter Try.func14, Try.ntmps14
  go_wp2_with fail
  refine HMay.out.mono ?_
  rintro e w3 ⟨rfl, hb⟩
  have HB3 := Aside0.mk (ld_step HBW.out hb)
  have HL3 := Aside0.mk (HH.out.below HB3.out)
  have HX3 := Aside0.mk (blk_below HX2.out hb)
  have HG3 := Aside0.mk (blk_below HG2.out hb)
  clear hb s0 s1 s2 s5 s6 x0 x1 x2 x3 x4 x5 HMay
  obtain ⟨s0, s1, s2, s5, s6⟩ := st_cells HG3.out
  have HRR := HRr.out
  generalize mayF (⟨q, s.ino, s.size, s.sec, s.nano, sm⟩ : Ln) = f at HE HRR ⊢
  have quit : ∀ z : Int, z = r → z ≠ 0 → (Ending.returned (.int .i64 z) = Ending.returned (.int .i64 r) ∧ ((r ≠ 0 ∧ Lg b0 p mb n room v S w3 ∧ Below w.heap.size w w3) ∨ (r = 0 ∧ ∃ v', Lg b0 p mb (n + 1) room v' (capS room (lastS (⟨q, s.ino, s.size, s.sec, s.nano, sm⟩ : Ln) S)) w3 ∧ Bm p mb w w3 ∧ ∀ j, v'.ownBlock = some j → w.heap.size ≤ j))) := fun z hz h0 => ⟨by rw [hz], .inl ⟨by rw [← hz]; exact h0, HL3.out, HB3.out⟩⟩
  rcases HE.out with rfl | rfl | rfl
  · have HQ9 := Aside0.mk (quit 9 (by simpa using HRR) (by decide))
    clear HRR
    go_wp2
    go_ret
    have q9 := HQ9.out
    rw [hg] at q9
    first | exact q9 | (rw [hg]; exact q9) | exact HQ9.out
  · by_cases k0 : s.kind = 1
    · have e0 : (s.kind == 1) = true := beq_iff_eq.mpr k0
      have e0' : (s.kind != 1) = false := bne_eq_false_iff_eq.mpr k0
      have HQ9 := Aside0.mk (quit 2 (by simpa [k0] using HRR) (by decide))
      clear k0 HRR
      go_wp2
      go_ret
      have q9 := HQ9.out
      rw [hg] at q9
      first | exact q9 | (rw [hg]; exact q9) | exact HQ9.out
    · have e0 : (s.kind == 1) = false := beq_eq_false_iff_ne.mpr k0
      have e0' : (s.kind != 1) = true := bne_iff_ne.mpr k0
      have HQ9 := Aside0.mk (quit 17 (by simpa [k0] using HRR) (by decide))
      clear k0 HRR
      go_wp2
      go_ret
      have q9 := HQ9.out
      rw [hg] at q9
      first | exact q9 | (rw [hg]; exact q9) | exact HQ9.out
  · by_cases k0 : s.kind = 1
    rotate_left
    · have e0 : (s.kind == 1) = false := beq_eq_false_iff_ne.mpr k0
      have e0' : (s.kind != 1) = true := bne_iff_ne.mpr k0
      have HQ9 := Aside0.mk (quit 17 (by simpa [k0] using HRR) (by decide))
      clear k0 HRR
      go_wp2
      go_ret
      have q9 := HQ9.out
      rw [hg] at q9
      first | exact q9 | (rw [hg]; exact q9) | exact HQ9.out
    have e0 : (s.kind == 1) = true := beq_iff_eq.mpr k0
    have e0' : (s.kind != 1) = false := bne_eq_false_iff_eq.mpr k0
    have hr0 : 0 = r := by simpa [k0] using HRR
    have HLa := Aside0.mk (row_last.at_ b0 p mb n room v S (⟨q, s.ino, s.size, s.sec, s.nano, sm⟩ : Ln) w3.drew (HL3.out.below (below_drew (Below.refl _ _))) HQ.out HS.out.1 HS.out.2)
    unfold lnV at HLa
    have HR0 := Aside0.mk hr0
    clear k0 quit HRR hr0
    go_wp2_with fail
    refine start_ (n := 6) (S := fun w' => w'.cell? ⟨gx, 0, none⟩ = some (.string q) ∧ w'.cell? ⟨gx, 1, none⟩ = some (.int .i64 s.ino) ∧ w'.cell? ⟨gx, 2, none⟩ = some (.int .i64 s.size) ∧ w'.cell? ⟨gx, 3, none⟩ = some (.int .i64 s.sec) ∧ w'.cell? ⟨gx, 4, none⟩ = some (.int .i64 s.nano) ∧ w'.cell? ⟨gx, 5, none⟩ = some (.string sm)) (ds := []) #[false, false, false, false, false, false] (by kernel_rfl) rfl rfl ⟨(ln_cells (x := (⟨q, s.ino, s.size, s.sec, s.nano, sm⟩ : Ln)) HX3.out).1, (ln_cells (x := (⟨q, s.ino, s.size, s.sec, s.nano, sm⟩ : Ln)) HX3.out).2.1, (ln_cells (x := (⟨q, s.ino, s.size, s.sec, s.nano, sm⟩ : Ln)) HX3.out).2.2.1, (ln_cells (x := (⟨q, s.ino, s.size, s.sec, s.nano, sm⟩ : Ln)) HX3.out).2.2.2.1, (ln_cells (x := (⟨q, s.ino, s.size, s.sec, s.nano, sm⟩ : Ln)) HX3.out).2.2.2.2.1, (ln_cells (x := (⟨q, s.ino, s.size, s.sec, s.nano, sm⟩ : Ln)) HX3.out).2.2.2.2.2⟩ (fun hHeld => ?_)
    refine pure_ (i := 0) (N := some 38) (v := ?_) (a' := ?_) #[true, false, false, false, false, false] rfl rfl (by kernel_rfl) (fun _ _ _ h => h) (Or.inl ⟨by rfl, ?_⟩) ?_ ?_
    rotate_left
    · intro w'
      go_simp
      with_reducible rfl
    rotate_left
    · simp only [Act.put, List.setIfInBounds_toArray, List.set_cons_zero, List.set_cons_succ, i64_w, i32_w]
      rfl
    refine pure_ (i := 1) (N := some 39) (v := ?_) (a' := ?_) #[true, true, false, false, false, false] rfl rfl (by kernel_rfl) (fun _ _ _ h => h) (Or.inl ⟨by rfl, ?_⟩) ?_ ?_
    rotate_left
    · intro w'
      go_simp
      with_reducible rfl
    rotate_left
    · simp only [Act.put, List.setIfInBounds_toArray, List.set_cons_zero, List.set_cons_succ, i64_w, i32_w]
      rfl
    refine pure_ (i := 2) (N := some 40) (v := ?_) (a' := ?_) #[true, true, true, false, false, false] rfl rfl (by kernel_rfl) (fun _ _ _ h => h) (Or.inl ⟨by rfl, ?_⟩) ?_ ?_
    rotate_left
    · intro w'
      go_simp
      with_reducible rfl
    rotate_left
    · simp only [Act.put, List.setIfInBounds_toArray, List.set_cons_zero, List.set_cons_succ, i64_w, i32_w]
      rfl
    refine pure_ (i := 3) (N := some 41) (v := ?_) (a' := ?_) #[true, true, true, true, false, false] rfl rfl (by kernel_rfl) (fun _ _ _ h => h) (Or.inl ⟨by rfl, ?_⟩) ?_ ?_
    rotate_left
    · intro w'
      go_simp
      with_reducible rfl
    rotate_left
    · simp only [Act.put, List.setIfInBounds_toArray, List.set_cons_zero, List.set_cons_succ, i64_w, i32_w]
      rfl
    refine take_ (i := 4) (N := some 42) (v := ?_) (a' := ?_) #[true, true, true, true, true, false] rfl rfl (by kernel_rfl) (fun _ _ _ h => h) (Or.inl ⟨by rfl, ?_⟩) hHeld ?_ ?_
    rotate_left
    · rintro w' ⟨s0, s1, s2, s3, s4, s5⟩
      go_simp
      with_reducible rfl
    rotate_left
    · simp only [Act.put, List.setIfInBounds_toArray, List.set_cons_zero, List.set_cons_succ, i64_w, i32_w]
      rfl
    refine one_ (i := 5) (N := some 43) #[true, true, true, true, true, true] rfl rfl (by kernel_rfl) (by decide) (fun K hK => ?_)
    refine goes_ Try.func17 (by kernel_rfl) rfl #[.pointer (some ⟨p, 1, none⟩), .string q, .agg #[.string q, .int .i64 s.ino, .int .i64 s.size, .int .i64 s.sec, .int .i64 s.nano, .string sm]] (by rfl) rfl rfl (by simp only [List.map_toArray, List.map_cons, List.map_nil]; rfl) ?_
    with_reducible refine (HLa.out).mono ?_
    rintro e w4 ⟨rfl, v4, hL4, hB4, hO4⟩
    refine ⟨_, rfl, ?_⟩
    have HL4 := Aside0.mk hL4
    have HB4 := Aside0.mk hB4
    have HO4 := Aside0.mk hO4
    have HX4 := Aside0.mk (hB4.blk (w := w3.drew) HX3.out HNE.out.1 HNE.out.2.1)
    clear hL4 hB4 hO4
    refine hK.out _ _ ⟨(ln_cells (x := (⟨q, s.ino, s.size, s.sec, s.nano, sm⟩ : Ln)) HX4.out).1, (ln_cells (x := (⟨q, s.ino, s.size, s.sec, s.nano, sm⟩ : Ln)) HX4.out).2.1, (ln_cells (x := (⟨q, s.ino, s.size, s.sec, s.nano, sm⟩ : Ln)) HX4.out).2.2.1, (ln_cells (x := (⟨q, s.ino, s.size, s.sec, s.nano, sm⟩ : Ln)) HX4.out).2.2.2.1, (ln_cells (x := (⟨q, s.ino, s.size, s.sec, s.nano, sm⟩ : Ln)) HX4.out).2.2.2.2.1, (ln_cells (x := (⟨q, s.ino, s.size, s.sec, s.nano, sm⟩ : Ln)) HX4.out).2.2.2.2.2⟩ (fun hHeld => ?_)
    clear hK K
    refine norm_ (a' := ?_) ?_ ?_
    rotate_left
    · show Act.put _ (some 43) _ = _
      simp only [Act.put, List.setIfInBounds_toArray, List.set_cons_zero, List.set_cons_succ, i64_w, i32_w]
      rfl
    refine done_ (by kernel_rfl) ?_
    clear hHeld s0 s1 s2 s5 s6 HLa
    generalize hS1 : lastS (⟨q, s.ino, s.size, s.sec, s.nano, sm⟩ : Ln) S = S1 at HL4
    have HBW4 := Aside0.mk ((((Bm.refl p mb w).below HB3.out).below (below_drew (Below.refl _ _))).trans HB4.out)
    have HO4' : Aside0 (∀ j, v4.ownBlock = some j → w.heap.size ≤ j) := ⟨fun j hj => by have h1 := HO4.out j hj; have h2 : w3.heap.size ≤ j := h1; have := HB3.out.size; omega⟩
    obtain ⟨A, c, rfl, hc, hC⟩ := Kd.R_reads HL4.out.hR
    obtain ⟨m, hm⟩ : ∃ m, m = (paths S1).length := ⟨_, rfl⟩
    have hmS : m = S1.length := by rw [hm]; unfold paths; rw [List.length_map]
    have HC4 := Aside0.mk hC
    have HM := Aside0.mk (And.intro hm hmS)
    have HP4 := Aside0.mk HL4.out.hP
    rw [← hm] at HP4
    clear hC hc hm hmS
    go_wp2_with fail
    refine start_ (n := 11) (S := fun w' => w'.cell? ⟨p, 0, none⟩ = some (.int .i64 room) ∧ w'.cell? ⟨p, 1, none⟩ = some (.slice A m c)) (ds := []) #[false, false, false, false, false, false, false, false, false, false, false] (by kernel_rfl) rfl rfl ⟨(rw_cells HP4.out).1, (rw_cells HP4.out).2.1⟩ (fun hHeld => ?_)
    refine pure_ (i := 0) (N := some 44) (v := ?_) (a' := ?_) #[true, false, false, false, false, false, false, false, false, false, false] rfl rfl (by kernel_rfl) (fun _ _ _ h => h) (Or.inl ⟨by rfl, ?_⟩) ?_ ?_
    rotate_left
    · intro w'
      go_simp
      with_reducible rfl
    rotate_left
    · simp only [Act.put, List.setIfInBounds_toArray, List.set_cons_zero, List.set_cons_succ, i64_w, i32_w]
      rfl
    refine pure_ (i := 1) (N := some 45) (v := ?_) (a' := ?_) #[true, true, false, false, false, false, false, false, false, false, false] rfl rfl (by kernel_rfl) (fun _ _ _ h => h) (Or.inl ⟨by rfl, ?_⟩) ?_ ?_
    rotate_left
    · intro w'
      go_simp
      with_reducible rfl
    rotate_left
    · simp only [Act.put, List.setIfInBounds_toArray, List.set_cons_zero, List.set_cons_succ, i64_w, i32_w]
      rfl
    refine pure_ (i := 2) (N := some 46) (v := ?_) (a' := ?_) #[true, true, true, false, false, false, false, false, false, false, false] rfl rfl (by kernel_rfl) (fun _ _ _ h => h) (Or.inl ⟨by rfl, ?_⟩) ?_ ?_
    rotate_left
    · intro w'
      go_simp
      with_reducible rfl
    rotate_left
    · simp only [Act.put, List.setIfInBounds_toArray, List.set_cons_zero, List.set_cons_succ, i64_w, i32_w]
      rfl
    refine pure_ (i := 3) (N := some 47) (v := ?_) (a' := ?_) #[true, true, true, true, false, false, false, false, false, false, false] rfl rfl (by kernel_rfl) (fun _ _ _ h => h) (Or.inl ⟨by rfl, ?_⟩) ?_ ?_
    rotate_left
    · intro w'
      go_simp
      with_reducible rfl
    rotate_left
    · simp only [Act.put, List.setIfInBounds_toArray, List.set_cons_zero, List.set_cons_succ, i64_w, i32_w]
      rfl
    refine pure_ (i := 6) (N := some 50) (v := ?_) (a' := ?_) #[true, true, true, true, false, false, true, false, false, false, false] rfl rfl (by kernel_rfl) (fun _ _ _ h => h) (Or.inl ⟨by rfl, ?_⟩) ?_ ?_
    rotate_left
    · intro w'
      go_simp
      with_reducible rfl
    rotate_left
    · simp only [Act.put, List.setIfInBounds_toArray, List.set_cons_zero, List.set_cons_succ, i64_w, i32_w]
      rfl
    refine pure_ (i := 7) (N := some 51) (v := ?_) (a' := ?_) #[true, true, true, true, false, false, true, true, false, false, false] rfl rfl (by kernel_rfl) (fun _ _ _ h => h) (Or.inl ⟨by rfl, ?_⟩) ?_ ?_
    rotate_left
    · intro w'
      go_simp
      with_reducible rfl
    rotate_left
    · simp only [Act.put, List.setIfInBounds_toArray, List.set_cons_zero, List.set_cons_succ, i64_w, i32_w]
      rfl
    refine pure_ (i := 8) (N := some 52) (v := ?_) (a' := ?_) #[true, true, true, true, false, false, true, true, true, false, false] rfl rfl (by kernel_rfl) (fun _ _ _ h => h) (Or.inl ⟨by rfl, ?_⟩) ?_ ?_
    rotate_left
    · intro w'
      go_simp
      with_reducible rfl
    rotate_left
    · simp only [Act.put, List.setIfInBounds_toArray, List.set_cons_zero, List.set_cons_succ, i64_w, i32_w]
      rfl
    refine take_ (i := 4) (N := some 48) (v := ?_) (a' := ?_) #[true, true, true, true, true, false, true, true, true, false, false] rfl rfl (by kernel_rfl) (fun _ _ _ h => h) (Or.inl ⟨by rfl, ?_⟩) hHeld ?_ ?_
    rotate_left
    · rintro w' ⟨s0, s1⟩
      go_simp
      with_reducible rfl
    rotate_left
    · simp only [Act.put, List.setIfInBounds_toArray, List.set_cons_zero, List.set_cons_succ, i64_w, i32_w]
      rfl
    refine pure_ (i := 5) (N := some 49) (v := ?_) (a' := ?_) #[true, true, true, true, true, true, true, true, true, false, false] rfl rfl (by kernel_rfl) (fun _ _ _ h => h) (Or.inl ⟨by rfl, ?_⟩) ?_ ?_
    rotate_left
    · intro w'
      go_simp
      with_reducible rfl
    rotate_left
    · simp only [Act.put, List.setIfInBounds_toArray, List.set_cons_zero, List.set_cons_succ, i64_w, i32_w]
      rfl
    refine take_ (i := 9) (N := some 53) (v := ?_) (a' := ?_) #[true, true, true, true, true, true, true, true, true, true, false] rfl rfl (by kernel_rfl) (fun _ _ _ h => h) (Or.inl ⟨by rfl, ?_⟩) hHeld ?_ ?_
    rotate_left
    · rintro w' ⟨s0, s1⟩
      go_simp
      with_reducible rfl
    rotate_left
    · simp only [Act.put, List.setIfInBounds_toArray, List.set_cons_zero, List.set_cons_succ, i64_w, i32_w]
      rfl
    refine pure_ (i := 10) (N := some 54) (v := ?_) (a' := ?_) #[true, true, true, true, true, true, true, true, true, true, true] rfl rfl (by kernel_rfl) (fun _ _ _ h => h) (Or.inl ⟨by rfl, ?_⟩) ?_ ?_
    rotate_left
    · intro w'
      go_simp
      with_reducible rfl
    rotate_left
    · simp only [Act.put, List.setIfInBounds_toArray, List.set_cons_zero, List.set_cons_succ, i64_w, i32_w]
      rfl
    refine done_ (by kernel_rfl) ?_
    have HL5 := Aside0.mk (HL4.out.below (below_drew (Below.refl _ _)))
    have HBW5 := Aside0.mk (HBW4.out.below (below_drew (Below.refl _ _)))
    have HC5 := Aside0.mk (Kd.C_drew HC4.out)
    have HP5 : Aside0 (w4.drew.heap[p]? = _) := HP4
    clear hHeld HL4 HBW4 HC4 HP4
    generalize w4.drew = w5 at HL5 HBW5 HC5 HP5 ⊢
    have q1 := (rw_cells HP5.out).2.1
    by_cases kc : room < (m : Int)
    rotate_left
    · have ec : decide (room < (m : Int)) = false := decide_eq_false kc
      have KC := Aside0.mk kc
      clear kc
      rw [ec]
      go_wp2
      go_ret
      have hL := HL5.out
      refine ⟨by first | (show Ending.returned (.int .i64 0) = _; rw [HR0.out]; done) | (show Ending.returned (.int .i64 r) = _; rfl), .inr ⟨HR0.out.symm, _, ?_, HBW5.out, by first | exact HO4'.out | (rw [← hg]; exact HO4'.out)⟩⟩
      try rw [hS1]
      unfold capS
      rw [if_neg (by have := KC.out; have := HM.out; omega)]
      exact hL
    have ec : decide (room < (m : Int)) = true := decide_eq_true kc
    have KC := Aside0.mk kc
    cases hcs : S1 with
    | nil =>
      exfalso
      rw [hcs] at hS1
      unfold lastS at hS1
      simp at hS1
    | cons y T =>
    subst hcs
    have hm0 : (0 < m) = True := eq_true (by rw [HM.out.2]; simp)
    have hm0' : ((0 : Int) < (m : Int)) = True := eq_true (by have := of_eq_true hm0; omega)
    obtain ⟨ad, f0, rfl, hf0, hcell⟩ := str_at HC5.out 0 (by have := HM.out.1; have := of_eq_true hm0; omega)
    obtain rfl : y.path = f0 := by simpa [paths] using hf0
    rw [Addr.add_zero'] at hcell
    obtain ⟨gf, hgf⟩ : ∃ gf, w5.heap.size = gf := ⟨_, rfl⟩
    obtain ⟨w6, hw6⟩ : ∃ w6, w5.alloc (.cells #[.string y.path] 9) = w6 := ⟨_, rfl⟩
    have HF6 : w6.heap[gf]? = some (.cells #[.string y.path] 9 (0, 0)) := by rw [← hw6, ← hgf]; exact blk_new w5 _
    have HB6 : Below w5.heap.size w5 w6 := by rw [← hw6]; exact below_alloc (Below.refl _ _) _
    have hp5 := blk_lt HP5.out
    have hm5 := HL5.out.hM.lt
    have HO := Aside0.mk (row_out.tell b0 p mb (n + 1) gf y.path (eqP y.path) room _ (y :: T) w6 (HL5.out.below HB6) HF6 (by omega) (by omega) (fun w2 s h2 _ => clo_tell gf y.path s w2 h2))
    rw [outS_head y T HL5.out.hN] at HO
    have HBW6 := Aside0.mk (HBW5.out.below HB6)
    clear hf0 HF6 HB6 hp5 hm5 kc
    rw [ec]
    go_wp2_with fail
    refine HO.out.mono ?_
    rintro e w7 ⟨rfl, v7, hL7, hB7, hO7⟩
    have HL7 := Aside0.mk hL7
    have HB7 := Aside0.mk (HBW6.out.trans hB7)
    have HO7 : Aside0 (∀ j, v7.ownBlock = some j → w.heap.size ≤ j) := ⟨fun j hj => by have := hO7 j hj; have := HBW6.out.size; omega⟩
    clear hL7 hB7 hO7 HO
    go_wp2
    go_ret
    refine ⟨by first | (show Ending.returned (.int .i64 0) = _; rw [HR0.out]; done) | (show Ending.returned (.int .i64 r) = _; rfl), .inr ⟨HR0.out.symm, v7, ?_, HB7.out, by first | exact HO7.out | (rw [← hg]; exact HO7.out)⟩⟩
    try rw [hS1]
    unfold capS
    rw [if_pos (by have := KC.out; have := HM.out; omega)]
    exact HL7.out
theorem led_Paths.at_ (b0 p mb n : Nat) (room : Int) (v : Value) (S : List Ln) (w : World) (h : Lg b0 p mb n room v S w) :
    Calls Try.prog 12 #[.pointer (some ⟨p, 0, none⟩)] w fun e w' => ∃ v', e = .returned v' ∧ Kd.R Kd.string 9 w' w.heap.size (fun _ => True) v' (paths S) ∧ Below w.heap.size w w' := by
  obtain ⟨A, c, rfl, hc, hC⟩ := Kd.R_reads h.hR
  obtain ⟨L, hL⟩ : ∃ L, L = paths S := ⟨_, rfl⟩
  have hlen : L.length ≤ 1000000 := by rw [hL]; unfold paths; rw [List.length_map]; exact h.hl
  have q := (rw_cells h.hP).2.1
  rw [← hL] at q hC hc ⊢
  have HC := Aside0.mk hC
  obtain ⟨m, hm⟩ : ∃ m, m = L.length := ⟨_, rfl⟩
  rw [← hm] at q
  have HM := Aside0.mk hm
  rw [← hm] at HC
  have HL0 : Aside0 ((([] : List ByteArray).length + m) * 16 ≤ 140737488355328) := ⟨by rw [List.length_nil]; omega⟩
  clear h hC hc hL hlen hm
  go_enter Try.func12, Try.ntmps12
  go_wp2_with (first | ((with_reducible refine gate_builtin (b := .append) (xs := #[.const (.slice none 0 0), .tmp 9]) rfl ?_); at_builtin; refine Kd.R_append_rows Kd.string (w0 := w) w.heap.size rfl (.const (.slice none 0 0)) (.tmp 9) 42 9 (.string ⟨#[]⟩) 16 rfl Try.underlying42 ld_info9 rfl (by decide) (by omega) (.slice none 0 0) [] L A m c (fun _ => True) (fun _ => False) rfl rfl (Kd.R_nil _ _ _ _ _) HC.out (fun _ _ h => h) (fun _ h => h.elim) (fun _ _ => trivial) (Below.refl _ _) (Nat.le_refl _) HL0.out ?_; intro v9 w9 ho9 hb9 hg9 ha9; clear ha9))
  go_wp2
  go_ret
  exact ⟨_, rfl, ho9, hb9⟩
/-- A call: 0 Ask, 1 Tell, 2 Forget; any other one: nothing. -/
structure Ac where
  act : Int
  path : ByteArray
  st : St
  sum : ByteArray
def acC (a : Ac) : Array Value := #[.int .i64 a.act, .string a.path, .int .i64 a.st.kind, .int .i64 a.st.ino, .int .i64 a.st.size, .int .i64 a.st.links, .int .i64 a.st.mode, .int .i64 a.st.sec, .int .i64 a.st.nano, .int .i64 a.st.uid, .int .i64 a.st.gid, .string a.st.target, .string a.sum]
def acV (a : Ac) : Value := .agg (acC a)
theorem ld_results4 {fn : Func} {t u v x : Tmp} (h : fn.results = #[.tmp t, .tmp u, .tmp v, .tmp x]) (tmps : Array Value) (P : Program) (w : World) :
    (results fn tmps).run P w = .ok (.tuple #[tmps.getD t undef, tmps.getD u undef, tmps.getD v undef, tmps.getD x undef]) w := by
  simp [results, h]
theorem ac_cells {w : World} {g : Nat} {a : Ac} (h : w.heap[g]? = some (.cells (acC a) 36 (0, 0))) :
    w.cell? ⟨g, 0, none⟩ = some (.int .i64 a.act) ∧ w.cell? ⟨g, 1, none⟩ = some (.string a.path) ∧ w.cell? ⟨g, 2, none⟩ = some (.int .i64 a.st.kind) ∧ w.cell? ⟨g, 3, none⟩ = some (.int .i64 a.st.ino) ∧ w.cell? ⟨g, 4, none⟩ = some (.int .i64 a.st.size) ∧ w.cell? ⟨g, 5, none⟩ = some (.int .i64 a.st.links) ∧ w.cell? ⟨g, 6, none⟩ = some (.int .i64 a.st.mode) ∧ w.cell? ⟨g, 7, none⟩ = some (.int .i64 a.st.sec) ∧ w.cell? ⟨g, 8, none⟩ = some (.int .i64 a.st.nano) ∧ w.cell? ⟨g, 9, none⟩ = some (.int .i64 a.st.uid) ∧ w.cell? ⟨g, 10, none⟩ = some (.int .i64 a.st.gid) ∧ w.cell? ⟨g, 11, none⟩ = some (.string a.st.target) ∧ w.cell? ⟨g, 12, none⟩ = some (.string a.sum) := by
  refine ⟨?_, ?_, ?_, ?_, ?_, ?_, ?_, ?_, ?_, ?_, ?_, ?_, ?_⟩ <;> rw [cell_of_row w g _ _ 36 (0, 0) h] <;> rfl
def askX (S : List Ln) (q : ByteArray) (s : St) : Option Ln := S.find? (fun x => eqP q x.path && mt s x)
theorem askX_none {S : List Ln} {q : ByteArray} {s : St} (h : ∀ x ∈ S, x.path = q → mt s x = false) : askX S q s = none := by
  unfold askX
  rw [List.find?_eq_none]
  intro x hx
  cases he : eqP q x.path with
  | false => simp
  | true => rw [h x hx ((eqP_iff q x.path).1 he)]; simp
theorem nodup_unique {S : List Ln} (h : (paths S).Nodup) {x y : Ln} (hx : x ∈ S) (hy : y ∈ S) (e : x.path = y.path) : x = y := by
  induction S with
  | nil => cases hx
  | cons z T ih =>
    obtain ⟨h1, h2⟩ := List.nodup_cons.1 (show (z.path :: paths T).Nodup from h)
    rcases List.mem_cons.1 hx with rfl | hx'
    · rcases List.mem_cons.1 hy with rfl | hy'
      · rfl
      · exact absurd (List.mem_map.2 ⟨y, hy', e.symm⟩) h1
    · rcases List.mem_cons.1 hy with rfl | hy'
      · exact absurd (List.mem_map.2 ⟨x, hx', e⟩) h1
      · exact ih h2 hx' hy'
theorem askX_some {S : List Ln} {q : ByteArray} {s : St} {x : Ln} (hn : (paths S).Nodup) (hx : x ∈ S) (hq : x.path = q) (hm : mt s x = true) : askX S q s = some x := by
  unfold askX
  cases hf : S.find? (fun x => eqP q x.path && mt s x) with
  | none =>
    have := List.find?_eq_none.1 hf x hx
    rw [(eqP_iff q x.path).2 hq, hm] at this
    exact absurd rfl this
  | some y =>
    have h1 := List.find?_some hf
    have h2 := List.mem_of_find?_eq_some hf
    rw [Bool.and_eq_true] at h1
    exact congrArg some (nodup_unique hn h2 hx (((eqP_iff q y.path).1 h1.1).trans hq.symm))
structure Re where
  sum : ByteArray
  ok : Bool
  e : Int
  k : Int
  S : List Ln
def doF (room : Int) (S : List Ln) (a : Ac) : Re :=
  if a.act = 0 then (match askX S a.path a.st with | none => ⟨⟨#[]⟩, false, 0, 0, S⟩ | some x => ⟨x.sum, true, 0, 0, lastS x S⟩)
  else if a.act = 1 then ⟨⟨#[]⟩, false, tellE a.path a.st a.sum, 0, if tellE a.path a.st a.sum = 0 then capS room (lastS (tellX a.path a.st a.sum) S) else S⟩
  else if a.act = 2 then ⟨⟨#[]⟩, false, 0, (S.length : Int) - (outS (fun q => underF q a.path) S).length, outS (fun q => underF q a.path) S⟩
  else ⟨⟨#[]⟩, false, 0, 0, S⟩
def reV (r : Re) : Value := .tuple #[.string r.sum, .bool r.ok, .int .i64 r.e, .int .i64 r.k]
set_option maxHeartbeats 8000000 in
theorem law_Do.at_ (b0 p mb n : Nat) (room : Int) (v : Value) (S : List Ln) (a : Ac) (w : World) (h : Lg b0 p mb n room v S w) (hq : a.path.size ≤ 1000000) (hS : S.length < 1000000) (hn : n ≤ 1000000) :
    Calls Try.prog 8 #[.pointer (some ⟨p, 0, none⟩), acV a] w fun e w' => e = .returned (reV (doF room S a)) ∧ ∃ v', Lg b0 p mb (n + 1) room v' (doF room S a).S w' ∧ Bm p mb w w' := by
  obtain ⟨w1, hw1⟩ : ∃ w1, w.alloc (.cells (acC a) 36) = w1 := ⟨_, rfl⟩
  obtain ⟨g, hg⟩ : ∃ g, w.heap.size = g := ⟨_, rfl⟩
  have HG1 : Aside0 (w1.heap[g]? = some (.cells (acC a) 36 (0, 0))) := ⟨by rw [← hw1, ← hg]; exact blk_new w _⟩
  have HB1 : Aside0 (Below w.heap.size w w1) := ⟨by rw [← hw1]; exact below_alloc (Below.refl _ _) _⟩
  have HL1 := Aside0.mk (h.below HB1.out)
  have HBm := Aside0.mk ((Bm.refl p mb w).below HB1.out)
  have HN := Aside0.mk h.hN
  obtain ⟨c0, c1, c2, c3, c4, c5, c6, c7, c8, c9, c10, c11, c12⟩ := ac_cells HG1.out
  have HAsk := Aside0.mk (led_Ask.at_ b0 p mb n room v S a.path a.st w1 HL1.out hq hS hn)
  have HTell := Aside0.mk (led_Tell.at_ b0 p mb n room v S a.path a.st a.sum w1 HL1.out hq hS hn)
  have HFor := Aside0.mk (led_Forget.at_ b0 p mb n room v S a.path w1 HL1.out hq)
  unfold stV stC at HAsk HTell
  have HD : Aside0 (∀ r, r = doF room S a → reV (doF room S a) = reV r) := ⟨fun r h => by rw [h]⟩
  unfold acV
  clear h hq hS hn
  by_cases k0 : a.act = 0
  · have e0 : (a.act == 0) = true := beq_iff_eq.mpr k0
    have K0 := Aside0.mk k0
    clear k0
    go_enter Try.func8, Try.ntmps8
    go_wp2_with fail
    refine HAsk.out.mono ?_
    rintro e w2 (⟨rfl, hno, hL, hB⟩ | ⟨x, hx, hxq, hm, rfl, v', hL, hB, _⟩)
    · have HD2 : Aside0 (doF room S a = ⟨⟨#[]⟩, false, 0, 0, S⟩) := ⟨by unfold doF; rw [if_pos K0.out, askX_none hno]⟩
      have HL2 := Aside0.mk (hL.mono (Nat.le_succ n))
      have HB2 := Aside0.mk (HBm.out.below hB)
      clear hL hB hno
      clear HAsk HTell HFor
      go_wp2
      refine bodyPost_ret (ld_results4 rfl _ _ _) rfl ?_
      refine ⟨?_, v, ?_, HB2.out⟩
      · show Ending.returned (.tuple #[.string ⟨#[]⟩, .bool false, .int .i64 0, .int .i64 0]) = _
        rw [HD2.out]; rfl
      · rw [HD2.out]; exact HL2.out
    · have HD2 : Aside0 (doF room S a = ⟨x.sum, true, 0, 0, lastS x S⟩) := ⟨by unfold doF; rw [if_pos K0.out, askX_some HN.out hx hxq hm]⟩
      have HL2 := Aside0.mk hL
      have HB2 := Aside0.mk (HBm.out.trans hB)
      clear hL hB hx hxq hm
      clear HAsk HTell HFor
      go_wp2
      refine bodyPost_ret (ld_results4 rfl _ _ _) rfl ?_
      refine ⟨?_, v', ?_, HB2.out⟩
      · show Ending.returned (.tuple #[.string x.sum, .bool true, .int .i64 0, .int .i64 0]) = _
        rw [HD2.out]; rfl
      · rw [HD2.out]; exact HL2.out
  have e0 : (a.act == 0) = false := beq_eq_false_iff_ne.mpr k0
  by_cases k1 : a.act = 1
  · have e1 : (a.act == 1) = true := beq_iff_eq.mpr k1
    have K1 := Aside0.mk (And.intro k0 k1)
    clear k0 k1
    go_enter Try.func8, Try.ntmps8
    go_wp2_with fail
    refine HTell.out.mono ?_
    rintro e w2 ⟨rfl, ⟨hz, hL, hB⟩ | ⟨hz, v', hL, hB, _⟩⟩
    · have HD2 : Aside0 (doF room S a = ⟨⟨#[]⟩, false, tellE a.path a.st a.sum, 0, S⟩) := ⟨by unfold doF; rw [if_neg K1.out.1, if_pos K1.out.2, if_neg hz]⟩
      have HL2 := Aside0.mk (hL.mono (Nat.le_succ n))
      have HB2 := Aside0.mk (HBm.out.below hB)
      clear hL hB hz
      clear HAsk HTell HFor
      go_wp2
      refine bodyPost_ret (ld_results4 rfl _ _ _) rfl ?_
      refine ⟨?_, v, ?_, HB2.out⟩
      · show Ending.returned (.tuple #[.string ⟨#[]⟩, .bool false, .int .i64 (tellE a.path a.st a.sum), .int .i64 0]) = _
        rw [HD2.out]; rfl
      · rw [HD2.out]; exact HL2.out
    · have HD2 : Aside0 (doF room S a = ⟨⟨#[]⟩, false, tellE a.path a.st a.sum, 0, capS room (lastS (tellX a.path a.st a.sum) S)⟩) := ⟨by unfold doF; rw [if_neg K1.out.1, if_pos K1.out.2, if_pos hz]⟩
      have HL2 := Aside0.mk hL
      have HB2 := Aside0.mk (HBm.out.trans hB)
      clear hL hB hz
      clear HAsk HTell HFor
      go_wp2
      refine bodyPost_ret (ld_results4 rfl _ _ _) rfl ?_
      refine ⟨?_, v', ?_, HB2.out⟩
      · show Ending.returned (.tuple #[.string ⟨#[]⟩, .bool false, .int .i64 (tellE a.path a.st a.sum), .int .i64 0]) = _
        rw [HD2.out]; rfl
      · rw [HD2.out]; exact HL2.out
  have e1 : (a.act == 1) = false := beq_eq_false_iff_ne.mpr k1
  by_cases k2 : a.act = 2
  · have e2 : (a.act == 2) = true := beq_iff_eq.mpr k2
    have HD2 : Aside0 (doF room S a = ⟨⟨#[]⟩, false, 0, (S.length : Int) - (outS (fun q => underF q a.path) S).length, outS (fun q => underF q a.path) S⟩) := ⟨by unfold doF; rw [if_neg k0, if_neg k1, if_pos k2]⟩
    clear k0 k1 k2
    go_enter Try.func8, Try.ntmps8
    go_wp2_with fail
    refine HFor.out.mono ?_
    rintro e w2 ⟨rfl, v', hL, hB, _⟩
    have HL2 := Aside0.mk (hL.mono (Nat.le_succ n))
    have HB2 := Aside0.mk (HBm.out.trans hB)
    clear hL hB
    clear HAsk HTell HFor
    go_wp2
    refine bodyPost_ret (ld_results4 rfl _ _ _) rfl ?_
    refine ⟨?_, v', ?_, HB2.out⟩
    · show Ending.returned (.tuple #[.string ⟨#[]⟩, .bool false, .int .i64 0, .int .i64 ((S.length : Int) - (outS (fun q => underF q a.path) S).length)]) = _
      rw [HD2.out]; rfl
    · rw [HD2.out]; exact HL2.out
  have e2 : (a.act == 2) = false := beq_eq_false_iff_ne.mpr k2
  have HD2 : Aside0 (doF room S a = ⟨⟨#[]⟩, false, 0, 0, S⟩) := ⟨by unfold doF; rw [if_neg k0, if_neg k1, if_neg k2]⟩
  have HL2 := Aside0.mk (HL1.out.mono (Nat.le_succ n))
  clear k0 k1 k2
  go_enter Try.func8, Try.ntmps8
  clear HAsk HTell HFor
  go_wp2
  refine bodyPost_ret (ld_results4 rfl _ _ _) rfl ?_
  refine ⟨?_, v, ?_, HBm.out⟩
  · show Ending.returned (.tuple #[.string ⟨#[]⟩, .bool false, .int .i64 0, .int .i64 0]) = _
    rw [HD2.out]; rfl
  · rw [HD2.out]; exact HL2.out


end Go.Proofs.Ytniboafnkiijcaa.P
