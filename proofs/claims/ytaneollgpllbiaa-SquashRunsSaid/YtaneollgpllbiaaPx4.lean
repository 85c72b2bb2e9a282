-- Written by a program of the session (wip/tool/mk.py) out of the translation; Lean checks it.
import Derived.Test.YtaneollgpllbiaaPx0
import Derived.Test.YtaneollgpllbiaaPx1
import Derived.Test.YtaneollgpllbiaaPx2
import Derived.Test.YtaneollgpllbiaaPx3
namespace Go.Proofs.Ytaneollgpllbiaa.P
open Go.RowKit Go.Proofs.YtaneollgpllbiaaW.PrintWords Go.Proofs.YtaneollgpllbiaaW.PrintLast Go.Proofs.YtaneollgpllbiaaW.PrintMore
attribute [local go_sem] max2_int min2_int max_two min_two max_three min_three max_four min_four   -- for this text's walks alone
set_option linter.unusedVariables false
set_option linter.unusedSimpArgs false

/-! ### squash_finder_best: function 22, a contract of my own -/
section
open Go.Proofs.Ytaneollgpllbiaa.Num
def chainB (B : List Int) (i : Nat) : Nat → Int → Nat → Nat → Nat × Nat
  | 0, _, len, far => (len, far)
  | q + 1, a, len, far => if a < 0 ∨ (i : Int) - a > 4096 ∨ len = 130 then (len, far) else
      if longN B i (i - a.toNat) > len then chainB B i q (lastK (key4 B) (key4 B a.toNat) a.toNat) (longN B i (i - a.toNat)) (i - a.toNat)
      else chainB B i q (lastK (key4 B) (key4 B a.toNat) a.toNat) len far
def bestR (B : List Int) (i : Nat) : Nat × Nat := if i + 4 ≤ B.length then chainB B i (i + 1) (lastK (key4 B) (key4 B i) i) 0 0 else (0, 0)
theorem rowI_base {w : World} {b : Nat} {ok : Nat → Prop} {v : Value} {xs : List Int} (h : (Kd.int .i64).R 3 w b ok v xs) (h0 : 0 < xs.length) : ∃ g c, v = .slice (some ⟨g, 0, none⟩) xs.length c := by
  obtain ⟨_, inner, hown, _⟩ := h
  rcases hown.2 with ⟨_, hn⟩ | ⟨g, cap, cur, e, _⟩
  · omega
  · exact ⟨g, cap, e⟩
theorem chainB_stop (B : List Int) (i q : Nat) (a : Int) (len far : Nat) (h : a < 0 ∨ (i : Int) - a > 4096 ∨ len = 130) : chainB B i q a len far = (len, far) := by
  cases q with
  | zero => rfl
  | succ q => rw [chainB, if_pos h]
theorem chainB_more (B : List Int) (i q : Nat) (a : Int) (len far : Nat) (h : ¬ (a < 0 ∨ (i : Int) - a > 4096 ∨ len = 130)) : chainB B i (q + 1) a len far =
    if longN B i (i - a.toNat) > len then chainB B i q (lastK (key4 B) (key4 B a.toNat) a.toNat) (longN B i (i - a.toNat)) (i - a.toNat) else chainB B i q (lastK (key4 B) (key4 B a.toNat) a.toNat) len far := by
  rw [chainB, if_neg h]
theorem ahead_at {w : World} {b : Nat} {ok : Nat → Prop} {g c nB k : Nat} {B : List Int} (h : (Kd.int .i64).R 3 w b ok (.slice (some ⟨g, 0, none⟩) nB c) (Ah B nB k)) (m : Nat) (hm : m < k) (hk : k ≤ nB) : w.cell? ⟨g, m, none⟩ = some (.int .i64 (lastK (key4 B) (key4 B m) m)) := by
  obtain ⟨e, _, h2⟩ := Kd.R_reads' h
  obtain ⟨ad, e3, hx⟩ := Kd.at_int h2 (m : Int) (by omega) (by rw [Ah_len B nB k hk]; omega)
  cases e3
  rw [Int.toNat_natCast, Ah_rd B nB k m hm] at hx
  by_cases h0 : m = 0
  · subst h0
    simpa [Addr.add] using hx
  · simpa [Addr.add, h0] using hx
theorem wp_scope_jumps_skip {P : Program} {a : Act} {w : World} {Q : Exit → Act → World → Prop} {c X : Code} (l : Nat) (J : Act → World → Prop) (μ : Act → World → Nat) (hf : findLabel c l = some (Code.skip.seq X))
    (pass : ∀ a w, J a w → X.wp P (Exit.jump l (fun a' w' => J a' w' ∧ μ a' w' < μ a w) Q) a w)
    (first : (∀ a w, J a w → X.wp P (Exit.jump l (fun a' w' => J a' w' ∧ μ a' w' < μ a w) Q) a w) → c.wp P (Exit.jump l J Q) a w) : (Code.scope c).wp P Q a w :=
  wp_scope_jumps l J μ hf (first pass) (fun a w hJ => wp_seq (wp_skip (pass a w hJ)))
def intOf_ : Value → Int | .int _ q => q | _ => 0
theorem lastK_lt (K : Nat → List Int) (x : List Int) : ∀ n, lastK K x n < (n : Int) ∧ -1 ≤ lastK K x n
  | 0 => by simp [lastK]
  | j + 1 => by
    rw [lastK]
    have := lastK_lt K x j
    by_cases e : K j = x
    · rw [if_pos e]; omega
    · rw [if_neg e]; omega
set_option maxHeartbeats 8000000 in
theorem fd_best (X : World → Prop) (OK : Nat → Prop) (w0 : World) (p : Nat) (A0 : Option Addr) (nB c0 : Nat) (B : List Int) (mb k0 i : Nat) (va : Value) (w : World) (h : Fd X OK w0 p (.slice A0 nB c0) B nB mb k0 va w) (hB : B.length = nB) (hC : Kd.C (Kd.int .u8) w0 A0 nB B) (hc0 : nB ≤ c0) (hk : k0 ≤ i) (hi : i < nB) (hnB : nB ≤ 65536) (hby : ∀ x ∈ B, 0 ≤ x ∧ x ≤ 255) :
    Calls Try.prog 22 #[.pointer (some ⟨p, 0, none⟩), .int .i64 i] w fun e w' => e = .returned (.tuple #[.int .i64 (bestR B i).1, .int .i64 (bestR B i).2]) ∧ ∃ k, k ≤ i ∧ Fd X OK w0 p (.slice A0 nB c0) B nB mb k va w' := by
  have q0 := (fd_cells h.hP).1
  by_cases h4 : i + 4 ≤ nB
  rotate_left
  · have hR : bestR B i = (0, 0) := if_neg (by omega)
    rw [hR]
    obtain ⟨i4, hi4⟩ : ∃ i4 : Nat, i4 = i + 4 := ⟨_, rfl⟩
    have hadd : wrap64 ((i : Int) + 4) = (i4 : Int) := by unfold wrap64; omega
    have e1 : decide ((nB : Int) < (i4 : Int)) = true := decide_eq_true (by omega)
    have e1' : decide (nB < i4) = true := decide_eq_true (by omega)
    have HF := Aside0.mk h
    have HK := Aside0.mk hk
    clear h hB hC hc0 hi hnB hby h4 hi4 hk
    go_enter Try.func22, Try.ntmps22
    go_wp2
    go_step3
    go_wp2
    simp only [Exit.noGoto_ret]
    go_ret2
    exact ⟨rfl, k0, HK.out, HF.out⟩
  have hR : bestR B i = chainB B i (i + 1) (lastK (key4 B) (key4 B i) i) 0 0 := if_pos (by omega)
  obtain ⟨RR, hRR⟩ : ∃ RR, bestR B i = RR := ⟨_, rfl⟩
  rw [hRR]
  rw [hR] at hRR
  have HRR := Aside0.mk hRR.symm
  clear hRR
  obtain ⟨ga, ca, rfl⟩ : ∃ ga ca, va = .slice (some ⟨ga, 0, none⟩) nB ca := by
    obtain ⟨g, c, e⟩ := rowI_base h.hA (by rw [Ah_len B nB k0 (by omega)]; omega)
    exact ⟨g, c, by rw [e, Ah_len B nB k0 (by omega)]⟩
  obtain ⟨i4, hi4⟩ : ∃ i4 : Nat, i4 = i + 4 := ⟨_, rfl⟩
  have hadd : wrap64 ((i : Int) + 4) = (i4 : Int) := by unfold wrap64; omega
  have e1 : decide ((nB : Int) < (i4 : Int)) = false := decide_eq_false (by omega)
  have e1' : decide (nB < i4) = false := decide_eq_false (by omega)
  have hK4 : ∀ j, j ≤ i → K4 (key4 B j) := fun j hj => ⟨by rw [key4_eq B j (by omega)]; rfl, fun x hx => hby x (List.mem_of_mem_drop (List.mem_of_mem_take hx))⟩
  have HK4 := Aside0.mk hK4
  have HUp := Aside0.mk (fd_upto X OK w0 p A0 nB c0 B mb k0 i _ w h hB hC hc0 hk h4 hnB hby)
  have HKey : Aside0 (∀ w1, Fd X OK w0 p (.slice A0 nB c0) B nB mb i (.slice (some ⟨ga, 0, none⟩) nB ca) w1 → Calls Try.prog 29 #[.pointer (some ⟨p, 0, none⟩), .int .i64 i] w1 fun e w' => e = .returned (kv (key4 B i)) ∧ Below w1.heap.size w1 w') :=
    ⟨fun w1 h1 => fd_key p A0 nB c0 B i w1 (fd_cells h1.hP).1 hB (Kd.C_below hC h1.hB) hc0 h4 hnB⟩
  have HLong : Aside0 (∀ w1 far, 0 < far → far ≤ i → Fd X OK w0 p (.slice A0 nB c0) B nB mb i (.slice (some ⟨ga, 0, none⟩) nB ca) w1 → Calls Try.prog 30 #[.pointer (some ⟨p, 0, none⟩), .int .i64 i, .int .i64 far] w1 fun e w' => e = .returned (.int .i64 (longN B i far : Nat)) ∧ Drawn0 w1 w') :=
    ⟨fun w1 far h0 hf h1 => fd_long p A0 nB c0 B i far w1 (fd_cells h1.hP).1 hB (Kd.C_below hC h1.hB) hc0 (by omega) h0 hf hnB⟩
  have HI := Aside0.mk (And.intro h4 hnB)
  clear h hB hC hc0 hi hnB hby h4 hi4 hk hR hK4
  go_enter Try.func22, Try.ntmps22
  go_wp2
  refine wp_scope_jumps_skip 0 (fun a' w' => Aside0 (Fd X OK w0 p (.slice A0 nB c0) B nB mb i (.slice (some ⟨ga, 0, none⟩) nB ca) w') ∧ ∃ (q len far : Nat) (a : Int) (u8 u9 u10 u11 u12 u13 u14 u15 u16 u17 u18 u19 u20 u21 u22 u23 u24 u25 u26 u27 u28 u29 u30 u31 u32 u33 u34 u35 u36 u37 u38 u39 u40 u41 u42 u43 u44 u45 u46 u47 u48 u49 u50 u51 u52 u53 u54 u55 u56 u57 u58 u59 u60 u61 u62 u63 u64 u65 u66 : Value), a' = { tmps := #[.pointer (some ⟨p, 0, none⟩), .int .i64 i, undef, undef, .int .i64 len, .int .i64 far, .int .i64 a, .bool true, u8, u9, u10, u11, u12, u13, u14, u15, u16, u17, u18, u19, u20, u21, u22, u23, u24, u25, u26, u27, u28, u29, u30, u31, u32, u33, u34, u35, u36, u37, u38, u39, u40, u41, u42, u43, u44, u45, u46, u47, u48, u49, u50, u51, u52, u53, u54, u55, u56, u57, u58, u59, u60, u61, u62, u63, u64, u65, u66], defers := [] } ∧ Aside0 (chainB B i q a len far = chainB B i (i + 1) (lastK (key4 B) (key4 B i) i) 0 0) ∧ Aside0 (a < i ∧ -1 ≤ a ∧ a < q)) (fun a' _ => (intOf_ (a'.tmps.getD 6 undef) + 1).toNat) rfl ?_ ?_
  rotate_left
  · intro pass
    go_wp2_with fail
    refine HUp.out.mono ?_
    rintro e w1 ⟨rfl, h1⟩
    have HF := Aside0.mk h1
    clear h1 HUp
    go_wp2_with fail
    refine start_ (n := 13) (S := fun w' => w'.cell? ⟨p, 1, none⟩ = some (.map (some mb)) ∧ w'.cell? ⟨p, 0, none⟩ = some (.slice A0 nB c0)) (ds := []) #[false, false, false, false, false, false, false, false, false, false, false, false, false] (by kernel_rfl) rfl rfl ⟨(fd_cells HF.out.hP).2.1, (fd_cells HF.out.hP).1⟩ (fun hHeld => ?_)
    refine pure_ (i := 0) (N := some 21) (v := ?_) (a' := ?_) #[true, false, false, false, false, false, false, false, false, false, false, false, false] rfl rfl (by kernel_rfl) (fun _ _ _ h => h) (Or.inl ⟨by rfl, ?_⟩) ?_ ?_
    rotate_left
    · intro w'
      go_simp
      with_reducible rfl
    rotate_left
    · simp only [Act.put, List.setIfInBounds_toArray, List.set_cons_zero, List.set_cons_succ, i64_w, i32_w]
      rfl
    refine pure_ (i := 1) (N := some 22) (v := ?_) (a' := ?_) #[true, true, false, false, false, false, false, false, false, false, false, false, false] rfl rfl (by kernel_rfl) (fun _ _ _ h => h) (Or.inl ⟨by rfl, ?_⟩) ?_ ?_
    rotate_left
    · intro w'
      go_simp
      with_reducible rfl
    rotate_left
    · simp only [Act.put, List.setIfInBounds_toArray, List.set_cons_zero, List.set_cons_succ, i64_w, i32_w]
      rfl
    refine pure_ (i := 2) (N := some 23) (v := ?_) (a' := ?_) #[true, true, true, false, false, false, false, false, false, false, false, false, false] rfl rfl (by kernel_rfl) (fun _ _ _ h => h) (Or.inl ⟨by rfl, ?_⟩) ?_ ?_
    rotate_left
    · intro w'
      go_simp
      with_reducible rfl
    rotate_left
    · simp only [Act.put, List.setIfInBounds_toArray, List.set_cons_zero, List.set_cons_succ, i64_w, i32_w]
      rfl
    refine pure_ (i := 4) (N := some 25) (v := ?_) (a' := ?_) #[true, true, true, false, true, false, false, false, false, false, false, false, false] rfl rfl (by kernel_rfl) (fun _ _ _ h => h) (Or.inl ⟨by rfl, ?_⟩) ?_ ?_
    rotate_left
    · intro w'
      go_simp
      with_reducible rfl
    rotate_left
    · simp only [Act.put, List.setIfInBounds_toArray, List.set_cons_zero, List.set_cons_succ, i64_w, i32_w]
      rfl
    refine pure_ (i := 5) (N := some 26) (v := ?_) (a' := ?_) #[true, true, true, false, true, true, false, false, false, false, false, false, false] rfl rfl (by kernel_rfl) (fun _ _ _ h => h) (Or.inl ⟨by rfl, ?_⟩) ?_ ?_
    rotate_left
    · intro w'
      go_simp
      with_reducible rfl
    rotate_left
    · simp only [Act.put, List.setIfInBounds_toArray, List.set_cons_zero, List.set_cons_succ, i64_w, i32_w]
      rfl
    refine take_ (i := 3) (N := some 24) (v := ?_) (a' := ?_) #[true, true, true, true, true, true, false, false, false, false, false, false, false] rfl rfl (by kernel_rfl) (fun _ _ _ h => h) (Or.inl ⟨by rfl, ?_⟩) hHeld ?_ ?_
    rotate_left
    · rintro w' ⟨s0, s1⟩
      go_simp
      with_reducible rfl
    rotate_left
    · simp only [Act.put, List.setIfInBounds_toArray, List.set_cons_zero, List.set_cons_succ, i64_w, i32_w]
      rfl
    refine one_ (i := 6) (N := some 27) #[true, true, true, true, true, true, true, false, false, false, false, false, false] rfl rfl (by kernel_rfl) (by decide) (fun K hK => ?_)
    refine goes_ Try.func29 (by kernel_rfl) rfl #[.pointer (some ⟨p, 0, none⟩), .int .i64 (i : Int)] (by rfl) rfl rfl (by simp only [List.map_toArray, List.map_cons, List.map_nil]; rfl) ?_
    with_reducible refine (HKey.out _ (HF.out.below (below_drew (Below.refl _ _)))).mono ?_
    rintro e w3 ⟨rfl, hd3⟩
    refine ⟨_, rfl, ?_⟩
    have HF3 := Aside0.mk ((HF.out.below (below_drew (Below.refl _ _))).below hd3)
    obtain ⟨c, hlk, hc⟩ := map_look HF3.out.hM (fun j hj => HK4.out j (by omega)) (HK4.out i (Nat.le_refl _))
    refine hK.out _ _ ⟨(fd_cells HF3.out.hP).2.1, (fd_cells HF3.out.hP).1⟩ (fun hHeld => ?_)
    clear hK K
    refine norm_ (a' := ?_) ?_ ?_
    rotate_left
    · show Act.put _ (some 27) _ = _
      simp only [Act.put, List.setIfInBounds_toArray, List.set_cons_zero, List.set_cons_succ, i64_w, i32_w]
      rfl
    refine one_ (i := 7) (N := some 28) #[true, true, true, true, true, true, true, true, false, false, false, false, false] rfl rfl (by kernel_rfl) (by decide) (fun K hK => ?_)
    refine value_ (w1 := w3) (by rfl) rfl (lookup_step rfl rfl rfl hlk) ?_
    refine hK.out _ _ ⟨(fd_cells HF3.out.hP).2.1, (fd_cells HF3.out.hP).1⟩ (fun hHeld => ?_)
    clear hK K
    refine norm_ (a' := ?_) ?_ ?_
    rotate_left
    · show Act.put _ (some 28) _ = _
      simp only [Act.put, List.setIfInBounds_toArray, List.set_cons_zero, List.set_cons_succ, i64_w, i32_w]
      rfl
    refine pure_ (i := 8) (N := some 20) (v := ?_) (a' := ?_) #[true, true, true, true, true, true, true, true, true, false, false, false, false] rfl rfl (by kernel_rfl) (fun _ _ _ h => h) (Or.inl ⟨by rfl, ?_⟩) ?_ ?_
    rotate_left
    · intro w'
      go_simp
      with_reducible rfl
    rotate_left
    · simp only [Act.put, List.setIfInBounds_toArray, List.set_cons_zero, List.set_cons_succ, i64_w, i32_w]
      rfl
    refine pure_ (i := 9) (N := some 29) (v := ?_) (a' := ?_) #[true, true, true, true, true, true, true, true, true, true, false, false, false] rfl rfl (by kernel_rfl) (fun _ _ _ h => h) (Or.inl ⟨by rfl, ?_⟩) ?_ ?_
    rotate_left
    · intro w'
      go_simp
      with_reducible rfl
    rotate_left
    · simp only [Act.put, List.setIfInBounds_toArray, List.set_cons_zero, List.set_cons_succ, i64_w, i32_w]
      rfl
    refine pure_ (i := 10) (N := some 30) (v := ?_) (a' := ?_) #[true, true, true, true, true, true, true, true, true, true, true, false, false] rfl rfl (by kernel_rfl) (fun _ _ _ h => h) (Or.inl ⟨by rfl, ?_⟩) ?_ ?_
    rotate_left
    · intro w'
      go_simp
      with_reducible rfl
    rotate_left
    · simp only [Act.put, List.setIfInBounds_toArray, List.set_cons_zero, List.set_cons_succ, i64_w, i32_w]
      rfl
    refine pure_ (i := 11) (N := some 6) (v := ?_) (a' := ?_) #[true, true, true, true, true, true, true, true, true, true, true, true, false] rfl rfl (by kernel_rfl) (fun _ _ _ h => h) (Or.inl ⟨by rfl, ?_⟩) ?_ ?_
    rotate_left
    · intro w'
      go_simp
      with_reducible rfl
    rotate_left
    · simp only [Act.put, List.setIfInBounds_toArray, List.set_cons_zero, List.set_cons_succ, i64_w, i32_w]
      rfl
    refine pure_ (i := 12) (N := some 7) (v := ?_) (a' := ?_) #[true, true, true, true, true, true, true, true, true, true, true, true, true] rfl rfl (by kernel_rfl) (fun _ _ _ h => h) (Or.inl ⟨by rfl, ?_⟩) ?_ ?_
    rotate_left
    · intro w'
      go_simp
      with_reducible rfl
    rotate_left
    · simp only [Act.put, List.setIfInBounds_toArray, List.set_cons_zero, List.set_cons_succ, i64_w, i32_w]
      rfl
    refine done_ (by kernel_rfl) ?_
    by_cases cL : 0 ≤ lastK (key4 B) (key4 B i) i
    · rw [decide_eq_true cL]
      have hc' := hc cL
      obtain ⟨a, ha⟩ : ∃ a, a = lastK (key4 B) (key4 B i) i := ⟨_, rfl⟩
      rw [← ha] at hc' HRR
      obtain rfl : a = c := hc'.symm
      have HQ : Aside0 (chainB B i (i + 1) a 0 0 = chainB B i (i + 1) a 0 0) := ⟨rfl⟩
      have HA : Aside0 (a < (i : Int) ∧ -1 ≤ a ∧ a < ((i + 1 : Nat) : Int)) := ⟨by have := lastK_lt (key4 B) (key4 B i) i; omega⟩
      have HF := HF3
      have HAk := Aside0.mk ha
      clear ha hc hc' hlk
      go_wp2
      go_step3
      rename_i hKx
      refine hKx _ _ ?_
      refine Code.wp_mono ?_ (pass _ _ ⟨⟨HF.out⟩, i + 1, 0, 0, a, _, _, _, _, _, _, _, _, _, _, _, _, _, _, _, _, _, _, _, _, _, _, _, _, _, _, _, _, _, _, _, _, _, _, _, _, _, _, _, _, _, _, _, _, _, _, _, _, _, _, _, _, _, _, _, _, _, _, _, rfl, ⟨by rw [HAk.out]⟩, HA⟩)
      intro e a2 w2 hq
      cases e with
      | goto l => exact ⟨hq.1, hq.2.1⟩
      | normal => exact hq
      | exit id => exact hq
      | ret => exact hq
      | panic => exact hq
      | outgrown => exact hq
    · rw [decide_eq_false cL]
      go_wp2
      simp only [Exit.jump]
      go_ret2
      refine ⟨?_, i, Nat.le_refl _, HF3.out⟩
      rw [HRR.out, chainB_stop _ _ _ _ _ _ (Or.inl (by omega))]
      rfl
  · rintro a' w' ⟨HF, q, len, far, a, u8, u9, u10, u11, u12, u13, u14, u15, u16, u17, u18, u19, u20, u21, u22, u23, u24, u25, u26, u27, u28, u29, u30, u31, u32, u33, u34, u35, u36, u37, u38, u39, u40, u41, u42, u43, u44, u45, u46, u47, u48, u49, u50, u51, u52, u53, u54, u55, u56, u57, u58, u59, u60, u61, u62, u63, u64, u65, u66, rfl, HQ, HA⟩
    by_cases ca : a < 0
    · have ea : decide (a < 0) = true := decide_eq_true ca
      have CA := Aside0.mk ca
      clear ca
      go_wp2
      simp only [Exit.jump]
      go_ret2
      refine ⟨?_, i, Nat.le_refl _, HF.out⟩
      rw [HRR.out, ← HQ.out, chainB_stop _ _ _ _ _ _ (Or.inl CA.out)]
      try rfl
    obtain ⟨m, rfl⟩ : ∃ m : Nat, a = (m : Int) := ⟨a.toNat, by omega⟩
    have ea : decide ((m : Int) < 0) = false := decide_eq_false (by omega)
    obtain ⟨f1, hf1⟩ : ∃ f1 : Nat, f1 = i - m := ⟨_, rfl⟩
    have hsub : wrap64 ((i : Int) - (m : Int)) = (f1 : Int) := by have := HA.out; have := HI.out; unfold wrap64; omega
    have HF1 := Aside0.mk (show f1 = i - m ∧ m < i from ⟨hf1, by have := HA.out; omega⟩)
    clear ca hf1
    by_cases c2 : 4096 < f1
    · have e2 : decide ((4096 : Int) < (f1 : Int)) = true := decide_eq_true (by omega)
      have e2' : decide (4096 < f1) = true := decide_eq_true c2
      have C2 := Aside0.mk c2
      clear c2
      go_wp2
      simp only [Exit.jump]
      go_ret2
      refine ⟨?_, i, Nat.le_refl _, HF.out⟩
      rw [HRR.out, ← HQ.out, chainB_stop _ _ _ _ _ _ (Or.inr (Or.inl (by have := HF1.out; have := C2.out; omega)))]
      try rfl
    have e2 : decide ((4096 : Int) < (f1 : Int)) = false := decide_eq_false (by omega)
    have e2' : decide (4096 < f1) = false := decide_eq_false c2
    by_cases c3 : len = 130
    · have e3 : ((len : Int) == 130) = true := beq_iff_eq.mpr (by omega)
      have C3 := Aside0.mk c3
      clear c2 c3
      go_wp2
      simp only [Exit.jump]
      go_ret2
      refine ⟨?_, i, Nat.le_refl _, HF.out⟩
      rw [HRR.out, ← HQ.out, chainB_stop _ _ _ _ _ _ (Or.inr (Or.inr C3.out))]
      try rfl
    have e3 : ((len : Int) == 130) = false := beq_eq_false_iff_ne.mpr (by omega)
    have HST : Aside0 (¬ ((m : Int) < 0 ∨ (i : Int) - (m : Int) > 4096 ∨ len = 130)) := ⟨by have := HF1.out; omega⟩
    clear c2 c3
    obtain ⟨q1, hq1⟩ : ∃ q1, q = q1 + 1 := ⟨q - 1, by have := HA.out; omega⟩
    have HQ1 := Aside0.mk hq1
    clear hq1
    go_wp2_with fail
    refine (HLong.out _ f1 (by have := HF1.out; omega) (by have := HF1.out; omega) HF.out).mono ?_
    rintro e w4 ⟨rfl, hd4⟩
    have HF4 := Aside0.mk (HF.out.below hd4.below)
    clear hd4 HF
    obtain ⟨n1, hn1⟩ : ∃ n1, longN B i f1 = n1 := ⟨_, rfl⟩
    rw [hn1]
    have q2 := (fd_cells HF4.out.hP).2.2.1
    have q5 : w4.cell? ⟨ga, m, none⟩ = some (.int .i64 (lastK (key4 B) (key4 B m) m)) := ahead_at HF4.out.hA m HF1.out.2 (by have := HI.out; omega)
    have k1 : (0 ≤ (m : Int)) = True := eq_true (by omega)
    have k2 : ((m : Int) < (nB : Int)) = True := eq_true (by have := HI.out; have := HF1.out; omega)
    have k3 : (m < nB) = True := eq_true (by have := HI.out; have := HF1.out; omega)
    by_cases c4 : n1 > len
    · have e4 : decide ((len : Int) < (n1 : Int)) = true := decide_eq_true (by omega)
      have e4' : decide (len < n1) = true := decide_eq_true c4
      have C4 := Aside0.mk c4
      clear c4
      go_wp2
      go_step3
      rw [hsub]
      refine ⟨rfl, ⟨⟨HF4.out⟩, q1, n1, f1, lastK (key4 B) (key4 B m) m, _, _, _, _, _, _, _, _, _, _, _, _, _, _, _, _, _, _, _, _, _, _, _, _, _, _, _, _, _, _, _, _, _, _, _, _, _, _, _, _, _, _, _, _, _, _, _, _, _, _, _, _, _, _, _, _, _, _, _, rfl, ⟨?_⟩, ⟨?_⟩⟩, ?_⟩
      · have hq := HQ.out
        rw [HQ1.out, chainB_more _ _ _ _ _ _ HST.out, Int.toNat_natCast, ← HF1.out.1, hn1] at hq
        have hc := C4.out
        first | rw [if_pos hc] at hq | rw [if_neg hc] at hq
        exact hq
      · have := lastK_lt (key4 B) (key4 B m) m
        have := HA.out
        have := HQ1.out
        omega
      · have h1 := lastK_lt (key4 B) (key4 B m) m
        show (lastK (key4 B) (key4 B m) m + 1).toNat < ((m : Int) + 1).toNat
        omega
    · have e4 : decide ((len : Int) < (n1 : Int)) = false := decide_eq_false (by omega)
      have e4' : decide (len < n1) = false := decide_eq_false c4
      have C4 := Aside0.mk c4
      clear c4
      go_wp2
      go_step3
      refine ⟨rfl, ⟨⟨HF4.out⟩, q1, len, far, lastK (key4 B) (key4 B m) m, _, _, _, _, _, _, _, _, _, _, _, _, _, _, _, _, _, _, _, _, _, _, _, _, _, _, _, _, _, _, _, _, _, _, _, _, _, _, _, _, _, _, _, _, _, _, _, _, _, _, _, _, _, _, _, _, _, _, _, rfl, ⟨?_⟩, ⟨?_⟩⟩, ?_⟩
      · have hq := HQ.out
        rw [HQ1.out, chainB_more _ _ _ _ _ _ HST.out, Int.toNat_natCast, ← HF1.out.1, hn1] at hq
        have hc := C4.out
        first | rw [if_pos hc] at hq | rw [if_neg hc] at hq
        exact hq
      · have := lastK_lt (key4 B) (key4 B m) m
        have := HA.out
        have := HQ1.out
        omega
      · have h1 := lastK_lt (key4 B) (key4 B m) m
        show (lastK (key4 B) (key4 B m) m + 1).toNat < ((m : Int) + 1).toNat
        omega
end


end Go.Proofs.Ytaneollgpllbiaa.P
