/- Send, next and Out of a mux: what they compute. -/
import Derived.Test.YthehhbfiaaadgaaDoorMux1
import Derived.Deep.QuietTactic
import Derived.BigQuiet
import Derived.Test.YthehhbfiaaadgaaDoorPx0
import Derived.Deep.LoopGhost
import Derived.Test.YthehhbfiaaadgaaDoorFrameSpec
import Derived.Deep.CutBlock
namespace Go.Proofs.YthehhbfiaaadgaaDoor.P
open Go.RowKit Go.Proofs.YthehhbfiaaadgaaDoorW.PrintWords Go.Proofs.YthehhbfiaaadgaaDoorW.PrintLast Go.Proofs.YthehhbfiaaadgaaDoorW.PrintMore
attribute [local go_sem] max2_int min2_int max_two min_two max_three min_three max_four min_four
set_option linter.unusedVariables false
set_option linter.unusedSimpArgs false
theorem send_facts {b0 p q : Nat} {vs : Nat → Value} {M : Mx} {w w1 : World} (h : Mm b0 p q vs M w) (ch : Nat) (hch : ch < 8) (v1 : Value) (L1 : List Int) (hT : Tb w1 b0 v1 L1) (hg : w.grownBy w1 (vs ch).ownBlock) (ho : v1.ownBlock = (vs ch).ownBlock ∨ ∃ b, v1.ownBlock = some b ∧ w.heap.size ≤ b) :
    w1.cell? ⟨p, 1 + ch * 5, none⟩ = some (vs ch) ∧ w1.frozen? ⟨p, 1 + ch * 5, none⟩ = false ∧ (w1.setCell ⟨p, 1 + ch * 5, none⟩ v1).cell? ⟨p, 1 + ch * 5 + 1, none⟩ = some (.int .i64 (M.way ch)) ∧ (w1.setCell ⟨p, 1 + ch * 5, none⟩ v1).frozen? ⟨p, 1 + ch * 5 + 1, none⟩ = false := by
  have hA := h.app ch hch v1 L1 hT hg ho
  obtain ⟨cs, hcs, hsz, h0, hc, _⟩ := h.hP
  have hpo : some p ≠ (vs ch).ownBlock := fun e => (h.ne_p ch (by omega) p e.symm).1 rfl
  have hcs1 := (hg.block p (blk_lt hcs) hpo).trans hcs
  exact ⟨(blk_cell hcs1 _).trans (hc ch hch).1, blk_frozen hcs1 _, (hA.chan ch hch).2.1, blk_frozen (blk_set hcs1 _ _) _⟩
theorem Mm.appStp {b0 p q : Nat} {vs : Nat → Value} {M : Mx} {w w1 : World} (h : Mm b0 p q vs M w) (i : Nat) (hi : i < 18) (v1 : Value) (hg : w.grownBy w1 (vs i).ownBlock) (ho : v1.ownBlock = (vs i).ownBlock ∨ ∃ b, v1.ownBlock = some b ∧ w.heap.size ≤ b) (o : Nat) :
    Stp (Mf p q vs) (Mf p q (upd vs i v1)) w (w1.setCell ⟨p, o, none⟩ v1) := by
  have h1 : Stp (Mf p q vs) (fun k => Mf p q vs k ∨ w.heap.size ≤ k) w w1 := Stp.grown hg (fun k hk => Mf.row hi hk) (fun k hk => hk)
  refine (h1.trans (Stp.set (F := fun k => Mf p q vs k ∨ w.heap.size ≤ k) ⟨p, o, none⟩ v1 (.inl (.inl rfl)))).shrink (fun k hk => ?_)
  rcases hk.ofUpd with hk | hk
  · exact .inl hk
  · rcases ho with ho | ⟨b, hb, hle⟩
    · exact .inl (Mf.row hi (by rw [← ho]; exact hk))
    · rw [hb] at hk
      cases hk
      exact .inr hle
set_option maxHeartbeats 4000000 in
set_option maxRecDepth 100000 in
theorem mux_Send.at_ {b0 p q : Nat} {vs : Nat → Value} {M : Mx} (ch : Nat) (hch : ch < 8) (A : Option Addr) (m c : Nat) (N : List Int) (w : World) (h : Mm b0 p q vs M w) (hC : Kd.C (Kd.int .u8) w A m N) (he : M.e = 0) (hf : decide ((m : Int) > wrap64 (M.win - M.way ch)) = false) (hl : (M.sent ch).length + m ≤ 140737488355328) (hb0 : b0 ≤ w.heap.size) :
    Calls Tryd.prog 16 #[.pointer (some ⟨p, 0, none⟩), .int .i64 ch, .slice A m c] w fun e w' => e = .returned (.int .i64 0) ∧ ∃ v1, Mm b0 p q (upd vs ch v1) { M with sent := upd M.sent ch (M.sent ch ++ N), way := upd M.way ch (wrap64 (M.way ch + (m : Nat))) } w' ∧ Stp (Mf p q vs) (Mf p q (upd vs ch v1)) w w' := by
  have HO := Aside0.mk (mux_of.at_ p ch w hch)
  have HM := Aside0.mk h
  have HCC := Aside0.mk hC
  obtain ⟨c0, _, _, _, c4⟩ := h.cells
  obtain ⟨d0, d1, _⟩ := h.chan ch hch
  have hf' : decide (wrap64 (M.win - M.way ch) < (m : Int)) = false := hf
  have HL := Aside0.mk hl
  have HCH := Aside0.mk hch
  have Hb := Aside0.mk hb0
  rw [he] at c4
  clear h he hch hC hl hb0
  go_enter Tryd.func16, Tryd.ntmps16
  go_wp2_with fail
  refine HO.out.mono ?_
  rintro e W ⟨rfl, rfl⟩
  go_wp2
  go_quiet (fail)
  have HB := pw_below_drewN (Below.refl W.heap.size W) nq
  have HD := Aside0.mk (HM.out.below HB)
  have HC := Aside0.mk (Kd.C_below HCC.out HB)
  have HT : Aside0 (Tb (W.drewN nq) b0 (vs ch) (M.sent ch)) := ⟨by
    have := HD.out.hT ch (by have := HCH.out; omega)
    unfold Mx.row at this
    rw [if_pos HCH.out] at this
    exact this⟩
  have HS : Aside0 (Stp (Mf p q vs) (Mf p q vs) W (W.drewN nq)) := ⟨.of_below HB⟩
  have Hb2 : Aside0 (b0 ≤ (W.drewN nq).heap.size) := ⟨Nat.le_trans Hb.out HB.size⟩
  have e0 := (HD.out.chan ch HCH.out).1
  clear HB c0 c4 d0 d1 Hb HM HO
  generalize W.drewN nq = w2 at *
  go_wp2_with ((with_reducible refine gate_builtin (b := .append) (xs := #[.tmp 44, .tmp 45]) rfl ?_); (try (refine gate_guard (by rfl) ?_; dsimp only)); at_builtin; refine tb_append b0 rfl (.tmp 44) (.tmp 45) rfl (vs ch) (M.sent ch) A m c N rfl rfl HT.out HC.out HL.out Hb2.out ?_; intro v1 w3 hT hg ho; obtain ⟨A1, c1, hv1⟩ := hT.slice; obtain ⟨n1, hn1⟩ : ∃ n, (M.sent ch ++ N).length = n := ⟨_, rfl⟩; rw [hn1] at hv1; subst hv1; clear hn1; have HA := Aside0.mk (HD.out.app ch HCH.out (.slice A1 n1 c1) _ hT hg ho); have HST := Aside0.mk (HS.out.trans (HD.out.appStp ch (Nat.lt_of_lt_of_le HCH.out (by decide)) (.slice A1 n1 c1) hg ho (1 + ch * 5))); have HZ := Aside0.mk (send_facts HD.out ch HCH.out (.slice A1 n1 c1) _ hT hg ho); have z1 := HZ.out.1; have z2 := HZ.out.2.1; have z3 := HZ.out.2.2.1; have z4 := HZ.out.2.2.2; clear hT hg ho HZ e0)
  go_ret
  exact ⟨rfl, _, HA.out.putWay ch HCH.out _, HST.out.trans (Stp.set _ _ (.inl rfl))⟩
theorem two_new (w : World) (o1 o2 : Obj) : ((w.alloc o1).alloc o2).heap[w.heap.size]? = some o1 ∧ ((w.alloc o1).alloc o2).heap[w.heap.size + 1]? = some o2 ∧ ((w.alloc o1).alloc o2).heap.size = w.heap.size + 2 ∧ Below w.heap.size w ((w.alloc o1).alloc o2) := by
  refine ⟨?_, ?_, by simp, below_alloc (below_alloc (Below.refl _ _) _) _⟩
  · exact (Below.heap_alloc _ _ _ (by simp)).trans (heap_alloc_new w o1)
  · have := heap_alloc_new (w.alloc o1) o2
    rwa [show (w.alloc o1).heap.size = w.heap.size + 1 by simp] at this
set_option maxHeartbeats 4000000 in
theorem giver_idle {b0 p q : Nat} {vs : Nat → Value} {M : Mx} (w : World) (h : Mm b0 p q vs M w) (hn : ∀ i, i < 8 → decide (M.back i > 0) = false) :
    Calls Tryd.prog 88 #[.agg #[.pointer (some ⟨p, 0, none⟩)]] w fun e w' => e = .returned (.tuple #[.agg #[.int .i64 0, .slice none 0 0], .bool false]) ∧ Below w.heap.size w w' := by
  obtain ⟨t1, t2, t3, t4⟩ := two_new w (.cells #[.pointer (some ⟨p, 0, none⟩)] 90) (.cells #[.int .i64 0, .slice none 0 0] 72)
  have HM := Aside0.mk (h.below t4)
  have HN := Aside0.mk hn
  have hx : w.heap.size ≠ w.heap.size + 1 := by omega
  have T2 := Aside0.mk t2
  have T3 := Aside0.mk t3
  have T4 := Aside0.mk t4
  have e1 := blk_cell t1 0
  have f1 := blk_frozen t2 0
  have f2 := blk_frozen t2 1
  have e2 := blk_cell t2 0
  have e3 := blk_cell t2 1
  have e1' : ((w.alloc (.cells #[.pointer (some ⟨p, 0, none⟩)] 90)).alloc (.cells #[.int .i64 0, .slice none 0 0] 72)).cell? ⟨w.heap.size, 0, none⟩ = some (.pointer (some ⟨p, 0, none⟩)) := e1
  clear h hn t1 t2 t3 t4 e1
  go_enter Tryd.func88, Tryd.ntmps88
  go_wp2
  generalize (w.alloc (.cells #[.pointer (some ⟨p, 0, none⟩)] 90)).alloc (.cells #[.int .i64 0, .slice none 0 0] 72) = W at *
  go_loopg [4, 5, 6, 7] 8 (fun g v4 v5 v6 v7 w' => ∃ i : Nat, g = 8 - i ∧ v7 = .int .i64 i ∧ Aside0 (i ≤ 8) ∧ w' = W)
  case atStart => exact ⟨0, rfl, rfl, ⟨by omega⟩, rfl⟩
  case round =>
    obtain ⟨i, rfl, rfl, HI, rfl⟩ := hrel
    by_cases c1 : i < 8
    · have c2 := HN.out i c1
      have c2' : decide (0 < M.back i) = false := c2
      obtain ⟨_, _, _, _, d4⟩ := HM.out.chan i c1
      have k1 : decide ((i : Int) < 8) = true := decide_eq_true (by omega)
      have k2 : (0 ≤ (i : Int)) = True := eq_true (by omega)
      have k3 : (i < 8) = True := eq_true c1
      have k4 : ((i : Int) < 8) = True := eq_true (by omega)
      have hadd : wrap64 ((i : Int) + 1) = ((i + 1 : Nat) : Int) := by unfold wrap64; omega
      have C1 := Aside0.mk c1
      clear c1
      go_wp2
      go_roundg (8 - (i + 1))
      case measure => have := C1.out; omega
      case rel => exact ⟨i + 1, rfl, by first | rfl | rw [hadd], ⟨by have := C1.out; omega⟩, rfl⟩
    · have k1 : decide ((i : Int) < 8) = false := decide_eq_false (by omega)
      clear c1
      go_wp2
      refine bodyPost_ret (results_ct rfl _ _ (w.heap.size + 1) 72 #[.int .i64 0, .slice none 0 0] (0, 0) _ rfl (blk_put (blk_put T2.out 0 (.int .i64 0) rfl) 1 (.slice none 0 0) rfl) Tryd.underlying72 rfl (by kernel_rfl)) rfl ?_
      exact ⟨rfl, below_set (below_set T4.out (Nat.le_succ _)) (Nat.le_succ _)⟩
/-- What is given back of the least channel that has something. -/
def Mx.gave (M : Mx) (ch : Nat) : Mx := { M with back := upd M.back ch 0, owed := upd M.owed ch (wrap64 (M.owed ch - M.back ch)) }
set_option maxHeartbeats 4000000 in
set_option maxRecDepth 100000 in
theorem giver_some {b0 p q : Nat} {vs : Nat → Value} {M : Mx} (ch k : Nat) (B : List Int) (hch : ch < 8) (w : World) (h : Mm b0 p q vs M w) (hn : ∀ i, i < ch → decide (M.back i > 0) = false) (hy : decide (M.back ch > 0) = true) (hP : num_Put.f k [] (M.back ch) = some B) :
    Calls Tryd.prog 88 #[.agg #[.pointer (some ⟨p, 0, none⟩)]] w fun e w' => ∃ v, e = .returned (.tuple #[.agg #[.int .i64 (8 + ch : Nat), v], .bool true]) ∧ (Kd.int .u8).R 5 w' w.heap.size (fun _ => True) v B ∧ Mm b0 p q vs (M.gave ch) w' ∧ Stp (Mf p q vs) (Mf p q vs) w w' := by
  obtain ⟨t1, t2, t3, t4⟩ := two_new w (.cells #[.pointer (some ⟨p, 0, none⟩)] 90) (.cells #[.int .i64 0, .slice none 0 0] 72)
  have HM := Aside0.mk (h.below t4)
  have HF := Aside0.mk (fun k => h.foot k)
  have HN := Aside0.mk hn
  have HY := Aside0.mk hy
  have HCH := Aside0.mk hch
  have HPP := Aside0.mk hP
  have hx : w.heap.size ≠ w.heap.size + 1 := by omega
  have T2 := Aside0.mk t2
  have T3 := Aside0.mk t3
  have T4 := Aside0.mk t4
  have f1 := blk_frozen t2 0
  have f2 := blk_frozen t2 1
  have e2 := blk_cell t2 0
  have e3 := blk_cell t2 1
  have e1' : ((w.alloc (.cells #[.pointer (some ⟨p, 0, none⟩)] 90)).alloc (.cells #[.int .i64 0, .slice none 0 0] 72)).cell? ⟨w.heap.size, 0, none⟩ = some (.pointer (some ⟨p, 0, none⟩)) := blk_cell t1 0
  clear h hn t1 t2 t3 t4 hch hy hP
  go_enter Tryd.func88, Tryd.ntmps88
  go_wp2
  generalize (w.alloc (.cells #[.pointer (some ⟨p, 0, none⟩)] 90)).alloc (.cells #[.int .i64 0, .slice none 0 0] 72) = W at *
  go_loopg [4, 5, 6, 7] ch (fun g v4 v5 v6 v7 w' => ∃ i : Nat, g = ch - i ∧ v7 = .int .i64 i ∧ Aside0 (i ≤ ch) ∧ w' = W)
  case atStart => exact ⟨0, rfl, rfl, ⟨by omega⟩, rfl⟩
  case round =>
    obtain ⟨i, rfl, rfl, HI, rfl⟩ := hrel
    have c8 : i < 8 := by have := HI.out; have := HCH.out; omega
    have k1 : decide ((i : Int) < 8) = true := decide_eq_true (by omega)
    have k2 : (0 ≤ (i : Int)) = True := eq_true (by omega)
    have k3 : (i < 8) = True := eq_true c8
    have k4 : ((i : Int) < 8) = True := eq_true (by omega)
    obtain ⟨_, _, _, d3, d4⟩ := HM.out.chan i c8
    by_cases c1 : i < ch
    · have c2 := HN.out i c1
      have c2' : decide (0 < M.back i) = false := c2
      have hadd : wrap64 ((i : Int) + 1) = ((i + 1 : Nat) : Int) := by unfold wrap64; omega
      have C1 := Aside0.mk c1
      clear c1 c8
      go_wp2
      go_roundg (ch - (i + 1))
      case measure => have := C1.out; omega
      case rel => exact ⟨i + 1, rfl, by first | rfl | rw [hadd], ⟨by have := C1.out; omega⟩, rfl⟩
    · have hi : ch = i := by have := HI.out; omega
      subst hi
      have c2 := HY.out
      have c2' : decide (0 < M.back ch) = true := c2
      have HD := Aside0.mk ((HM.out.putBack ch c8 0).putOwed ch c8 (wrap64 (M.owed ch - M.back ch)))
      have HD1 := (HM.out.putBack ch c8 0)
      have hadd : wrap64 (8 + (ch : Int)) = ((8 + ch : Nat) : Int) := by unfold wrap64; omega
      obtain ⟨cp, hcp, hsz, _⟩ := HM.out.hP
      have g1 := blk_frozen hcp (1 + ch * 5 + 4)
      obtain ⟨cp1, hcp1, hsz1, _⟩ := HD1.hP
      have g2 := blk_frozen hcp1 (1 + ch * 5 + 3)
      have g3 := (HD1.chan ch c8).2.2.2.1
      have HST := Aside0.mk ((Stp.set (F := Mf p q vs) (w := wr) ⟨p, 1 + ch * 5 + 4, none⟩ (.int .i64 0) (.inl rfl)).trans (Stp.set (F := Mf p q vs) ⟨p, 1 + ch * 5 + 3, none⟩ (.int .i64 (wrap64 (M.owed ch - M.back ch))) (.inl rfl)))
      have hpg : w.heap.size + 1 ≠ p := by have := (HF.out p (.inl rfl)).2; omega
      have T2' := Aside0.mk (blk_far (blk_far T2.out (p := ⟨p, 1 + ch * 5 + 4, none⟩) hpg (.int .i64 0)) (p := ⟨p, 1 + ch * 5 + 3, none⟩) hpg (.int .i64 (wrap64 (M.owed ch - M.back ch))))
      clear c1 c8 hcp hcp1 hsz hsz1 HD1 hpg
      go_wp2_with fail
      replace T3 : Aside0 (((wr.setCell ⟨p, 1 + ch * 5 + 4, none⟩ (.int .i64 0)).setCell ⟨p, 1 + ch * 5 + 3, none⟩ (.int .i64 (wrap64 (M.owed ch - M.back ch)))).heap.size = w.heap.size + 2) := ⟨by have := T3.out; simpa [World.setCell] using this⟩
      replace HST := Aside0.mk ((Stp.of_below (F := Mf p q vs) T4.out).trans HST.out)
      clear e1' e2 e3 f1 f2 g1 g2 g3 d3 d4 HM T2 T4
      generalize (wr.setCell ⟨p, 1 + ch * 5 + 4, none⟩ (.int .i64 0)).setCell ⟨p, 1 + ch * 5 + 3, none⟩ (.int .i64 (wrap64 (M.owed ch - M.back ch))) = W2 at *
      refine (num_Put.calls k none 0 [] (M.back ch) B W2 (Kd.C_nil _ _) (Nat.le_refl _) HPP.out).mono ?_
      rintro e w5 ⟨v5, rfl, hR, hb⟩
      obtain ⟨A5, c5, rfl⟩ := Kd.R_slice hR
      generalize B.length = n5 at hR ⊢
      have T5 := Aside0.mk (blk_below T2'.out hb)
      have f1 := blk_frozen T5.out 0
      have f2 := blk_frozen T5.out 1
      have e2 := blk_cell T5.out 0
      have e3 := blk_cell T5.out 1
      have HR5 := Aside0.mk hR
      have HB5 := Aside0.mk hb
      clear hR hb
      go_wp2
      refine bodyPost_ret (results_ct rfl _ _ (w.heap.size + 1) 72 #[.int .i64 (8 + ch : Nat), .slice A5 n5 c5] (0, 0) _ rfl (blk_put (blk_put T5.out 0 (.int .i64 (8 + ch : Nat)) rfl) 1 (.slice A5 n5 c5) rfl) Tryd.underlying72 rfl (by kernel_rfl)) rfl ?_
      have HS5 := HST.out.trans (Stp.of_below HB5.out)
      have hsz := HB5.out.size
      have h3 := T3.out
      have hfar : ∀ j, j ≠ w.heap.size + 1 → ((w5.setCell ⟨w.heap.size + 1, 0, none⟩ (.int .i64 (8 + ch : Nat))).setCell ⟨w.heap.size + 1, 1, none⟩ (.slice A5 n5 c5)).heap[j]? = w5.heap[j]? := fun j hj => (Below.heap_setCell _ ⟨_, 1, none⟩ _ j hj).trans (Below.heap_setCell _ ⟨_, 0, none⟩ _ j hj)
      refine ⟨_, rfl, ?_, (HD.out.below HB5.out).kept (fun k hk => hfar k (by have := (HF.out k hk).2; omega)), ?_⟩
      · exact Kd.R_mono (Kd.R_lower (Kd.R_step (Kd.R_bound HR5.out) (fun k hk _ => hfar k (by have := hk.2.1; omega))) (by omega)) (fun _ _ => trivial)
      · exact ⟨HS5.os, HS5.tape, HS5.output, by simpa [World.setCell] using HS5.size, fun k hk hn => (hfar k (by omega)).trans (HS5.block k hk hn), HS5.foot⟩
set_option maxHeartbeats 4000000 in
theorem sender_idle {b0 p q : Nat} {vs : Nat → Value} {M : Mx} (w : World) (h : Mm b0 p q vs M w) (la : Nat) (hla : M.last = la) (hla8 : la < 8) (hn : ∀ i, i < 8 → M.sent i = []) :
    Calls Tryd.prog 89 #[.agg #[.pointer (some ⟨p, 0, none⟩)]] w fun e w' => e = .returned (.tuple #[.agg #[.int .i64 0, .slice none 0 0], .bool false]) ∧ Below w.heap.size w w' := by
  obtain ⟨t1, t2, t3, t4⟩ := two_new w (.cells #[.pointer (some ⟨p, 0, none⟩)] 91) (.cells #[.int .i64 0, .slice none 0 0] 72)
  have HM := Aside0.mk (h.below t4)
  have HN := Aside0.mk hn
  have hx : w.heap.size ≠ w.heap.size + 1 := by omega
  have T2 := Aside0.mk t2
  have T4 := Aside0.mk t4
  have f1 := blk_frozen t2 0
  have f2 := blk_frozen t2 1
  have e2 := blk_cell t2 0
  have e3 := blk_cell t2 1
  have e1' : ((w.alloc (.cells #[.pointer (some ⟨p, 0, none⟩)] 91)).alloc (.cells #[.int .i64 0, .slice none 0 0] 72)).cell? ⟨w.heap.size, 0, none⟩ = some (.pointer (some ⟨p, 0, none⟩)) := blk_cell t1 0
  have hl := (HM.out.cells).2.1
  rw [hla] at hl
  have HL8 := Aside0.mk hla8
  clear h hn t1 t2 t3 t4 hla hla8
  go_enter Tryd.func89, Tryd.ntmps89
  go_wp2
  generalize (w.alloc (.cells #[.pointer (some ⟨p, 0, none⟩)] 91)).alloc (.cells #[.int .i64 0, .slice none 0 0] 72) = W at *
  go_loopg [4, 5, 6, 7, 8, 9] 8 (fun g v4 v5 v6 v7 v8 v9 w' => ∃ i : Nat, g = 8 - i ∧ v9 = .int .i64 i ∧ Aside0 (i ≤ 8) ∧ w' = W)
  case atStart => exact ⟨0, rfl, rfl, ⟨by omega⟩, rfl⟩
  case round =>
    obtain ⟨i, rfl, rfl, HI, rfl⟩ := hrel
    by_cases c1 : i < 8
    · have k1 : decide ((i : Int) < 8) = true := decide_eq_true (by omega)
      have hl8 := HL8.out
      obtain ⟨j, hj⟩ : ∃ j, j = (la + 1 + i) % 8 := ⟨_, rfl⟩
      have hj8 : j < 8 := by omega
      obtain ⟨s, hs⟩ : ∃ s, s = la + 1 + i := ⟨_, rfl⟩
      have a1 : wrap64 ((la : Int) + 1) = (la : Int) + 1 := by unfold wrap64; omega
      have a2 : wrap64 ((la : Int) + 1 + (i : Int)) = (s : Int) := by unfold wrap64; omega
      have a3 : (s : Int).tmod 8 = (j : Int) := by rw [hj, ← hs]; rfl
      have k2 : (0 ≤ (j : Int)) = True := eq_true (by omega)
      have k3 : (j < 8) = True := eq_true hj8
      have k4 : ((j : Int) < 8) = True := eq_true (by omega)
      obtain ⟨d0, _⟩ := HM.out.chan j hj8
      have hT := HM.out.hT j (by omega)
      unfold Mx.row at hT
      rw [if_pos hj8, HN.out j hj8] at hT
      obtain ⟨A, c, hv⟩ := hT.slice
      rw [hv] at d0
      have hadd : wrap64 ((i : Int) + 1) = ((i + 1 : Nat) : Int) := by unfold wrap64; omega
      have C1 := Aside0.mk c1
      clear c1 hj hj8 hT hv hl8 hs
      go_wp2
      go_roundg (8 - (i + 1))
      case measure => have := C1.out; omega
      case rel => exact ⟨i + 1, rfl, by first | rfl | rw [hadd], ⟨by have := C1.out; omega⟩, rfl⟩
    · have k1 : decide ((i : Int) < 8) = false := decide_eq_false (by omega)
      clear c1
      go_wp2
      refine bodyPost_ret (results_ct rfl _ _ (w.heap.size + 1) 72 #[.int .i64 0, .slice none 0 0] (0, 0) _ rfl (blk_put (blk_put T2.out 0 (.int .i64 0) rfl) 1 (.slice none 0 0) rfl) Tryd.underlying72 rfl (by kernel_rfl)) rfl ?_
      exact ⟨rfl, below_set (below_set T4.out (Nat.le_succ _)) (Nat.le_succ _)⟩
theorem cut_three (A : Option Addr) (n c m : Nat) (h : m ≤ n) (hc : n ≤ c) : ∀ W : World, (Instr.slice 32 (.slice A n c) none (some (.int .i64 (m : Int))) (some (.int .i64 (m : Int)))).run Tryd.prog W = .ok (.slice A m m) W := by
  obtain ⟨i0, hi0, _, _, _⟩ := info_parts info5
  intro W
  have hel : (Tryd.prog).elem 32 = 5 := by simp [Program.elem, Tryd.underlying32]
  have ha : (A.map fun x => x.add 0) = A := by cases A <;> simp [Addr.add]
  have h1 := run_slice_hm (P := Tryd.prog) W 32 A n c (by rw [hel]; exact Tryd.underlying32) .i64 .i64 (m : Int) (m : Int) (by omega) (by omega) (by omega)
  rw [h1, hel]
  simp [sizeOf, typeInfo, hi0, sliced, Result.andThen, ha]
theorem C_moved {w w' : World} {A : Option Addr} {n : Nat} {L : List Int} (h : Kd.C (Kd.int .u8) w A n L) (hb : ∀ ad, A = some ad → w'.heap[ad.block]? = w.heap[ad.block]?) : Kd.C (Kd.int .u8) w' A n L := by
  refine ⟨h.1, h.2.1, fun hn => ?_⟩
  obtain ⟨ad, e, hc⟩ := h.2.2 hn
  have ha : ∀ k, (ad.add k).block = ad.block := fun k => by unfold Addr.add; split <;> rfl
  refine ⟨ad, e, fun j p hp => ?_⟩
  obtain ⟨c, c1, c2, c3⟩ := hc j p hp
  exact ⟨c, c1, c2, fun i u hu => (World.cell?_of_block (by rw [ha]; exact hb ad e)).trans (c3 i u hu)⟩
/-- The next bytes of a channel go into a frame. -/
def Mx.cut (M : Mx) (ch n : Nat) : Mx := { M with sent := upd M.sent ch ((M.sent ch).drop n), last := ch }
set_option maxHeartbeats 8000000 in
set_option maxRecDepth 100000 in
theorem sender_some {b0 p q : Nat} {vs : Nat → Value} {M : Mx} (w : World) (h : Mm b0 p q vs M w) (la : Nat) (hla : M.last = la) (hla8 : la < 8) (kk : Nat) (hkk : kk < 8) (hn : ∀ i, i < kk → M.sent ((la + 1 + i) % 8) = []) (ch : Nat) (hch : ch = (la + 1 + kk) % 8) (m n : Nat) (hm : (M.sent ch).length = m) (hm0 : 0 < m) (hn2 : n = min m 512) :
    Calls Tryd.prog 89 #[.agg #[.pointer (some ⟨p, 0, none⟩)]] w fun e w' => ∃ A c, e = .returned (.tuple #[.agg #[.int .i64 ch, .slice A n c], .bool true]) ∧ n ≤ c ∧ Kd.C (Kd.int .u8) w' A n ((M.sent ch).take n) ∧ ∃ v1, Mm b0 p q (upd vs ch v1) (M.cut ch n) w' ∧ Stp (Mf p q vs) (Mf p q (upd vs ch v1)) w w' := by
  obtain ⟨t1, t2, t3, t4⟩ := two_new w (.cells #[.pointer (some ⟨p, 0, none⟩)] 91) (.cells #[.int .i64 0, .slice none 0 0] 72)
  have HM := Aside0.mk (h.below t4)
  have HN := Aside0.mk hn
  have HF := Aside0.mk (fun k => h.foot k)
  have hx : w.heap.size ≠ w.heap.size + 1 := by omega
  have T2 := Aside0.mk t2
  have T3 := Aside0.mk t3
  have T4 := Aside0.mk t4
  have f1 := blk_frozen t2 0
  have f2 := blk_frozen t2 1
  have e2 := blk_cell t2 0
  have e3 := blk_cell t2 1
  have e1' : ((w.alloc (.cells #[.pointer (some ⟨p, 0, none⟩)] 91)).alloc (.cells #[.int .i64 0, .slice none 0 0] 72)).cell? ⟨w.heap.size, 0, none⟩ = some (.pointer (some ⟨p, 0, none⟩)) := blk_cell t1 0
  have hl := (HM.out.cells).2.1
  rw [hla] at hl
  have HL8 := Aside0.mk hla8
  have HK := Aside0.mk (And.intro hkk (And.intro hch (And.intro hm (And.intro hm0 hn2))))
  have hc8 : ch < 8 := by omega
  have HC8 := Aside0.mk hc8
  clear h hn t1 t2 t3 t4 hla hla8 hkk hch hm hm0 hn2 hc8
  go_enter Tryd.func89, Tryd.ntmps89
  go_wp2
  generalize (w.alloc (.cells #[.pointer (some ⟨p, 0, none⟩)] 91)).alloc (.cells #[.int .i64 0, .slice none 0 0] 72) = W at *
  go_loopg [4, 5, 6, 7, 8, 9] kk (fun g v4 v5 v6 v7 v8 v9 w' => ∃ i : Nat, g = kk - i ∧ v9 = .int .i64 i ∧ Aside0 (i ≤ kk) ∧ w' = W)
  case atStart => exact ⟨0, rfl, rfl, ⟨by omega⟩, rfl⟩
  case round =>
    obtain ⟨i, rfl, rfl, HI, rfl⟩ := hrel
    have hl8 := HL8.out
    have hi8 : i < 8 := by have := HI.out; have := HK.out.1; omega
    have k1 : decide ((i : Int) < 8) = true := decide_eq_true (by omega)
    obtain ⟨j, hj⟩ : ∃ j, j = (la + 1 + i) % 8 := ⟨_, rfl⟩
    have hj8 : j < 8 := by omega
    obtain ⟨s, hs⟩ : ∃ s, s = la + 1 + i := ⟨_, rfl⟩
    have a1 : wrap64 ((la : Int) + 1) = (la : Int) + 1 := by unfold wrap64; omega
    have a2 : wrap64 ((la : Int) + 1 + (i : Int)) = (s : Int) := by unfold wrap64; omega
    have a3 : (s : Int).tmod 8 = (j : Int) := by rw [hj, ← hs]; rfl
    have k2 : (0 ≤ (j : Int)) = True := eq_true (by omega)
    have k3 : (j < 8) = True := eq_true hj8
    have k4 : ((j : Int) < 8) = True := eq_true (by omega)
    obtain ⟨d0, _⟩ := HM.out.chan j hj8
    have hT := HM.out.hT j (by omega)
    unfold Mx.row at hT
    rw [if_pos hj8] at hT
    by_cases c1 : i < kk
    · rw [hj, HN.out i c1, ← hj] at hT
      obtain ⟨A, c, hv⟩ := hT.slice
      rw [hv] at d0
      have hadd : wrap64 ((i : Int) + 1) = ((i + 1 : Nat) : Int) := by unfold wrap64; omega
      have C1 := Aside0.mk c1
      clear c1 hj hj8 hT hv hl8 hs hi8
      go_wp2
      go_roundg (kk - (i + 1))
      case measure => have := C1.out; omega
      case rel => exact ⟨i + 1, rfl, by first | rfl | rw [hadd], ⟨by have := C1.out; omega⟩, rfl⟩
    · have hik : i = kk := by have := HI.out; omega
      subst hik
      have hcj : j = ch := by rw [hj]; exact HK.out.2.1.symm
      subst hcj
      obtain ⟨A, c, hv⟩ := hT.slice
      have hm := HK.out.2.2.1
      rw [hm] at hv
      obtain ⟨cap1, hcap⟩ : ∃ cap1, cap1 = m := ⟨_, rfl⟩
      have hmc : m ≤ c := by
        obtain ⟨A', c', e, hle, _⟩ := hT.reads
        rw [hv] at e
        cases e
        omega
      have hn2 := HK.out.2.2.2.2
      have hnm : n ≤ m := by omega
      have hcut := cut_three A m c n hnm hmc
      have hb3 := below_alloc (Below.refl _ wr) (.cells #[.int .i64 j, .slice A n n] 72)
      have HM3 := Aside0.mk (HM.out.below hb3)
      have hT3 := HM3.out.hT j (by omega)
      unfold Mx.row at hT3
      rw [if_pos hj8, hv] at hT3
      obtain ⟨B, hcutB, hTB, hOB⟩ := hT3.cut n hnm
      have h512 : (if (512 : Int) < (m : Int) then (512 : Int) else (m : Int)) = (n : Int) := by split <;> omega
      have hz : ((m : Int) == 0) = false := beq_eq_false_iff_ne.mpr (by have := HK.out.2.2.2.1; omega)
      have hz2 : (m == 0) = false := beq_eq_false_iff_ne.mpr (by have := HK.out.2.2.2.1; omega)
      rw [hv] at d0
      obtain ⟨A', c', hvA, _, hCA⟩ := hT3.reads
      have hCA2 : Kd.C (Kd.int .u8) (wr.alloc (.cells #[.int .i64 j, .slice A n n] 72)) A n ((M.sent j).take n) := by
        cases hvA
        exact C_upto n hCA (by omega)
      have HCA := Aside0.mk hCA2
      have hloc : loc j = 1 + j * 5 := if_pos hj8
      have ho2 : (Value.slice B (m - n) (c - n)).ownBlock = (vs j).ownBlock := hOB.trans (by rw [hv])
      have hM4 := HM3.out.putRow j (by omega) (.slice B (m - n) (c - n)) _ hTB (World.grownBy.refl _ _) (.inr (.inl ho2))
      have hS4 := HM3.out.rowStp j (by omega) (.slice B (m - n) (c - n)) (World.grownBy.refl _ _) (.inr (.inl ho2)) (loc j)
      rw [hloc] at hM4 hS4
      have hpr : M.putRow j ((M.sent j).drop n) = { M with sent := upd M.sent j ((M.sent j).drop n) } := if_pos hj8
      rw [hpr] at hM4
      have HM5 := Aside0.mk ((hM4.putLast j).below (below_drew (Below.refl _ _)))
      have HS5 := Aside0.mk (((Stp.of_below T4.out).trans (Stp.of_below hb3)).trans (hS4.trans ((Stp.set (F := Mf p q (upd vs j (.slice B (m - n) (c - n)))) ⟨p, 41, none⟩ (.int .i64 j) (.inl rfl)).trans (Stp.of_below (below_drew (Below.refl _ _))))))
      have hrp : wr.heap.size ≠ p := by have := (HF.out p (.inl rfl)).2; have := T3.out; omega
      have hwp : w.heap.size + 1 ≠ p := by have := (HF.out p (.inl rfl)).2; have := T3.out; omega
      have T25 := Aside0.mk (blk_below (blk_far (blk_far (blk_below T2.out hb3) (p := ⟨p, 1 + j * 5, none⟩) hwp (.slice B (m - n) (c - n))) (p := ⟨p, 41, none⟩) hwp (.int .i64 j)) (below_drew (Below.refl _ _)))
      have U5 := Aside0.mk (blk_below (blk_far (blk_far (blk_new wr (.cells #[.int .i64 j, .slice A n n] 72)) (p := ⟨p, 1 + j * 5, none⟩) hrp (.slice B (m - n) (c - n))) (p := ⟨p, 41, none⟩) hrp (.int .i64 j)) (below_drew (Below.refl _ _)))
      have hA5 : ∀ k, A = some k → k.block ≠ p := by
        rintro k rfl
        exact (HM3.out.ne_p j (by omega) k.block (by rw [hv]; rfl)).1
      have HC5 : Aside0 (Kd.C (Kd.int .u8) (((wr.alloc (.cells #[.int .i64 j, .slice A n n] 72)).setCell ⟨p, 1 + j * 5, none⟩ (.slice B (m - n) (c - n))).setCell ⟨p, 41, none⟩ (.int .i64 j)).drew A n ((M.sent j).take n)) := ⟨Kd.C_drew (C_moved hCA2 (fun ad hA => (Below.heap_setCell _ ⟨p, 41, none⟩ _ _ (hA5 ad hA)).trans (Below.heap_setCell _ ⟨p, 1 + j * 5, none⟩ _ _ (hA5 ad hA))))⟩
      have hsz3 := T3.out
      have e13 : (wr.alloc (.cells #[.int .i64 j, .slice A n n] 72)).cell? ⟨w.heap.size, 0, none⟩ = some (.pointer (some ⟨p, 0, none⟩)) := (World.cell?_of_block (hb3.block w.heap.size (by omega))).trans e1'
      have d03 : (wr.alloc (.cells #[.int .i64 j, .slice A n n] 72)).cell? ⟨p, 1 + j * 5, none⟩ = some (.slice A m c) := (HM3.out.chan j hj8).1.trans (congrArg some hv)
      obtain ⟨cp, hcp, hcps, _⟩ := HM3.out.hP
      have g1 := blk_frozen hcp (1 + j * 5)
      have g2 := blk_frozen (blk_set hcp (1 + j * 5) (.slice B (m - n) (c - n))) 41
      have g2' := blk_frozen hcp 41
      have hpw : p ≠ w.heap.size := by have := (HF.out p (.inl rfl)).2; omega
      have hpw' : w.heap.size ≠ p := hpw.symm
      have l3 : ∃ u, (wr.alloc (.cells #[.int .i64 j, .slice A n n] 72)).cell? ⟨p, 41, none⟩ = some u := ⟨_, (HM3.out.cells).2.1⟩
      obtain ⟨u41, l3⟩ := l3
      have h41 : 1 + j * 5 ≠ 41 := by omega
      have HNM := Aside0.mk (And.intro hnm hsz3)
      have HO2 := Aside0.mk ho2
      have HV := Aside0.mk hv
      clear hj hj8 hl8 hs hi8 c1 hcp hcps hb3 hsz3 hn2 hm hnm hmc hcap hA5 hvA hCA hCA2 hloc ho2 hM4 hS4 hpr hTB hOB hT3
      go_wp2
      clear hl f1 f2 e2 e3 e1' d0 hcut h512 hz hz2 HM T2 T3 T4 hrp hwp
      generalize wr.alloc (.cells #[.int .i64 j, .slice A n n] 72) = W3 at *
      go_region
      have f1 := blk_frozen T25.out 0
      have f2 := blk_frozen T25.out 1
      have e2 := blk_cell T25.out 0
      have e3 := blk_cell T25.out 1
      have u0 := blk_cell U5.out 0
      have u1 := blk_cell U5.out 1
      clear hcutB e13 d03 g1 g2 g2' hpw hpw' l3 h41
      generalize ((W3.setCell ⟨p, 1 + j * 5, none⟩ (.slice B (m - n) (c - n))).setCell ⟨p, 41, none⟩ (.int .i64 j)).drew = W5 at *
      go_wp2
      refine bodyPost_ret (results_ct rfl _ _ (w.heap.size + 1) 72 #[.int .i64 j, .slice A n n] (0, 0) _ rfl (blk_put (blk_put T25.out 0 (.int .i64 j) rfl) 1 (.slice A n n) rfl) Tryd.underlying72 rfl (by kernel_rfl)) rfl ?_
      have hfar : ∀ k, k ≠ w.heap.size + 1 → ((W5.setCell ⟨w.heap.size + 1, 0, none⟩ (.int .i64 j)).setCell ⟨w.heap.size + 1, 1, none⟩ (.slice A n n)).heap[k]? = W5.heap[k]? := fun k hk => (Below.heap_setCell _ ⟨_, 1, none⟩ _ k hk).trans (Below.heap_setCell _ ⟨_, 0, none⟩ _ k hk)
      have hft : ∀ k, Mf p q (upd vs j (.slice B (m - n) (c - n))) k → k < w.heap.size := fun k hk => by
        rcases hk.ofUpd with hk | hk
        · exact (HF.out k hk).2
        · exact (HF.out k (Mf.row (i := j) (Nat.lt_of_lt_of_le HC8.out (by decide)) (HO2.out.symm.trans hk))).2
      have HS5o := HS5.out
      refine ⟨A, n, rfl, Nat.le_refl _, C_moved HC5.out (fun ad hA => hfar _ ?_), .slice B (m - n) (c - n), HM5.out.kept (fun k hk => hfar k (by have := hft k hk; omega)), ⟨HS5o.os, HS5o.tape, HS5o.output, by simpa [World.setCell] using HS5o.size, fun k hk hn => (hfar k (by omega)).trans (HS5o.block k hk hn), HS5o.foot⟩⟩
      have := (HF.out ad.block (Mf.row (i := j) (Nat.lt_of_lt_of_le HC8.out (by decide)) (by rw [HV.out, hA]; rfl))).2
      omega
theorem meth_give (v : Value) (w : World) : (method 237 90 v "remora/mux.make").run Tryd.prog w = .ok (88, v) w := by kernel_rfl
theorem meth_send (v : Value) (w : World) : (method 237 91 v "remora/mux.make").run Tryd.prog w = .ok (89, v) w := by kernel_rfl
theorem fn_give (a : Array Value) (w : World) : (callFunc 88 a).run Tryd.prog w = .ok (.enter 88 a) w := by kernel_rfl
theorem fn_send (a : Array Value) (w : World) : (callFunc 89 a).run Tryd.prog w = .ok (.enter 89 a) w := by kernel_rfl
attribute [local go_sem] meth_give meth_send fn_give fn_send
abbrev twoMakers (p : Nat) : Obj := .cells #[.iface 90 (.agg #[.pointer (some ⟨p, 0, none⟩)]), .iface 91 (.agg #[.pointer (some ⟨p, 0, none⟩)])] 94
set_option maxHeartbeats 4000000 in
set_option maxRecDepth 100000 in
theorem next_idle {b0 p q : Nat} {vs : Nat → Value} {M : Mx} (w : World) (h : Mm b0 p q vs M w) (hn : ∀ i, i < 8 → decide (M.back i > 0) = false) (la : Nat) (hla : M.last = la) (hla8 : la < 8) (hs : ∀ i, i < 8 → M.sent i = []) :
    Calls Tryd.prog 29 #[.pointer (some ⟨p, 0, none⟩)] w fun e w' => e = .returned (.tuple #[.slice none 0 0, .bool false]) ∧ Below w.heap.size w w' := by
  have HM := Aside0.mk h
  have HN := Aside0.mk hn
  have HS := Aside0.mk (And.intro hla (And.intro hla8 hs))
  have HB0 := Aside0.mk (below_alloc (Below.refl w.heap.size w) (twoMakers p))
  have HW := Aside0.mk (blk_new w (twoMakers p))
  clear h hn hla hla8 hs
  go_enter Tryd.func29, Tryd.ntmps29
  go_wp2
  generalize w.alloc (twoMakers p) = W at *
  go_loopg [5, 6, 7, 8, 9, 18] 2 (fun g v5 v6 v7 v8 v9 v18 w' => ∃ i : Nat, g = 2 - i ∧ v18 = .int .i64 i ∧ Aside0 (i ≤ 2) ∧ Aside0 (Below w.heap.size w w') ∧ Aside0 (w'.heap[w.heap.size]? = some (twoMakers p)))
  case atStart => exact ⟨0, rfl, rfl, ⟨by omega⟩, HB0, HW⟩
  case round =>
    obtain ⟨i, rfl, rfl, HI, HB, HR⟩ := hrel
    have hi := HI.out
    have : i = 0 ∨ i = 1 ∨ i = 2 := by omega
    rcases this with rfl | rfl | rfl
    · have e0 : wr.cell? ⟨w.heap.size, 0, none⟩ = some (.iface 90 (.agg #[.pointer (some ⟨p, 0, none⟩)])) := blk_cell HR.out 0
      clear hi
      go_wp2_with fail
      refine (giver_idle wr (HM.out.below HB.out) HN.out).mono ?_
      rintro e w1 ⟨rfl, hb⟩
      have HB1 := Aside0.mk (below_alloc (below_then HB.out HB.out.size hb) (.cells #[.int .i64 0, .slice none 0 0] 72))
      have HR1 := Aside0.mk (blk_below (blk_below HR.out hb) (below_alloc (Below.refl _ _) (.cells #[.int .i64 0, .slice none 0 0] 72)))
      clear hb e0
      go_wp2
      go_roundg 1
      case measure => omega
      case rel => exact ⟨1, rfl, rfl, ⟨by omega⟩, HB1, HR1⟩
    · have e0 : wr.cell? ⟨w.heap.size, 1, none⟩ = some (.iface 91 (.agg #[.pointer (some ⟨p, 0, none⟩)])) := blk_cell HR.out 1
      clear hi
      go_wp2_with fail
      refine (sender_idle wr (HM.out.below HB.out) la HS.out.1 HS.out.2.1 HS.out.2.2).mono ?_
      rintro e w1 ⟨rfl, hb⟩
      have HB1 := Aside0.mk (below_alloc (below_then HB.out HB.out.size hb) (.cells #[.int .i64 0, .slice none 0 0] 72))
      have HR1 := Aside0.mk (blk_below (blk_below HR.out hb) (below_alloc (Below.refl _ _) (.cells #[.int .i64 0, .slice none 0 0] 72)))
      clear hb e0
      go_wp2
      go_roundg 0
      case measure => omega
      case rel => exact ⟨2, rfl, rfl, ⟨by omega⟩, HB1, HR1⟩
    · clear hi
      go_wp2
      go_ret2
      exact ⟨rfl, HB.out⟩
theorem GT.past {w w' : World} {b0 : Nat} (h : GT w) (hb : Below b0 w w') (h0 : 0 < b0) : GT w' := fun j hj => ((World.cell?_of_block (a := ⟨0, j, none⟩) (hb.block 0 h0)).trans (h j hj))
set_option maxHeartbeats 8000000 in
set_option maxRecDepth 100000 in
theorem next_give {b0 p q : Nat} {vs : Nat → Value} {M : Mx} (w : World) (h : Mm b0 p q vs M w) (hG : GT w) (hb0 : 0 < b0) (hbw : b0 ≤ w.heap.size) (ch k : Nat) (B F : List Int) (hch : ch < 8) (hn : ∀ i, i < ch → decide (M.back i > 0) = false) (hy : decide (M.back ch > 0) = true) (hP : num_Put.f k [] (M.back ch) = some B) (hF : frame_Put.f k (8 + ch : Nat) B = some (F, 0)) :
    Calls Tryd.prog 29 #[.pointer (some ⟨p, 0, none⟩)] w fun e w' => ∃ v, e = .returned (.tuple #[v, .bool true]) ∧ (Kd.int .u8).R 5 w' w.heap.size (fun _ => True) v F ∧ Mm b0 p q vs (M.gave ch) w' ∧ Stp (Mf p q vs) (Mf p q vs) w w' := by
  have HM := Aside0.mk h
  have HG := Aside0.mk hG
  have HN := Aside0.mk (And.intro hch (And.intro hn (And.intro hy (And.intro hP hF))))
  have HB0 := Aside0.mk (below_alloc (Below.refl w.heap.size w) (twoMakers p))
  have HW := Aside0.mk (blk_new w (twoMakers p))
  have Hb := Aside0.mk (And.intro hb0 hbw)
  clear h hn hch hy hP hF hG hb0 hbw
  go_enter Tryd.func29, Tryd.ntmps29
  go_wp2
  generalize w.alloc (twoMakers p) = W at *
  go_loopg [5, 6, 7, 8, 9, 18] 0 (fun g v5 v6 v7 v8 v9 v18 w' => v18 = .int .i64 0 ∧ w' = W)
  case atStart => exact ⟨rfl, rfl⟩
  case round =>
    obtain ⟨rfl, rfl⟩ := hrel
    have e0 : wr.cell? ⟨w.heap.size, 0, none⟩ = some (.iface 90 (.agg #[.pointer (some ⟨p, 0, none⟩)])) := blk_cell HW.out 0
    go_wp2_with fail
    refine (giver_some ch k B HN.out.1 wr (HM.out.below HB0.out) HN.out.2.1 HN.out.2.2.1 HN.out.2.2.2.1).mono ?_
    rintro e w1 ⟨v, rfl, hR, hM, hS⟩
    obtain ⟨A1, c1, rfl⟩ := Kd.R_slice hR
    obtain ⟨_, hcB, hCB⟩ := Kd.R_reads' hR
    obtain ⟨nB, hnB⟩ : ∃ nB, B.length = nB := ⟨_, rfl⟩
    have hb1 := below_alloc (Below.refl _ w1) (.cells #[.int .i64 (8 + ch : Nat), .slice A1 nB c1] 72)
    have HM1 := Aside0.mk (hM.below hb1)
    have hS1 := ((Stp.of_below HB0.out).trans hS).trans (Stp.of_below hb1)
    have HS1 := Aside0.mk hS1
    have hG1 : GT (w1.alloc (.cells #[.int .i64 (8 + ch : Nat), .slice A1 nB c1] 72)) := HG.out.past (hS1.below b0 (fun k hk => (HM.out.foot k hk).1) Hb.out.2) Hb.out.1
    have hput := frame_Put.calls k ((8 + ch : Nat) : Int) A1 c1 B F 0 _ hG1 (Kd.C_below hCB hb1) hcB HN.out.2.2.2.2
    rw [hnB, show ((8 + ch : Nat) : Int) = 8 + (ch : Int) by omega] at hput
    rw [hnB]
    have HP := Aside0.mk hput
    have U := Aside0.mk (blk_new w1 (.cells #[.int .i64 (8 + ch : Nat), .slice A1 nB c1] 72))
    have u0 := blk_cell U.out 0
    have u1 := blk_cell U.out 1
    clear hb1 hM hS hR e0 hnB hcB hCB hG1 hput hS1
    go_wp2_with fail
    refine HP.out.mono ?_
    rintro e w2 ⟨v2, rfl, hR2, hB2⟩
    have HM2 := Aside0.mk (HM1.out.below hB2)
    have HS2 := Aside0.mk (HS1.out.trans (Stp.of_below hB2))
    have HR2 := Aside0.mk (Kd.R_mono (Kd.R_lower hR2 HS1.out.size) (fun _ h => h))
    clear hR2 hB2 u0 u1
    go_wp2
    go_ret2
    exact ⟨_, rfl, HR2.out, HM2.out, HS2.out⟩
set_option maxHeartbeats 8000000 in
set_option maxRecDepth 100000 in
theorem next_send {b0 p q : Nat} {vs : Nat → Value} {M : Mx} (w : World) (h : Mm b0 p q vs M w) (hG : GT w) (hb0 : 0 < b0) (hbw : b0 ≤ w.heap.size) (hn : ∀ i, i < 8 → decide (M.back i > 0) = false) (la : Nat) (hla : M.last = la) (hla8 : la < 8) (kk : Nat) (hkk : kk < 8) (hs : ∀ i, i < kk → M.sent ((la + 1 + i) % 8) = []) (ch : Nat) (hch : ch = (la + 1 + kk) % 8) (m n : Nat) (hm : (M.sent ch).length = m) (hm0 : 0 < m) (hn2 : n = min m 512) (k : Nat) (F : List Int) (hF : frame_Put.f k (ch : Int) ((M.sent ch).take n) = some (F, 0)) :
    Calls Tryd.prog 29 #[.pointer (some ⟨p, 0, none⟩)] w fun e w' => ∃ v v1, e = .returned (.tuple #[v, .bool true]) ∧ (Kd.int .u8).R 5 w' w.heap.size (fun _ => True) v F ∧ Mm b0 p q (upd vs ch v1) (M.cut ch n) w' ∧ Stp (Mf p q vs) (Mf p q (upd vs ch v1)) w w' := by
  have HM := Aside0.mk h
  have HG := Aside0.mk hG
  have HN := Aside0.mk hn
  have HSn := Aside0.mk (fun w h => sender_some (b0 := b0) (p := p) (q := q) (vs := vs) w h la hla hla8 kk hkk hs ch hch m n hm hm0 hn2)
  have HB0 := Aside0.mk (below_alloc (Below.refl w.heap.size w) (twoMakers p))
  have HW := Aside0.mk (blk_new w (twoMakers p))
  have Hb := Aside0.mk (And.intro hb0 hbw)
  have HF := Aside0.mk hF
  have hlt : ((M.sent ch).take n).length = n := by rw [List.length_take]; omega
  have HLT := Aside0.mk hlt
  clear h hn hch hF hG hb0 hbw hs hla hla8 hkk hm hm0 hn2 hlt
  go_enter Tryd.func29, Tryd.ntmps29
  go_wp2
  generalize w.alloc (twoMakers p) = W at *
  go_loopg [5, 6, 7, 8, 9, 18] 1 (fun g v5 v6 v7 v8 v9 v18 w' => ∃ i : Nat, g = 1 - i ∧ v18 = .int .i64 i ∧ Aside0 (i ≤ 1) ∧ Aside0 (Below w.heap.size w w') ∧ Aside0 (w'.heap[w.heap.size]? = some (twoMakers p)))
  case atStart => exact ⟨0, rfl, rfl, ⟨by omega⟩, HB0, HW⟩
  case round =>
    obtain ⟨i, rfl, rfl, HI, HB, HR⟩ := hrel
    have hi := HI.out
    have : i = 0 ∨ i = 1 := by omega
    rcases this with rfl | rfl
    · have e0 : wr.cell? ⟨w.heap.size, 0, none⟩ = some (.iface 90 (.agg #[.pointer (some ⟨p, 0, none⟩)])) := blk_cell HR.out 0
      clear hi
      go_wp2_with fail
      refine (giver_idle wr (HM.out.below HB.out) HN.out).mono ?_
      rintro e w1 ⟨rfl, hb⟩
      have HB1 := Aside0.mk (below_alloc (below_then HB.out HB.out.size hb) (.cells #[.int .i64 0, .slice none 0 0] 72))
      have HR1 := Aside0.mk (blk_below (blk_below HR.out hb) (below_alloc (Below.refl _ _) (.cells #[.int .i64 0, .slice none 0 0] 72)))
      clear hb e0
      go_wp2
      go_roundg 0
      case measure => omega
      case rel => exact ⟨1, rfl, rfl, ⟨by omega⟩, HB1, HR1⟩
    · have e0 : wr.cell? ⟨w.heap.size, 1, none⟩ = some (.iface 91 (.agg #[.pointer (some ⟨p, 0, none⟩)])) := blk_cell HR.out 1
      clear hi
      go_wp2_with fail
      refine (HSn.out wr (HM.out.below HB.out)).mono ?_
      rintro e w1 ⟨A1, c1, rfl, hnc, hC, v1, hM, hS⟩
      have hb1 := below_alloc (Below.refl _ w1) (.cells #[.int .i64 ch, .slice A1 n c1] 72)
      have HM1 := Aside0.mk (hM.below hb1)
      have hS1 := ((Stp.of_below HB.out).trans hS).trans (Stp.of_below hb1)
      have HS1 := Aside0.mk hS1
      have hG1 : GT (w1.alloc (.cells #[.int .i64 ch, .slice A1 n c1] 72)) := HG.out.past (hS1.below b0 (fun k hk => (HM.out.foot k hk).1) Hb.out.2) Hb.out.1
      have hput := frame_Put.calls k (ch : Int) A1 c1 ((M.sent ch).take n) F 0 _ hG1 (by rw [HLT.out]; exact Kd.C_below hC hb1) (by rw [HLT.out]; exact hnc) HF.out
      rw [HLT.out] at hput
      have HP := Aside0.mk hput
      have U := Aside0.mk (blk_new w1 (.cells #[.int .i64 ch, .slice A1 n c1] 72))
      have u0 := blk_cell U.out 0
      have u1 := blk_cell U.out 1
      clear hb1 hM hS e0 hnc hC hG1 hput hS1
      go_wp2_with fail
      refine HP.out.mono ?_
      rintro e w2 ⟨v2, rfl, hR2, hB2⟩
      have HM2 := Aside0.mk (HM1.out.below hB2)
      have HS2 := Aside0.mk (HS1.out.trans (Stp.of_below hB2))
      have HR2 := Aside0.mk (Kd.R_mono (Kd.R_lower hR2 HS1.out.size) (fun _ h => h))
      clear hR2 hB2 u0 u1
      go_wp2
      go_ret2
      exact ⟨_, v1, rfl, HR2.out, HM2.out, HS2.out⟩
open Go.Proofs.YthehhbfiaaadgaaDoor.Num Go.Proofs.YthehhbfiaaadgaaDoor.Pure
def sum8 (f : Nat → Nat) : Nat := f 0 + f 1 + f 2 + f 3 + f 4 + f 5 + f 6 + f 7
theorem sum8_upd (f g : Nat → Nat) (i : Nat) (hi : i < 8) (h : ∀ j, j ≠ i → g j = f j) : sum8 g + f i = sum8 f + g i := by
  unfold sum8
  have : i = 0 ∨ i = 1 ∨ i = 2 ∨ i = 3 ∨ i = 4 ∨ i = 5 ∨ i = 6 ∨ i = 7 := by omega
  rcases this with rfl | rfl | rfl | rfl | rfl | rfl | rfl | rfl
  · rw [h 1 (by omega), h 2 (by omega), h 3 (by omega), h 4 (by omega), h 5 (by omega), h 6 (by omega), h 7 (by omega)]; omega
  · rw [h 0 (by omega), h 2 (by omega), h 3 (by omega), h 4 (by omega), h 5 (by omega), h 6 (by omega), h 7 (by omega)]; omega
  · rw [h 1 (by omega), h 0 (by omega), h 3 (by omega), h 4 (by omega), h 5 (by omega), h 6 (by omega), h 7 (by omega)]; omega
  · rw [h 1 (by omega), h 2 (by omega), h 0 (by omega), h 4 (by omega), h 5 (by omega), h 6 (by omega), h 7 (by omega)]; omega
  · rw [h 1 (by omega), h 2 (by omega), h 3 (by omega), h 0 (by omega), h 5 (by omega), h 6 (by omega), h 7 (by omega)]; omega
  · rw [h 1 (by omega), h 2 (by omega), h 3 (by omega), h 4 (by omega), h 0 (by omega), h 6 (by omega), h 7 (by omega)]; omega
  · rw [h 1 (by omega), h 2 (by omega), h 3 (by omega), h 4 (by omega), h 5 (by omega), h 0 (by omega), h 7 (by omega)]; omega
  · rw [h 1 (by omega), h 2 (by omega), h 3 (by omega), h 4 (by omega), h 5 (by omega), h 6 (by omega), h 0 (by omega)]; omega
theorem sum8_le {f : Nat → Nat} (i : Nat) (hi : i < 8) : f i ≤ sum8 f := by
  unfold sum8
  have : i = 0 ∨ i = 1 ∨ i = 2 ∨ i = 3 ∨ i = 4 ∨ i = 5 ∨ i = 6 ∨ i = 7 := by omega
  rcases this with rfl | rfl | rfl | rfl | rfl | rfl | rfl | rfl <;> omega
/-- The least channel that has something to give back. -/
def Mx.gives (M : Mx) : Option Nat := (List.range 8).find? (fun ch => decide (M.back ch > 0))
/-- How far the next channel is in turn that has bytes. -/
def Mx.turns (M : Mx) : Option Nat := (List.range 8).find? (fun k => decide (0 < (M.sent ((M.last.toNat + 1 + k) % 8)).length))
def Mx.sends (M : Mx) (ch : Nat) : List Int × Mx := (encF ch ((M.sent ch).take (min (M.sent ch).length 512)), M.cut ch (min (M.sent ch).length 512))
/-- The next frame's bytes, and the mux behind it. -/
def Mx.next (M : Mx) : Option (List Int × Mx) :=
  match M.gives with
  | some ch => some (encF (8 + ch : Nat) (enc (cl (M.back ch))), M.gave ch)
  | none => M.turns.map fun k => M.sends ((M.last.toNat + 1 + k) % 8)
/-- Frames are made until there are n bytes. -/
def Mx.fill (n : Int) : Nat → Mx → Mx
  | 0, M => M
  | f + 1, M => if (M.out.length : Int) < n then match M.next with
      | some x => Mx.fill n f { x.2 with out := M.out ++ x.1 }
      | none => M
    else M
/-- How many frames there can be at most. -/
def Mx.mu (M : Mx) : Nat := sum8 (fun i => (M.sent i).length + if M.back i > 0 then 1 else 0)
theorem Mx.gives_some {M : Mx} {ch : Nat} (h : M.gives = some ch) : ch < 8 ∧ decide (M.back ch > 0) = true ∧ ∀ i, i < ch → decide (M.back i > 0) = false := by
  obtain ⟨a, b, c⟩ := List.find?_range_eq_some.1 h
  exact ⟨List.mem_range.1 b, a, fun i hi => by have := c i hi; revert this; cases decide (M.back i > 0) <;> simp⟩
theorem Mx.gives_none {M : Mx} (h : M.gives = none) : ∀ i, i < 8 → decide (M.back i > 0) = false := fun i hi => by
  have := List.find?_range_eq_none.1 h i hi
  revert this; cases decide (M.back i > 0) <;> simp
theorem Mx.turns_some {M : Mx} {k : Nat} (h : M.turns = some k) : k < 8 ∧ 0 < (M.sent ((M.last.toNat + 1 + k) % 8)).length ∧ ∀ i, i < k → M.sent ((M.last.toNat + 1 + i) % 8) = [] := by
  obtain ⟨a, b, c⟩ := List.find?_range_eq_some.1 h
  refine ⟨List.mem_range.1 b, of_decide_eq_true a, fun i hi => ?_⟩
  have := c i hi
  rw [Bool.not_eq_true', decide_eq_false_iff_not] at this
  exact List.eq_nil_of_length_eq_zero (by omega)
theorem Mx.turns_none {M : Mx} (h : M.turns = none) : ∀ i, i < 8 → M.sent i = [] := fun i hi => by
  have := List.find?_range_eq_none.1 h ((i + 8 * M.last.toNat + 8 - (M.last.toNat + 1)) % 8) (Nat.mod_lt _ (by decide))
  rw [Bool.not_eq_true', decide_eq_false_iff_not] at this
  rw [show (M.last.toNat + 1 + (i + 8 * M.last.toNat + 8 - (M.last.toNat + 1)) % 8) % 8 = i by omega] at this
  exact List.eq_nil_of_length_eq_zero (by omega)
theorem Mx.next_out {M : Mx} {b : List Int} {M1 : Mx} (h : M.next = some (b, M1)) : M1.out = M.out ∧ M1.win = M.win ∧ M1.way = M.way ∧ M1.held = M.held ∧ M1.L = M.L ∧ M1.x = M.x ∧ M1.e = M.e := by
  unfold Mx.next at h
  split at h
  · cases h; exact ⟨rfl, rfl, rfl, rfl, rfl, rfl, rfl⟩
  · obtain ⟨k, _, hk⟩ := Option.map_eq_some_iff.1 h
    cases hk; exact ⟨rfl, rfl, rfl, rfl, rfl, rfl, rfl⟩
theorem Mx.next_mu {M : Mx} {b : List Int} {M1 : Mx} (h : M.next = some (b, M1)) : M1.mu < M.mu := by
  unfold Mx.next at h
  split at h
  · rename_i ch hg
    cases h
    obtain ⟨h8, hb, _⟩ := Mx.gives_some hg
    have hb' := of_decide_eq_true hb
    have := sum8_upd (fun i => (M.sent i).length + if M.back i > 0 then 1 else 0) (fun i => ((M.gave ch).sent i).length + if (M.gave ch).back i > 0 then 1 else 0) ch h8 (fun j hj => by
      have : (M.gave ch).back j = M.back j := by unfold Mx.gave upd; exact if_neg hj
      rw [this]; rfl)
    have e1 : (if (M.gave ch).back ch > 0 then 1 else 0 : Nat) = 0 := if_neg (by unfold Mx.gave upd; dsimp only; rw [if_pos rfl]; omega)
    have e2 : (if M.back ch > 0 then 1 else 0 : Nat) = 1 := if_pos hb'
    have e3 : ((M.gave ch).sent ch) = M.sent ch := rfl
    unfold Mx.mu
    rw [e1, e2, e3] at this
    omega
  · obtain ⟨k, hk, he⟩ := Option.map_eq_some_iff.1 h
    obtain ⟨k8, hl, _⟩ := Mx.turns_some hk
    obtain ⟨ch, hch⟩ : ∃ ch, ch = (M.last.toNat + 1 + k) % 8 := ⟨_, rfl⟩
    rw [← hch] at he hl
    cases he
    have := sum8_upd (fun i => (M.sent i).length + if M.back i > 0 then 1 else 0) (fun i => ((M.cut ch (min (M.sent ch).length 512)).sent i).length + if (M.cut ch (min (M.sent ch).length 512)).back i > 0 then 1 else 0) ch (by omega) (fun j hj => by
      unfold Mx.cut upd; dsimp only; rw [if_neg hj])
    have e3 : ((M.cut ch (min (M.sent ch).length 512)).sent ch).length = (M.sent ch).length - min (M.sent ch).length 512 := by unfold Mx.cut upd; dsimp only; rw [if_pos rfl, List.length_drop]
    unfold Mx.mu
    rw [e3] at this
    have e4 : (if (M.cut ch (min (M.sent ch).length 512)).back ch > 0 then 1 else 0 : Nat) = if M.back ch > 0 then 1 else 0 := rfl
    rw [e4] at this
    omega
theorem mux_next.at_ {b0 p q : Nat} {vs : Nat → Value} {M : Mx} (w : World) (h : Mm b0 p q vs M w) (hG : GT w) (hb0 : 0 < b0) (hbw : b0 ≤ w.heap.size) (hl : 0 ≤ M.last ∧ M.last ≤ 7) (hB : ∀ i, i < 8 → Byt (M.sent i)) :
    Calls Tryd.prog 29 #[.pointer (some ⟨p, 0, none⟩)] w fun e w' => (M.next = none ∧ e = .returned (.tuple #[.slice none 0 0, .bool false]) ∧ Below w.heap.size w w') ∨
      (∃ b M1 v vs', M.next = some (b, M1) ∧ e = .returned (.tuple #[v, .bool true]) ∧ (Kd.int .u8).R 5 w' w.heap.size (fun _ => True) v b ∧ Mm b0 p q vs' M1 w' ∧ Stp (Mf p q vs) (Mf p q vs') w w') := by
  obtain ⟨la, hla⟩ : ∃ la : Nat, M.last = la := ⟨M.last.toNat, by omega⟩
  cases hg : M.gives with
  | some ch =>
    obtain ⟨h8, hb, hn⟩ := Mx.gives_some hg
    have hP : num_Put.f 21 [] (M.back ch) = some (enc (cl (M.back ch))) := by
      have := put_f 21 [] (M.back ch) (by omega) (by simp)
      rwa [List.nil_append] at this
    have hF := put_encF 20 ((8 + ch : Nat) : Int) (enc (cl (M.back ch))) (by omega) (by omega) (by omega) (enc_byt _) (by have := enc_cl (M.back ch); omega)
    refine (next_give w h hG hb0 hbw ch 21 _ _ h8 hn hb hP hF).mono ?_
    rintro e w' ⟨v, rfl, hR, hM, hS⟩
    exact .inr ⟨_, _, v, vs, by unfold Mx.next; rw [hg], rfl, hR, hM, hS⟩
  | none =>
    have hn := Mx.gives_none hg
    cases ht : M.turns with
    | none =>
      refine (next_idle w h hn la hla (by omega) (Mx.turns_none ht)).mono ?_
      rintro e w' ⟨rfl, hb⟩
      exact .inl ⟨by unfold Mx.next; rw [hg, ht]; rfl, rfl, hb⟩
    | some k =>
      obtain ⟨k8, hl2, hs⟩ := Mx.turns_some ht
      have hla2 : M.last.toNat = la := by omega
      rw [hla2] at hl2 hs
      obtain ⟨ch, hch⟩ : ∃ ch, ch = (la + 1 + k) % 8 := ⟨_, rfl⟩
      rw [← hch] at hl2
      have hF := put_encF 20 (ch : Int) ((M.sent ch).take (min (M.sent ch).length 512)) (by omega) (by omega) (by omega) ((hB ch (by omega)).take _) (by rw [List.length_take]; omega)
      refine (next_send w h hG hb0 hbw hn la hla (by omega) k k8 hs ch hch _ _ rfl hl2 rfl 21 _ hF).mono ?_
      rintro e w' ⟨v, v1, rfl, hR, hM, hS⟩
      exact .inr ⟨_, _, v, _, by unfold Mx.next; rw [hg, ht, Option.map_some, hla2, ← hch]; rfl, rfl, hR, hM, hS⟩
open Go.Proofs.YthehhbfiaaadgaaDoor.Num Go.Proofs.YthehhbfiaaadgaaDoor.Pure
/-- What may still go out, at most. -/
def Mx.pot (M : Mx) : Nat := M.out.length + sum8 (fun i => 8 * (M.sent i).length + if M.back i > 0 then 15 else 0)
structure Mx.Good (N : Nat) (M : Mx) : Prop where
  last : 0 ≤ M.last ∧ M.last ≤ 7
  sent : ∀ i, i < 8 → Byt (M.sent i)
  out : Byt M.out
  pot : M.pot ≤ N
theorem enc_len2 {n : Nat} (h : n < 16384) : (enc n).length ≤ 2 := enc_len 1 n (by simpa using h)
theorem Mx.next_pot {M : Mx} {b : List Int} {M1 : Mx} (h : M.next = some (b, M1)) : b.length + sum8 (fun i => 8 * (M1.sent i).length + if M1.back i > 0 then 15 else 0) ≤ sum8 (fun i => 8 * (M.sent i).length + if M.back i > 0 then 15 else 0) := by
  unfold Mx.next at h
  split at h
  · rename_i ch hg
    cases h
    obtain ⟨h8, hb, _⟩ := Mx.gives_some hg
    have hb' := of_decide_eq_true hb
    have := sum8_upd (fun i => 8 * (M.sent i).length + if M.back i > 0 then 15 else 0) (fun i => 8 * ((M.gave ch).sent i).length + if (M.gave ch).back i > 0 then 15 else 0) ch h8 (fun j hj => by
      have : (M.gave ch).back j = M.back j := by unfold Mx.gave upd; exact if_neg hj
      rw [this]; rfl)
    have e1 : (if (M.gave ch).back ch > 0 then 15 else 0 : Nat) = 0 := if_neg (by unfold Mx.gave upd; dsimp only; rw [if_pos rfl]; omega)
    have e2 : (if M.back ch > 0 then 15 else 0 : Nat) = 15 := if_pos hb'
    have e3 : ((M.gave ch).sent ch) = M.sent ch := rfl
    rw [e1, e2, e3] at this
    rw [encF_len]
    have h9 := enc_cl (M.back ch)
    have h1 : (enc (enc (cl (M.back ch))).length).length = 1 := by rw [enc_small (by omega)]; rfl
    omega
  · obtain ⟨k, hk, he⟩ := Option.map_eq_some_iff.1 h
    obtain ⟨k8, hl, _⟩ := Mx.turns_some hk
    obtain ⟨ch, hch⟩ : ∃ ch, ch = (M.last.toNat + 1 + k) % 8 := ⟨_, rfl⟩
    rw [← hch] at he hl
    cases he
    have := sum8_upd (fun i => 8 * (M.sent i).length + if M.back i > 0 then 15 else 0) (fun i => 8 * ((M.cut ch (min (M.sent ch).length 512)).sent i).length + if (M.cut ch (min (M.sent ch).length 512)).back i > 0 then 15 else 0) ch (by omega) (fun j hj => by
      unfold Mx.cut upd; dsimp only; rw [if_neg hj])
    have e3 : ((M.cut ch (min (M.sent ch).length 512)).sent ch).length = (M.sent ch).length - min (M.sent ch).length 512 := by unfold Mx.cut upd; dsimp only; rw [if_pos rfl, List.length_drop]
    rw [e3] at this
    have e4 : (if (M.cut ch (min (M.sent ch).length 512)).back ch > 0 then 15 else 0 : Nat) = if M.back ch > 0 then 15 else 0 := rfl
    rw [e4] at this
    have e5 : ((M.sent ch).take (min (M.sent ch).length 512)).length = min (M.sent ch).length 512 := by rw [List.length_take]; omega
    rw [encF_len, e5]
    have h2 := enc_len2 (n := min (M.sent ch).length 512) (by omega)
    omega
theorem Mx.next_good {M : Mx} {b : List Int} {M1 : Mx} {N : Nat} (h : M.next = some (b, M1)) (g : M.Good N) : Mx.Good N { M1 with out := M.out ++ b } ∧ Byt b := by
  have hp := Mx.next_pot h
  have ho := (Mx.next_out h).1
  have hbb : Byt b ∧ (0 ≤ M1.last ∧ M1.last ≤ 7) ∧ ∀ i, i < 8 → Byt (M1.sent i) := by
    unfold Mx.next at h
    split at h
    · cases h
      rename_i ch hg
      obtain ⟨h8, _, _⟩ := Mx.gives_some hg
      exact ⟨encF_byte (by omega) (by omega) (enc_byt _), g.last, g.sent⟩
    · obtain ⟨k, hk, he⟩ := Option.map_eq_some_iff.1 h
      obtain ⟨ch, hch⟩ : ∃ ch, ch = (M.last.toNat + 1 + k) % 8 := ⟨_, rfl⟩
      rw [← hch] at he
      cases he
      refine ⟨encF_byte (by omega) (by omega) ((g.sent ch (by omega)).take _), ?_, fun i hi => ?_⟩
      · unfold Mx.cut; dsimp only; omega
      · unfold Mx.cut upd; dsimp only
        by_cases hic : i = ch
        · rw [if_pos hic]; exact (g.sent ch (by omega)).drop _
        · rw [if_neg hic]; exact g.sent i hi
  refine ⟨⟨hbb.2.1, hbb.2.2, g.out.append hbb.1, ?_⟩, hbb.1⟩
  have := g.pot
  unfold Mx.pot at this ⊢
  dsimp only
  rw [List.length_append]
  omega
theorem Mx.fill_eq (n : Int) (f : Nat) (M : Mx) : Mx.fill n (f + 1) M = if (M.out.length : Int) < n then match M.next with
      | some x => Mx.fill n f { x.2 with out := M.out ++ x.1 }
      | none => M
    else M := rfl
theorem Mx.mu_out (M : Mx) (L : List Int) : Mx.mu { M with out := L } = M.mu := rfl
theorem Mx.fill_stop (n : Int) (f : Nat) (M : Mx) (h : ¬ (M.out.length : Int) < n ∨ M.next = none) : Mx.fill n f M = M := by
  cases f with
  | zero => rfl
  | succ f =>
    rw [Mx.fill_eq]
    rcases h with h | h
    · rw [if_neg h]
    · rw [h]; split <;> rfl
theorem Mx.fill_good (n : Int) (N : Nat) : ∀ (f : Nat) (M : Mx), M.Good N → (Mx.fill n f M).Good N ∧ (Mx.fill n f M).win = M.win ∧ (Mx.fill n f M).way = M.way ∧ (Mx.fill n f M).held = M.held ∧ (Mx.fill n f M).L = M.L ∧ (Mx.fill n f M).x = M.x ∧ (Mx.fill n f M).e = M.e := by
  intro f
  induction f with
  | zero => exact fun M g => ⟨g, rfl, rfl, rfl, rfl, rfl, rfl⟩
  | succ f ih =>
    intro M g
    rw [Mx.fill_eq]
    split
    · cases hn : M.next with
      | none => exact ⟨g, rfl, rfl, rfl, rfl, rfl, rfl⟩
      | some x =>
        obtain ⟨b, M1⟩ := x
        obtain ⟨g1, _⟩ := Mx.next_good hn g
        obtain ⟨_, a1, a2, a3, a4, a5, a6⟩ := Mx.next_out hn
        obtain ⟨h0, h1, h2, h3, h4, h5, h6⟩ := ih _ g1
        exact ⟨h0, h1.trans a1, h2.trans a2, h3.trans a3, h4.trans a4, h5.trans a5, h6.trans a6⟩
    · exact ⟨g, rfl, rfl, rfl, rfl, rfl, rfl⟩
theorem mux_Out.nil (n : Int) (w : World) : Calls Tryd.prog 14 #[.pointer none, .int .i64 n] w fun e w' => e = .returned (.slice none 0 0) ∧ w' = w := by
  go_enter Tryd.func14, Tryd.ntmps14
  go_wp2
  go_ret
  exact ⟨rfl, rfl⟩
theorem mux_Out.off {b0 p q : Nat} {vs : Nat → Value} {M : Mx} (n : Int) (w : World) (h : Mm b0 p q vs M w) (hoff : M.e ≠ 0 ∨ n < 1) : Calls Tryd.prog 14 #[.pointer (some ⟨p, 0, none⟩), .int .i64 n] w fun e w' => e = .returned (.slice none 0 0) ∧ Below w.heap.size w w' := by
  obtain ⟨_, _, _, _, c4⟩ := h.cells
  by_cases he : M.e = 0
  · have hn : decide (n < 1) = true := decide_eq_true (hoff.resolve_left (fun h => h he))
    have e1 : (M.e != 0) = false := by rw [he]; rfl
    clear h hoff he
    go_enter Tryd.func14, Tryd.ntmps14
    go_wp2
    go_ret
    exact ⟨rfl, Below.refl _ _⟩
  · have e1 : (M.e != 0) = true := bne_iff_ne.mpr he
    clear h hoff he
    go_enter Tryd.func14, Tryd.ntmps14
    go_wp2
    go_ret
    exact ⟨rfl, Below.refl _ _⟩
theorem row_facts {b0 p q : Nat} {vs : Nat → Value} {M : Mx} {w w1 : World} (h : Mm b0 p q vs M w) (i : Nat) (hi : i < 17) (v1 : Value) (hg : w.grownBy w1 (vs i).ownBlock) : w1.cell? ⟨p, loc i, none⟩ = some (vs i) ∧ w1.frozen? ⟨p, loc i, none⟩ = false := by
  obtain ⟨cs, hcs, hsz, h0, hr, _⟩ := h.rows
  have hpo : some p ≠ (vs i).ownBlock := fun e => (h.ne_p i hi p e.symm).1 rfl
  have hcs1 := (hg.block p (blk_lt hcs) hpo).trans hcs
  exact ⟨(blk_cell hcs1 _).trans (hr i hi), blk_frozen hcs1 _⟩
set_option maxHeartbeats 8000000 in
set_option maxRecDepth 100000 in
theorem mux_Out.at_ {b0 p q N : Nat} {vs : Nat → Value} {M : Mx} (n : Int) (w : World) (h : Mm b0 p q vs M w) (hG : GT w) (hb0 : 0 < b0) (hbw : b0 ≤ w.heap.size) (g : M.Good N) (hN : N ≤ 70368744177664) (he : M.e = 0) (hn : 1 ≤ n) :
    Calls Tryd.prog 14 #[.pointer (some ⟨p, 0, none⟩), .int .i64 n] w fun e w' => ∃ v vs', e = .returned v ∧ (Kd.int .u8).R 5 w' w.heap.size (fun _ => True) v ((M.fill n (M.mu + 1)).out.take n.toNat) ∧ Mm b0 p q vs' { M.fill n (M.mu + 1) with out := (M.fill n (M.mu + 1)).out.drop n.toNat } w' ∧ Stp (Mf p q vs) (Mf p q vs') w w' := by
  obtain ⟨_, _, _, _, c4⟩ := h.cells
  have hn1 : decide (n < 1) = false := decide_eq_false (by omega)
  rw [he] at c4
  have HM := Aside0.mk h
  have HG := Aside0.mk hG
  have Hb := Aside0.mk (And.intro hb0 hbw)
  have HGD := Aside0.mk g
  have HN := Aside0.mk (And.intro hN hn)
  clear h hG hb0 hbw g hN he hn
  go_enter Tryd.func14, Tryd.ntmps14
  go_upto_block 0 with (fail)
  go_cut [5, 6] (fun s5 s6 wx => ∃ vs1, Aside0 (Mm b0 p q vs1 (M.fill n (M.mu + 1)) wx) ∧ Aside0 (Stp (Mf p q vs) (Mf p q vs1) w wx))
  case first =>
    go_wp2_with fail
    go_loopg [5, 6] (M.mu + 1) (fun gg v5 v6 w' => ∃ M1 vs1, Aside0 (M1.mu < gg) ∧ Aside0 (M1.Good N) ∧ Aside0 (Mx.fill n gg M1 = M.fill n (M.mu + 1)) ∧ Aside0 (Mm b0 p q vs1 M1 w') ∧ Aside0 (Stp (Mf p q vs) (Mf p q vs1) w w'))
    case atStart => exact ⟨M, vs, ⟨Nat.lt_succ_self _⟩, HGD, ⟨rfl⟩, HM, ⟨Stp.refl _ _⟩⟩
    case round =>
      obtain ⟨M1, vs1, HMU, HGD1, HFI, HM1, HS1⟩ := hrel
      obtain ⟨_, _, c42, _, _⟩ := HM1.out.cells
      have hT := HM1.out.hT 16 (by omega)
      have hrow : M1.row 16 = M1.out := rfl
      rw [hrow] at hT
      obtain ⟨A, c, hv⟩ := hT.slice
      rw [hv] at c42
      obtain ⟨m, hm⟩ : ∃ m, M1.out.length = m := ⟨_, rfl⟩
      have HMl := Aside0.mk hm
      rw [hm] at hv c42
      have HV := Aside0.mk hv
      have HT := Aside0.mk hT
      by_cases c1 : (m : Int) < n
      · have k1 : decide ((m : Int) < n) = true := decide_eq_true c1
        have C1 := Aside0.mk c1
        clear c1 hT hrow hv hm
        go_wp2_with fail
        refine (mux_next.at_ wr HM1.out (HG.out.past (HS1.out.below b0 (fun k hk => (HM.out.foot k hk).1) Hb.out.2) Hb.out.1) Hb.out.1 (Nat.le_trans Hb.out.2 HS1.out.size) HGD1.out.last HGD1.out.sent).mono ?_
        rintro e w2 (⟨hnx, rfl, hb⟩ | ⟨b, M2, v, vs2, hnx, rfl, hR, hM2, hS2⟩)
        · have HMx := Aside0.mk (HM1.out.below hb)
          have HSx := Aside0.mk (HS1.out.trans (Stp.of_below hb))
          have HNX := Aside0.mk hnx
          clear hb hnx
          go_wp2
          go_meet
          exact ⟨vs1, ⟨by rw [← HFI.out, Mx.fill_stop _ _ _ (.inr HNX.out)]; exact HMx.out⟩, HSx⟩
        · obtain ⟨A2, c2, rfl⟩ := Kd.R_slice hR
          obtain ⟨_, _, hCb⟩ := Kd.R_reads' hR
          have hg2 := Mx.next_good hnx HGD1.out
          have hmu2 := Mx.next_mu hnx
          have hT2 := hM2.hT 16 (by omega)
          have hrow2 : M2.row 16 = M1.out := (Mx.next_out hnx).1
          rw [hrow2] at hT2
          have d42 := (hM2.cells).2.2.1
          have HM2 := Aside0.mk hM2
          have HS2 := Aside0.mk (HS1.out.trans hS2)
          have HG2 := Aside0.mk hg2
          have HMU2 := Aside0.mk hmu2
          have HT2 := Aside0.mk hT2
          have HNX := Aside0.mk hnx
          have hlen : M1.out.length + b.length ≤ 140737488355328 := by
            have := hg2.1.pot
            unfold Mx.pot at this
            dsimp only at this
            rw [List.length_append] at this
            have := HN.out.1
            omega
          have HSZ := Aside0.mk (Nat.le_trans Hb.out.2 (Nat.le_trans HS1.out.size hS2.size))
          obtain ⟨nb, hnb⟩ : ∃ nb, b.length = nb := ⟨_, rfl⟩
          rw [hnb] at hCb hlen ⊢
          have HCb := Aside0.mk hCb
          have HLEN := Aside0.mk hlen
          have HNB := Aside0.mk hnb
          obtain ⟨A0, c0, hv2⟩ := hT2.slice
          rw [HMl.out] at hv2
          rw [hv2] at d42
          have HV2 := Aside0.mk hv2
          clear hR hM2 hS2 hnx hg2 hmu2 hT2 hrow2 hlen hCb hnb hv2 c42 k1
          go_wp2_with ((with_reducible refine gate_builtin (b := .append) (xs := #[.tmp 39, .tmp 40]) rfl ?_); (try (refine gate_guard (by rfl) ?_; dsimp only)); at_builtin; refine tb_append b0 rfl (.tmp 39) (.tmp 40) rfl (vs2 16) (M1.out) A2 nb c2 b HV2.out.symm rfl HT2.out HCb.out HLEN.out HSZ.out ?_; intro v1 w3 hT3 hg3 ho3; obtain ⟨A1, c1, hv1⟩ := hT3.slice; obtain ⟨n1, hn1⟩ : ∃ n, (M1.out ++ b).length = n := ⟨_, rfl⟩; rw [hn1] at hv1; subst hv1; clear hn1; have HA := Aside0.mk (HM2.out.putRow 16 (by decide) (.slice A1 n1 c1) _ hT3 hg3 (.inr ho3)); have HST := Aside0.mk (HS2.out.trans (HM2.out.rowStp 16 (by decide) (.slice A1 n1 c1) hg3 (.inr ho3) 42)); have zz := row_facts HM2.out 16 (by decide) (.slice A1 n1 c1) hg3; have z1 : w3.cell? ⟨p, 42, none⟩ = some (vs2 16) := zz.1; have z2 : w3.frozen? ⟨p, 42, none⟩ = false := zz.2; clear zz hT3 hg3 ho3 d42)
          go_roundg (gk - 1)
          case measure => have := HMU.out; omega
          case rel =>
            have hmu := HMU.out
            have hmu2 := HMU2.out
            refine ⟨{ M2 with out := M1.out ++ b }, upd vs2 16 (.slice A1 n1 c1), ⟨?_⟩, ⟨HG2.out.1⟩, ⟨?_⟩, ⟨HA.out⟩, ⟨HST.out⟩⟩
            · rw [Mx.mu_out]; omega
            · rw [← HFI.out]
              obtain ⟨g', rfl⟩ : ∃ g', gk = g' + 1 := ⟨gk - 1, by omega⟩
              rw [Mx.fill_eq n g' M1, if_pos (by rw [HMl.out]; exact C1.out), HNX.out]
              rfl
      · have k1 : decide ((m : Int) < n) = false := decide_eq_false c1
        have C1 := Aside0.mk c1
        clear c1 hT hrow hv hm
        go_wp2
        go_meet
        exact ⟨vs1, ⟨by rw [← HFI.out, Mx.fill_stop _ _ _ (.inl (by rw [HMl.out]; have := C1.out; omega))]; exact HM1.out⟩, HS1⟩
  obtain ⟨vs1, HM1, HS1⟩ := hcut
  obtain ⟨M1, hM1⟩ : ∃ M1, M.fill n (M.mu + 1) = M1 := ⟨_, rfl⟩
  rw [hM1] at HM1
  have hgd := (Mx.fill_good n N (M.mu + 1) M HGD.out).1
  rw [hM1] at hgd
  obtain ⟨_, _, c42, _, _⟩ := HM1.out.cells
  have hT := HM1.out.hT 16 (by omega)
  have hrow : M1.row 16 = M1.out := rfl
  rw [hrow] at hT
  obtain ⟨A, c, hv⟩ := hT.slice
  obtain ⟨m, hm⟩ : ∃ m, M1.out.length = m := ⟨_, rfl⟩
  rw [hm] at hv
  rw [hv] at c42 hT
  obtain ⟨nn, hnn⟩ : ∃ nn : Nat, nn = min n.toNat m := ⟨_, rfl⟩
  have hn1' := HN.out.2
  have hmin : (if (m : Int) < n then (m : Int) else n) = (nn : Int) := by split <;> omega
  have hnm : nn ≤ m := by omega
  have htk : M1.out.take n.toNat = M1.out.take nn := by
    rw [hnn, ← hm]
    rcases Nat.le_total n.toNat M1.out.length with h | h
    · rw [Nat.min_eq_left h]
    · rw [Nat.min_eq_right h, List.take_of_length_le h, List.take_of_length_le (Nat.le_refl _)]
  have hdk : M1.out.drop n.toNat = M1.out.drop nn := by
    rw [hnn, ← hm]
    rcases Nat.le_total n.toNat M1.out.length with h | h
    · rw [Nat.min_eq_left h]
    · rw [Nat.min_eq_right h, List.drop_of_length_le h, List.drop_of_length_le (Nat.le_refl _)]
  have HEQ := Aside0.mk (And.intro hM1 (And.intro htk hdk))
  obtain ⟨A', c', hvA, hmc, hCA⟩ := hT.reads
  have hcA : A' = A ∧ c' = c := by cases hvA; exact ⟨rfl, rfl⟩
  obtain ⟨rfl, rfl⟩ := hcA
  rw [hm] at hmc
  have hcut := cut_upto A' m c' nn hnm hmc
  obtain ⟨B, hcutB, hTB, hOB⟩ := hT.cut nn hnm
  have hCT := C_upto nn hCA (by omega)
  have HCT := Aside0.mk hCT
  have HTB := Aside0.mk (And.intro hTB hOB)
  have hlm : m ≤ 140737488355328 := by
    have h1 := hgd.pot
    unfold Mx.pot at h1
    have := HN.out.1
    omega
  have HX := Aside0.mk (And.intro hm (And.intro hlm hnm))
  have HV := Aside0.mk hv
  clear hT hrow hv hm hnn hn1' hnm htk hdk hvA hCA hmc hTB hOB hCT hgd hM1 HGD hlm
  have HB := Aside0.mk hcutB
  clear hcutB
  go_wp2_with ((with_reducible refine gate_builtin (b := .append) (xs := #[.tmp 51, .tmp 57]) rfl ?_); (try (refine gate_guard (by rfl) ?_; dsimp only)); at_builtin; refine Kd.R_append_rows (Kd.int .u8) (w0 := wc) wc.heap.size rfl (.tmp 51) (.tmp 57) 32 5 (.int .u8 0) 1 rfl Tryd.underlying32 info5 rfl (by decide) (by omega) (.slice none 0 0) ([] : List Int) (M1.out.take nn) A' nn c' (fun k => wc.heap.size ≤ k) (fun _ => False) rfl rfl ?aO ?aR (fun _ _ h => h) (fun _ h => h.elim) ?aF ?aB ?aS ?aL ?_; (case aR => exact HCT.out); (case aB => exact Below.refl _ _); (case aF => exact fun k hk => hk); (case aO => exact Kd.R_nil _ _ _ _ _); (case aS => exact Nat.le_refl _); (case aL => have := HX.out; simp only [List.length_nil]; omega); intro v5 w5 ho hb5 hg hat; clear hat; rw [List.nil_append] at ho; obtain ⟨A5, c5, rfl⟩ := Kd.R_slice ho; obtain ⟨n5, hn5⟩ : ∃ n5, (M1.out.take nn).length = n5 := ⟨_, rfl⟩; rw [hn5] at ho ⊢; clear hn5; have HO5 := Aside0.mk ho; have HB5 := Aside0.mk hb5; have HM5 := Aside0.mk (HM1.out.below hb5); have q5 := (HM5.out.cells).2.2.1; rw [HV.out] at q5; obtain ⟨cp, hcp, _⟩ := HM5.out.hP; have f5 := blk_frozen hcp 42; have hcutB := HB.out; clear hcp ho hb5 hg c42 hcut)
  go_ret
  rw [HEQ.out.1, HEQ.out.2.1, HEQ.out.2.2]
  have hTB5 : Tb w5 b0 (.slice B (m - nn) (c' - nn)) (M1.out.drop nn) := HTB.out.1.kept (fun k hk => HB5.out.block k (HTB.out.1.lt k hk))
  have ho2 : (Value.slice B (m - nn) (c' - nn)).ownBlock = (vs1 16).ownBlock := HTB.out.2.trans (by rw [HV.out])
  have hM6 := HM5.out.putRow 16 (by decide) _ _ hTB5 (World.grownBy.refl _ _) (.inr (.inl ho2))
  have hS6 := HS1.out.trans ((Stp.of_below HB5.out).trans (HM5.out.rowStp 16 (by decide) (.slice B (m - nn) (c' - nn)) (World.grownBy.refl _ _) (.inr (.inl ho2)) 42))
  have hp := (HM1.out.foot p (.inl rfl)).2
  exact ⟨.slice A5 n5 c5, _, rfl, Kd.R_mono (Kd.R_lower (Kd.R_step HO5.out (fun k hk _ => Below.heap_setCell _ ⟨p, 42, none⟩ _ k (show k ≠ p by omega))) HS1.out.size) (fun _ _ => trivial), hM6, hS6⟩
end Go.Proofs.YthehhbfiaaadgaaDoor.P
