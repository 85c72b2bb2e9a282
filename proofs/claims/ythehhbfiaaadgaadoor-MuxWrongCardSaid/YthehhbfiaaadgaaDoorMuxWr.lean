/- Chapter 31, MuxWr. -/
import Derived.Test.YthehhbfiaaadgaaDoorMuxRf
import Derived.Test.YthehhbfiaaadgaaDoorPx0
import Derived.Deep.CutBlock
namespace Go.Proofs.YthehhbfiaaadgaaDoor.P
open Go.RowKit Go.Proofs.YthehhbfiaaadgaaDoorW.PrintWords Go.Proofs.YthehhbfiaaadgaaDoorW.PrintLast Go.Proofs.YthehhbfiaaadgaaDoorW.PrintMore
attribute [local go_sem] max2_int min2_int max_two min_two max_three min_three max_four min_four
set_option linter.unusedVariables false
set_option linter.unusedSimpArgs false
open Go.Proofs.YthehhbfiaaadgaaDoor.Num Go.Proofs.YthehhbfiaaadgaaDoor.Pure
theorem Mx.takes_fit : ∀ (fu : Nat) (M : Mx), M.Fit → M.L.length ≤ 1000000000 → (Mx.takes fu M).Fit ∧ (Mx.takes fu M).L.length ≤ M.L.length
  | 0, M, h, _ => ⟨h, Nat.le_refl _⟩
  | fu + 1, M, h, hl => by
    rw [Mx.takes_eq]
    by_cases he : M.e = 0
    · rw [if_pos he]
      by_cases hg : (getH M.L).2.2.2 = 0
      · rw [if_pos hg]
        obtain ⟨h1, h2⟩ := Mx.step_fit h he hl hg
        obtain ⟨h3, h4⟩ := Mx.takes_fit fu _ h1 (by omega)
        exact ⟨h3, by omega⟩
      · rw [if_neg hg]
        by_cases h4 : (getH M.L).2.2.2 = 4
        · rw [if_pos h4]; exact ⟨h, Nat.le_refl _⟩
        · rw [if_neg h4]
          exact ⟨⟨h.win, h.way, h.owed, h.back, h.last, h.sent, h.held, h.out, h.L, fun e => absurd e hg⟩, Nat.le_refl _⟩
    · rw [if_neg he]; exact ⟨h, Nat.le_refl _⟩
theorem Mx.takes_same : ∀ (fu : Nat) (M : Mx), (Mx.takes fu M).win = M.win ∧ (Mx.takes fu M).out = M.out ∧ (Mx.takes fu M).sent = M.sent ∧ (Mx.takes fu M).back = M.back ∧ (Mx.takes fu M).last = M.last
  | 0, M => ⟨rfl, rfl, rfl, rfl, rfl⟩
  | fu + 1, M => by
    rw [Mx.takes_eq]
    split
    · split
      · obtain ⟨a, b, c, d, e⟩ := Mx.takes_same fu M.step
        obtain ⟨_, _, s1, s2, s3, s4, s5⟩ := M.step_L
        exact ⟨a.trans s1, b.trans s2, c.trans s3, d.trans s4, e.trans s5⟩
      · split <;> exact ⟨rfl, rfl, rfl, rfl, rfl⟩
    · exact ⟨rfl, rfl, rfl, rfl, rfl⟩
/-- Bytes come, whatever they are; of a mux that has noted an error nothing changes. -/
def Mx.tk (M : Mx) (N : List Int) : Mx := if M.e = 0 then Mx.takes (M.L.length + N.length + 1) { M with L := M.L ++ N } else M
theorem Mx.tk_fit {M : Mx} (h : M.Fit) (N : List Int) (hN : Byt N) (hl : M.L.length + N.length ≤ 1000000000) : (M.tk N).Fit ∧ (M.tk N).L.length ≤ M.L.length + N.length := by
  unfold Mx.tk
  split
  · have h1 : Mx.Fit { M with L := M.L ++ N } := ⟨h.win, h.way, h.owed, h.back, h.last, h.sent, h.held, h.out, h.L.append hN, h.x⟩
    obtain ⟨h2, h3⟩ := Mx.takes_fit (M.L.length + N.length + 1) _ h1 (by show (M.L ++ N).length ≤ _; rw [List.length_append]; exact hl)
    have h3 : (Mx.takes (M.L.length + N.length + 1) { M with L := M.L ++ N }).L.length ≤ (M.L ++ N).length := h3
    rw [List.length_append] at h3
    exact ⟨h2, h3⟩
  · exact ⟨h, by omega⟩
theorem Mx.tk_sent (M : Mx) (N : List Int) : (M.tk N).sent = M.sent := by
  unfold Mx.tk
  split
  · exact (Mx.takes_same _ _).2.2.1
  · rfl
/-- The program's mux and the document's in memory, and the pair's block. -/
structure Wr (b0 p q : Nat) (vs : Nat → Value) (A : Mx) (p2 g2 q2 : Nat) (us : Nat → Value) (R : Mx) (gp pp : Nat) (w : World) : Prop where
  a : Mm b0 p q vs A w
  r : Rm b0 p2 g2 q2 us R w
  ne : ∀ k, Mf p q vs k → ¬ Rf p2 g2 q2 us k
  pr : w.heap[gp]? = some (pairB p pp)
  na : ¬ Mf p q vs gp
  nr : ¬ Rf p2 g2 q2 us gp
  bs : b0 ≤ w.heap.size
theorem Wr.left {b0 p q : Nat} {vs vs1 : Nat → Value} {A A1 : Mx} {p2 g2 q2 : Nat} {us : Nat → Value} {R : Mx} {gp pp : Nat} {w w1 : World} (h : Wr b0 p q vs A p2 g2 q2 us R gp pp w) (hM : Mm b0 p q vs1 A1 w1) (hS : Stp (Mf p q vs) (Mf p q vs1) w w1) : Wr b0 p q vs1 A1 p2 g2 q2 us R gp pp w1 ∧ Below b0 w w1 :=
  ⟨⟨hM, h.r.past hS (fun k hk hk2 => h.ne k hk2 hk), fun k hk hk2 => (hS.foot k hk).elim (fun h3 => h.ne k h3 hk2) (fun h3 => by have := (h.r.foot k hk2).2; omega), (hS.block gp (blk_lt h.pr) h.na).trans h.pr, fun hk => (hS.foot gp hk).elim h.na (fun h3 => by have := blk_lt h.pr; omega), h.nr, Nat.le_trans h.bs hS.size⟩, hS.below b0 (fun k hk => (h.a.foot k hk).1) h.bs⟩
theorem Wr.right {b0 p q : Nat} {vs : Nat → Value} {A : Mx} {p2 g2 q2 : Nat} {us us1 : Nat → Value} {R R1 : Mx} {gp pp : Nat} {w w1 : World} (h : Wr b0 p q vs A p2 g2 q2 us R gp pp w) (hM : Rm b0 p2 g2 q2 us1 R1 w1) (hS : Stp (Rf p2 g2 q2 us) (Rf p2 g2 q2 us1) w w1) : Wr b0 p q vs A p2 g2 q2 us1 R1 gp pp w1 ∧ Below b0 w w1 :=
  ⟨⟨h.a.past hS (fun k hk hk2 => h.ne k hk hk2), hM, fun k hk hk2 => (hS.foot k hk2).elim (fun h3 => h.ne k hk h3) (fun h3 => by have := (h.a.foot k hk).2; omega), (hS.block gp (blk_lt h.pr) h.nr).trans h.pr, h.na, fun hk => (hS.foot gp hk).elim h.nr (fun h3 => by have := blk_lt h.pr; omega), Nat.le_trans h.bs hS.size⟩, hS.below b0 (fun k hk => (h.r.foot k hk).1) h.bs⟩
theorem Wr.below {b0 p q : Nat} {vs : Nat → Value} {A : Mx} {p2 g2 q2 : Nat} {us : Nat → Value} {R : Mx} {gp pp : Nat} {w w1 : World} (h : Wr b0 p q vs A p2 g2 q2 us R gp pp w) (hb : Below w.heap.size w w1) : Wr b0 p q vs A p2 g2 q2 us R gp pp w1 ∧ Below b0 w w1 := h.left (h.a.below hb) (.of_below hb)
section
variable {b0 p q : Nat} {vs : Nat → Value} {A : Mx} {p2 g2 q2 : Nat} {us : Nat → Value} {R : Mx} {gp pp : Nat}
theorem wr_Take (D : Option Addr) (n c : Nat) (N : List Int) (w : World) (h : Wr b0 p q vs A p2 g2 q2 us R gp pp w) (hG : GT w) (hb0 : 0 < b0) (hC : Kd.C (Kd.int .u8) w D n N) (hN : Byt N) (hf : A.Fit) (hl : A.L.length + n ≤ 1000000000) :
    Calls Tryd.prog 17 #[.pointer (some ⟨p, 0, none⟩), .slice D n c] w fun e w' => e = .returned (.int .i64 (A.tk N).e) ∧ ∃ vs1, Wr b0 p q vs1 (A.tk N) p2 g2 q2 us R gp pp w' ∧ Below b0 w w' := by
  by_cases he : A.e = 0
  · refine (mux_Take.at_ D n c N w h.a hG hb0 h.bs hC hN he hf hl).mono ?_
    rintro e w' ⟨rfl, vs1, hM, hS⟩
    have hk : A.tk N = Mx.takes (A.L.length + n + 1) { A with L := A.L ++ N } := by unfold Mx.tk; rw [if_pos he, hC.1]
    rw [hk]
    exact ⟨rfl, vs1, h.left hM hS⟩
  · refine (mux_Take.bad D n c w h.a he).mono ?_
    rintro e w' ⟨rfl, rfl⟩
    have hk : A.tk N = A := if_neg he
    rw [hk]
    exact ⟨rfl, vs, h, Below.refl _ _⟩
theorem wr_RTake (D : Option Addr) (n c : Nat) (N : List Int) (w : World) (h : Wr b0 p q vs A p2 g2 q2 us R gp pp w) (hG : GT w) (hb0 : 0 < b0) (hC : Kd.C (Kd.int .u8) w D n N) (hN : Byt N) (hf : R.Fit) (hl : R.L.length + n ≤ 1000000000) :
    Calls Tryd.prog 28 #[.pointer (some ⟨p2, 0, none⟩), .slice D n c] w fun e w' => e = .returned (.int .i64 (R.tk N).e) ∧ ∃ us1, Wr b0 p q vs A p2 g2 q2 us1 (R.tk N) gp pp w' ∧ Below b0 w w' := by
  by_cases he : R.e = 0
  · refine (ref31_Take.at_ D n c N w h.r hG hb0 h.bs hC hN he hf hl).mono ?_
    rintro e w' ⟨rfl, vs1, hM, hS⟩
    have hk : R.tk N = Mx.takes (R.L.length + n + 1) { R with L := R.L ++ N } := by unfold Mx.tk; rw [if_pos he, hC.1]
    rw [hk]
    exact ⟨rfl, vs1, h.right hM hS⟩
  · refine (ref31_Take.bad D n c w h.r he).mono ?_
    rintro e w' ⟨rfl, rfl⟩
    have hk : R.tk N = R := if_neg he
    rw [hk]
    exact ⟨rfl, us, h, Below.refl _ _⟩
def Mx.heldAny (M : Mx) (ch : Int) : List Int := if 0 ≤ ch ∧ ch < 8 then M.held ch.toNat else []
theorem wr_Held (ch : Int) (w : World) (h : Wr b0 p q vs A p2 g2 q2 us R gp pp w) :
    Calls Tryd.prog 24 #[.pointer (some ⟨p, 0, none⟩), .int .i64 ch] w fun e w' => e = .returned (.int .i64 ((A.heldAny ch).length : Nat)) ∧ Wr b0 p q vs A p2 g2 q2 us R gp pp w' ∧ Below b0 w w' := by
  by_cases hc : 0 ≤ ch ∧ ch < 8
  · obtain ⟨c, rfl⟩ : ∃ c : Nat, ch = c := ⟨ch.toNat, by omega⟩
    refine (mux_Held.at_ c (by omega) w h.a).mono ?_
    rintro e w' ⟨rfl, hb⟩
    unfold Mx.heldAny
    rw [if_pos hc, Int.toNat_natCast]
    exact ⟨rfl, h.below hb⟩
  · refine (mux_Held.out p ch w (by rw [Bool.or_eq_true, decide_eq_true_eq, decide_eq_true_eq]; omega)).mono ?_
    rintro e w' ⟨rfl, rfl⟩
    unfold Mx.heldAny
    rw [if_neg hc]
    exact ⟨rfl, h, Below.refl _ _⟩
theorem wr_Recv (ch : Int) (w : World) (h : Wr b0 p q vs A p2 g2 q2 us R gp pp w) :
    Calls Tryd.prog 18 #[.pointer (some ⟨p, 0, none⟩), .int .i64 ch] w fun e w' => ∃ D cd A1 vs1, e = .returned (.slice D (A.heldAny ch).length cd) ∧ Kd.C (Kd.int .u8) w' D (A.heldAny ch).length (A.heldAny ch) ∧ A1.heldAny ch = [] ∧ Wr b0 p q vs1 A1 p2 g2 q2 us R gp pp w' ∧ Below b0 w w' := by
  by_cases hc : 0 ≤ ch ∧ ch < 8
  · obtain ⟨c, rfl⟩ : ∃ c : Nat, ch = c := ⟨ch.toNat, by omega⟩
    refine (mux_Recv.full c (by omega) w h.a).mono ?_
    rintro e w' ⟨v, vs1, rfl, hT, _, hM, hS⟩
    obtain ⟨D, cd, rfl, hC⟩ := conv_Tb hT
    have e1 : A.heldAny (c : Int) = A.held c := by unfold Mx.heldAny; rw [if_pos hc, Int.toNat_natCast]
    have e2 : (A.recv c).heldAny (c : Int) = [] := by
      unfold Mx.heldAny
      rw [if_pos hc, Int.toNat_natCast]
      show upd A.held c [] c = []
      unfold upd
      rw [if_pos rfl]
    rw [e1]
    exact ⟨D, cd, A.recv c, vs1, rfl, hC, e2, h.left hM hS⟩
  · refine (mux_Recv.out p ch w (by rw [Bool.or_eq_true, decide_eq_true_eq, decide_eq_true_eq]; omega)).mono ?_
    rintro e w' ⟨rfl, rfl⟩
    have e1 : A.heldAny ch = [] := if_neg hc
    rw [e1]
    exact ⟨none, 0, A, vs, rfl, Kd.C_nil _ _, e1, h, Below.refl _ _⟩
theorem wr_Send0 (w : World) (h : Wr b0 p q vs A p2 g2 q2 us R gp pp w) (hf : A.Fit) (he : A.e ≠ 0) (hs : ∀ c, c < 8 → (A.sent c).length ≤ 1000000) :
    Calls Tryd.prog 16 #[.pointer (some ⟨p, 0, none⟩), .int .i64 0, .slice none 0 0] w fun e w' => e = .returned (.int .i64 A.e) ∧ ∃ vs1, Wr b0 p q vs1 A p2 g2 q2 us R gp pp w' ∧ Below b0 w w' := by
  have hE : A.sendE 0 0 = A.e := by unfold Mx.sendE; rw [if_pos he]
  refine (mux_Send.any 0 none 0 0 [] w h.a hf (Kd.C_nil _ _) (fun c hc => by have := hs c hc; omega) h.bs).mono ?_
  rintro e w' ⟨rfl, vs1, hM, hS⟩
  rw [hE] at hM ⊢
  rw [if_neg he] at hM
  exact ⟨rfl, vs1, h.left hM hS⟩
theorem wr_Out0 (w : World) (h : Wr b0 p q vs A p2 g2 q2 us R gp pp w) (he : A.e ≠ 0) :
    Calls Tryd.prog 14 #[.pointer (some ⟨p, 0, none⟩), .int .i64 100] w fun e w' => e = .returned (.slice none 0 0) ∧ Wr b0 p q vs A p2 g2 q2 us R gp pp w' ∧ Below b0 w w' := by
  refine (mux_Out.off 100 w h.a (.inl he)).mono ?_
  rintro e w' ⟨rfl, hb⟩
  exact ⟨rfl, h.below hb⟩
theorem wr_Err (w : World) (h : Wr b0 p q vs A p2 g2 q2 us R gp pp w) : Calls Tryd.prog 26 #[.pointer (some ⟨p, 0, none⟩)] w fun e w' => e = .returned (.int .i64 A.e) ∧ Wr b0 p q vs A p2 g2 q2 us R gp pp w' ∧ Below b0 w w' := by
  refine (mux_Err.at_ w h.a).mono ?_
  rintro e w' ⟨rfl, rfl⟩
  exact ⟨rfl, h, Below.refl _ _⟩
theorem wr_RErr (w : World) (h : Wr b0 p q vs A p2 g2 q2 us R gp pp w) : Calls Tryd.prog 27 #[.pointer (some ⟨p2, 0, none⟩)] w fun e w' => e = .returned (.int .i64 R.e) ∧ Wr b0 p q vs A p2 g2 q2 us R gp pp w' ∧ Below b0 w w' := by
  refine (ref_Err.at_ w h.r).mono ?_
  rintro e w' ⟨rfl, rfl⟩
  exact ⟨rfl, h, Below.refl _ _⟩
end
open Go.Proofs.YthehhbfiaaadgaaDoor.Num Go.Proofs.YthehhbfiaaadgaaDoor.Pure
set_option maxHeartbeats 16000000 in
set_option maxRecDepth 100000 in
theorem wrong_main (win : Nat) (hw1 : 1 ≤ win) (hw : win ≤ 3000) (D1 : Option Addr) (n1 c1 : Nat) (B1 : List Int) (D2 : Option Addr) (n2 c2 : Nat) (B2 : List Int) (ch : Int) (w : World) (hG : GT w) (hC1 : Kd.C (Kd.int .u8) w D1 n1 B1) (hC2 : Kd.C (Kd.int .u8) w D2 n2 B2) (hB1 : Byt B1) (hB2 : Byt B2) (hn : n1 + n2 ≤ 3000) :
    Calls Tryd.prog 7 #[.int .i64 win, .slice D1 n1 c1, .slice D2 n2 c2, .int .i64 ch] w fun e w' => e = .returned (.bool true) ∧ Below w.heap.size w w' := by
  have k1 : decide ((win : Int) < 1) = false := decide_eq_false (by omega)
  have k2 : decide ((win : Int) > 3000) = false := decide_eq_false (by omega)
  have k2' : decide (3000 < (win : Int)) = false := k2
  obtain ⟨s, hs⟩ : ∃ s : Int, s = (n1 : Int) + (n2 : Int) := ⟨_, rfl⟩
  have kadd : wrap64 ((n1 : Int) + (n2 : Int)) = s := by unfold wrap64; omega
  have k3 : decide (s > 3000) = false := decide_eq_false (by omega)
  have k3' : decide (3000 < s) = false := k3
  have HW := Aside0.mk (And.intro hw1 (And.intro hw (And.intro hB1 (And.intro hB2 hn))))
  have HC1 := Aside0.mk (fun W (hb : Below w.heap.size w W) => Kd.C_below hC1 hb)
  have HC2 := Aside0.mk (fun W (hb : Below w.heap.size w W) => Kd.C_below hC2 hb)
  have HL := Aside0.mk (And.intro hC1.1 hC2.1)
  have HG := Aside0.mk hG
  have H0 := Aside0.mk (gt_pos hG)
  clear hs hw1 hw hC1 hC2 hB1 hB2 hn hG
  go_enter Tryd.func7, Tryd.ntmps7
  go_wp2_with fail
  refine (law_pair (win : Int) (by have := HW.out.1; have := HW.out.2.1; omega) w).mono ?_
  rintro e w1 ⟨gp, p, q, p', q', rfl, hg1, hgw, hT1, hb1⟩
  have kn := run_eql_pair ⟨gp, 0, none⟩ 2 2
  have HP1 := Aside0.mk (And.intro hg1 (And.intro hgw (And.intro hT1 hb1)))
  have hNw := ref31_New.at_ (win : Int) w1 k1 (decide_eq_false (by have := HW.out.2.1; omega))
  have HNw := Aside0.mk hNw
  clear hg1 hgw hT1 hb1 k1 k2 k2' k3 k3' kadd hNw
  go_wp2_with fail
  refine HNw.out.mono ?_
  rintro e w2 ⟨p2, g2, q2, rfl, hR2, hb2⟩
  have hW2 : Wr w.heap.size p q (fun _ => .slice none 0 0) (Mx.new win) p2 g2 q2 (fun _ => .slice none 0 0) (Mx.new win) gp p' w2 := by
    obtain ⟨hg1, hgw, hT1, hb1⟩ := HP1.out
    have hlt := blk_lt hg1
    exact ⟨hT1.a.below hb2, hR2.lower hb1.size, fun k hk hk2 => by have := (hT1.a.foot k hk).2; have := (hR2.foot k hk2).1; omega, blk_below hg1 hb2, (hT1.kk gp rfl).2.1, fun hk => by have := (hR2.foot gp hk).1; omega, Nat.le_trans hb1.size hb2.size⟩
  have hB2 : Below w.heap.size w w2 := HP1.out.2.2.2.trans (hb2.mono HP1.out.2.2.2.size)
  have HB2 := Aside0.mk hB2
  have hf0 : (Mx.new (win : Int)).Fit := Mx.Fit.new (by have := HW.out.1; have := HW.out.2.1; omega)
  obtain ⟨M1, hM1⟩ : ∃ M1, (Mx.new (win : Int)).tk B1 = M1 := ⟨_, rfl⟩
  obtain ⟨M2, hM2⟩ : ∃ M2, M1.tk B2 = M2 := ⟨_, rfl⟩
  have hl1 : B1.length = n1 := HL.out.1
  have hl2 : B2.length = n2 := HL.out.2
  have hn := HW.out.2.2.2.2
  have hL0 : (Mx.new (win : Int)).L.length = 0 := rfl
  obtain ⟨hf1, hll1⟩ := Mx.tk_fit hf0 B1 HW.out.2.2.1 (by omega)
  rw [hM1] at hf1 hll1
  have hsent : M1.sent = fun _ => [] := by rw [← hM1, Mx.tk_sent]; rfl
  obtain ⟨er1, her1⟩ : ∃ er1, M1.e = er1 := ⟨_, rfl⟩
  obtain ⟨er2, her2⟩ : ∃ er2, M2.e = er2 := ⟨_, rfl⟩
  have hsame : er1 ≠ 0 → M2 = M1 := fun h => by rw [← hM2]; unfold Mx.tk; rw [if_neg (by rw [her1]; exact h)]
  have hT2 := wr_Take D1 n1 c1 B1 w2 hW2 (HG.out.past hB2 H0.out) H0.out (HC1.out w2 hB2) HW.out.2.2.1 hf0 (by omega)
  rw [hM1, her1] at hT2
  have HT2 := Aside0.mk hT2
  have HM := Aside0.mk (And.intro hM1 (And.intro hM2 (And.intro hf1 (And.intro hsent (And.intro her1 (And.intro her2 (And.intro hsame (And.intro hf0 (show M1.L.length ≤ n1 by omega)))))))))
  have e0 := blk_cell hW2.pr 0
  clear hR2 hb2 hW2 hB2 hf0 hM1 hM2 hl1 hl2 hn hL0 hf1 hll1 hsent her1 her2 hsame hT2 HP1 HNw kn
  go_wp2_with fail
  refine HT2.out.mono ?_
  rintro e w3 ⟨rfl, vs3, hW3, hb3⟩
  have HB3 := Aside0.mk (HB2.out.trans hb3)
  have hT3 := wr_RTake D1 n1 c1 B1 w3 hW3 (HG.out.past HB3.out H0.out) H0.out (HC1.out w3 HB3.out) HW.out.2.2.1 HM.out.2.2.2.2.2.2.2.1 (by have h1 := HW.out.2.2.2.2; show 0 + n1 ≤ _; omega)
  rw [HM.out.1, HM.out.2.2.2.2.1] at hT3
  have HT3 := Aside0.mk hT3
  clear hW3 hb3 hT3 e0 HT2 HB2
  go_wp2_with fail
  refine HT3.out.mono ?_
  rintro e w4 ⟨rfl, us4, hW4, hb4⟩
  have HB4 := Aside0.mk (HB3.out.trans hb4)
  have e0 := blk_cell hW4.pr 0
  have hE4 := wr_Err w4 hW4
  rw [HM.out.2.2.2.2.1] at hE4
  have HE4 := Aside0.mk hE4
  clear hW4 hb4 hE4 HT3 HB3
  go_wp2_with fail
  refine HE4.out.mono ?_
  rintro e w5 ⟨rfl, hW5, hb5⟩
  have HB5 := Aside0.mk (HB4.out.trans hb5)
  have hT5 := wr_Take D2 n2 c2 B2 w5 hW5 (HG.out.past HB5.out H0.out) H0.out (HC2.out w5 HB5.out) HW.out.2.2.2.1 HM.out.2.2.1 (by have h1 := HW.out.2.2.2.2; have h2 := HM.out.2.2.2.2.2.2.2.2; omega)
  rw [HM.out.2.1, HM.out.2.2.2.2.2.1] at hT5
  have HT5 := Aside0.mk hT5
  clear e0
  have e0 := blk_cell hW5.pr 0
  clear hW5 hb5 hT5 HE4 HB4
  go_wp2_with fail
  refine HT5.out.mono ?_
  rintro e w6 ⟨rfl, vs6, hW6, hb6⟩
  have HB6 := Aside0.mk (HB5.out.trans hb6)
  have HW6 := Aside0.mk hW6
  clear e0
  have e0 := blk_cell hW6.pr 0
  clear hW6 hb6 HT5 HB5
  by_cases hz : er1 = 0
  · have j1 : (er1 != 0) = false := by rw [hz]; rfl
    have j1' : decide (er1 = 0) = true := decide_eq_true hz
    clear hz
    have hT9 := wr_RTake D2 n2 c2 B2 w6 HW6.out (HG.out.past HB6.out H0.out) H0.out (HC2.out w6 HB6.out) HW.out.2.2.2.1 HM.out.2.2.1 (by have h1 := HW.out.2.2.2.2; have h2 := HM.out.2.2.2.2.2.2.2.2; omega)
    rw [HM.out.2.1, HM.out.2.2.2.2.2.1] at hT9
    have HT9 := Aside0.mk hT9
    clear hT9 HW6
    go_wp2_with fail
    refine HT9.out.mono ?_
    rintro e w9 ⟨rfl, us9, hW9, hb9⟩
    have HB9 := Aside0.mk (HB6.out.trans hb9)
    clear e0
    have e0 := blk_cell hW9.pr 0
    obtain ⟨hd, hhd⟩ : ∃ hd, M2.heldAny ch = hd := ⟨_, rfl⟩
    obtain ⟨nh, hnh⟩ : ∃ nh, hd.length = nh := ⟨_, rfl⟩
    have hH := wr_Held ch w9 hW9
    rw [hhd, hnh] at hH
    have HH := Aside0.mk hH
    have HHD := Aside0.mk (And.intro hhd hnh)
    clear hW9 hb9 HT9 HB6 hH hhd hnh
    go_wp2_with fail
    refine HH.out.mono ?_
    rintro e w10 ⟨rfl, hW10, hb10⟩
    have HB10 := Aside0.mk (HB9.out.trans hb10)
    clear e0
    have e0 := blk_cell hW10.pr 0
    have hE := wr_Err w10 hW10
    rw [HM.out.2.2.2.2.2.1] at hE
    have HE := Aside0.mk hE
    clear hW10 hb10 HH HB9 hE
    go_wp2_with fail
    refine HE.out.mono ?_
    rintro e w11 ⟨rfl, hW11, hb11⟩
    have HB11 := Aside0.mk (HB10.out.trans hb11)
    clear e0
    have hE := wr_RErr w11 hW11
    rw [HM.out.2.2.2.2.2.1] at hE
    have HE2 := Aside0.mk hE
    clear hW11 hb11 HE HB10 hE
    go_wp2_with fail
    refine HE2.out.mono ?_
    rintro e w12 ⟨rfl, hW12, hb12⟩
    have HB12 := Aside0.mk (HB11.out.trans hb12)
    have e0 := blk_cell hW12.pr 0
    have hR := wr_Recv ch w12 hW12
    rw [HHD.out.1, HHD.out.2] at hR
    have HR := Aside0.mk hR
    clear hW12 hb12 HE2 HB11 hR
    go_wp2_with fail
    refine HR.out.mono ?_
    rintro e w13 ⟨D13, cd13, A13, vs13, rfl, _, hA13, hW13, hb13⟩
    have HB13 := Aside0.mk (HB12.out.trans hb13)
    clear e0
    have e0 := blk_cell hW13.pr 0
    have hR := wr_Recv ch w13 hW13
    rw [hA13, show ([] : List Int).length = 0 from rfl] at hR
    have HR2 := Aside0.mk hR
    clear hW13 hb13 HR HB12 hR hA13
    go_wp2_with fail
    refine HR2.out.mono ?_
    rintro e w14 ⟨D14, cd14, A14, vs14, rfl, hC14, hA14, hW14, hb14⟩
    have HB14 := Aside0.mk (HB13.out.trans hb14)
    have hcv : (convert 32 9 (.slice D14 0 cd14)).run Tryd.prog w14 = .ok (.string ⟨#[]⟩) w14 := conv_C cd14 hC14
    have HA := Aside0.mk (law_awake w14 (HG.out.past HB14.out H0.out) (Nat.lt_of_lt_of_le H0.out HB14.out.size))
    clear e0 hW14 hb14 HR2 HB13 hC14 hA14
    go_wp2_with fail
    refine HA.out.mono ?_
    rintro e w15 ⟨rfl, hb15⟩
    have HB15 := Aside0.mk (HB14.out.trans (hb15.mono HB14.out.size))
    clear hb15
    go_wp2
    go_ret
    exact ⟨rfl, HB15.out⟩
  · have j1 : (er1 != 0) = true := bne_iff_ne.mpr hz
    have j1' : decide (er1 = 0) = false := decide_eq_false hz
    have hMM := HM.out.2.2.2.2.2.2.1 hz
    have hee : er2 = er1 := by rw [← HM.out.2.2.2.2.2.1, ← HM.out.2.2.2.2.1, hMM]
    have hS := wr_Send0 w6 HW6.out (by rw [hMM]; exact HM.out.2.2.1) (by rw [HM.out.2.2.2.2.2.1, hee]; exact hz) (fun c hc => by rw [hMM, HM.out.2.2.2.1]; exact Nat.zero_le _)
    rw [HM.out.2.2.2.2.2.1, hee] at hS
    have HS := Aside0.mk hS
    have HNZ := Aside0.mk hz
    subst hee
    clear hS hz hMM
    go_wp2_with fail
    refine HS.out.mono ?_
    rintro e w7 ⟨rfl, vs7, hW7, hb7⟩
    have HB7 := Aside0.mk (HB6.out.trans hb7)
    clear e0
    have e0 := blk_cell hW7.pr 0
    have HO := Aside0.mk (wr_Out0 w7 hW7 (by rw [HM.out.2.2.2.2.2.1]; exact HNZ.out))
    clear hW7 hb7 HS HB6 HW6
    go_wp2_with fail
    refine HO.out.mono ?_
    rintro e w8 ⟨rfl, hW8, hb8⟩
    have HB6 := Aside0.mk (HB7.out.trans hb8)
    have HW6 := Aside0.mk hW8
    clear e0
    have e0 := blk_cell hW8.pr 0
    clear hW8 hb8 HO HB7
    have hT9 := wr_RTake D2 n2 c2 B2 w8 HW6.out (HG.out.past HB6.out H0.out) H0.out (HC2.out w8 HB6.out) HW.out.2.2.2.1 HM.out.2.2.1 (by have h1 := HW.out.2.2.2.2; have h2 := HM.out.2.2.2.2.2.2.2.2; omega)
    rw [HM.out.2.1, HM.out.2.2.2.2.2.1] at hT9
    have HT9 := Aside0.mk hT9
    clear hT9 HW6
    go_wp2_with fail
    refine HT9.out.mono ?_
    rintro e w9 ⟨rfl, us9, hW9, hb9⟩
    have HB9 := Aside0.mk (HB6.out.trans hb9)
    clear e0
    have e0 := blk_cell hW9.pr 0
    obtain ⟨hd, hhd⟩ : ∃ hd, M2.heldAny ch = hd := ⟨_, rfl⟩
    obtain ⟨nh, hnh⟩ : ∃ nh, hd.length = nh := ⟨_, rfl⟩
    have hH := wr_Held ch w9 hW9
    rw [hhd, hnh] at hH
    have HH := Aside0.mk hH
    have HHD := Aside0.mk (And.intro hhd hnh)
    clear hW9 hb9 HT9 HB6 hH hhd hnh
    go_wp2_with fail
    refine HH.out.mono ?_
    rintro e w10 ⟨rfl, hW10, hb10⟩
    have HB10 := Aside0.mk (HB9.out.trans hb10)
    clear e0
    have e0 := blk_cell hW10.pr 0
    have hE := wr_Err w10 hW10
    rw [HM.out.2.2.2.2.2.1] at hE
    have HE := Aside0.mk hE
    clear hW10 hb10 HH HB9 hE
    go_wp2_with fail
    refine HE.out.mono ?_
    rintro e w11 ⟨rfl, hW11, hb11⟩
    have HB11 := Aside0.mk (HB10.out.trans hb11)
    clear e0
    have hE := wr_RErr w11 hW11
    rw [HM.out.2.2.2.2.2.1] at hE
    have HE2 := Aside0.mk hE
    clear hW11 hb11 HE HB10 hE
    go_wp2_with fail
    refine HE2.out.mono ?_
    rintro e w12 ⟨rfl, hW12, hb12⟩
    have HB12 := Aside0.mk (HB11.out.trans hb12)
    have e0 := blk_cell hW12.pr 0
    have hR := wr_Recv ch w12 hW12
    rw [HHD.out.1, HHD.out.2] at hR
    have HR := Aside0.mk hR
    clear hW12 hb12 HE2 HB11 hR
    go_wp2_with fail
    refine HR.out.mono ?_
    rintro e w13 ⟨D13, cd13, A13, vs13, rfl, _, hA13, hW13, hb13⟩
    have HB13 := Aside0.mk (HB12.out.trans hb13)
    clear e0
    have e0 := blk_cell hW13.pr 0
    have hR := wr_Recv ch w13 hW13
    rw [hA13, show ([] : List Int).length = 0 from rfl] at hR
    have HR2 := Aside0.mk hR
    clear hW13 hb13 HR HB12 hR hA13
    go_wp2_with fail
    refine HR2.out.mono ?_
    rintro e w14 ⟨D14, cd14, A14, vs14, rfl, hC14, hA14, hW14, hb14⟩
    have HB14 := Aside0.mk (HB13.out.trans hb14)
    have hcv : (convert 32 9 (.slice D14 0 cd14)).run Tryd.prog w14 = .ok (.string ⟨#[]⟩) w14 := conv_C cd14 hC14
    have HA := Aside0.mk (law_awake w14 (HG.out.past HB14.out H0.out) (Nat.lt_of_lt_of_le H0.out HB14.out.size))
    clear e0 hW14 hb14 HR2 HB13 hC14 hA14
    go_wp2_with fail
    refine HA.out.mono ?_
    rintro e w15 ⟨rfl, hb15⟩
    have HB15 := Aside0.mk (HB14.out.trans (hb15.mono HB14.out.size))
    clear hb15
    go_wp2
    go_ret
    exact ⟨rfl, HB15.out⟩
open Go.Proofs.YthehhbfiaaadgaaDoor.Num Go.Proofs.YthehhbfiaaadgaaDoor.Pure
def remoralaw31_MuxWrong.f (a0 : Int) (l1 l2 : List Int) (a3 : Int) : Option Bool := some true
def remoralaw31_MuxWrong.Pure : Prop := True
set_option maxHeartbeats 8000000 in
set_option maxRecDepth 100000 in
theorem wrong_off (win : Int) (D1 : Option Addr) (n1 c1 : Nat) (D2 : Option Addr) (n2 c2 : Nat) (ch : Int) (w : World) (hG : GT w) (hn : n1 ≤ 140737488351232 ∧ n2 ≤ 140737488351232) (hoff : win < 1 ∨ win > 3000 ∨ (n1 : Int) + (n2 : Int) > 3000) :
    Calls Tryd.prog 7 #[.int .i64 win, .slice D1 n1 c1, .slice D2 n2 c2, .int .i64 ch] w fun e w' => e = .returned (.bool true) ∧ Below w.heap.size w w' := by
  have HA := Aside0.mk (law_awake w hG (gt_pos hG))
  obtain ⟨s, hs⟩ : ∃ s : Int, s = (n1 : Int) + (n2 : Int) := ⟨_, rfl⟩
  have kadd : wrap64 ((n1 : Int) + (n2 : Int)) = s := by unfold wrap64; omega
  rw [← hs] at hoff
  clear hG hn hs
  by_cases h1 : win < 1
  · have k1 : decide (win < 1) = true := decide_eq_true h1
    clear hoff h1
    go_enter Tryd.func7, Tryd.ntmps7
    go_wp2_with fail
    refine HA.out.mono ?_
    rintro e w2 ⟨rfl, hb2⟩
    have HB2 := Aside0.mk hb2
    clear hb2
    go_wp2
    go_ret
    exact ⟨rfl, HB2.out⟩
  · have k1 : decide (win < 1) = false := decide_eq_false h1
    by_cases h2 : win > 3000
    · have k2 : decide (win > 3000) = true := decide_eq_true h2
      have k2' : decide (3000 < win) = true := k2
      clear hoff h1 h2
      go_enter Tryd.func7, Tryd.ntmps7
      go_wp2_with fail
      refine HA.out.mono ?_
      rintro e w2 ⟨rfl, hb2⟩
      have HB2 := Aside0.mk hb2
      clear hb2
      go_wp2
      go_ret
      exact ⟨rfl, HB2.out⟩
    · have k2 : decide (win > 3000) = false := decide_eq_false h2
      have k2' : decide (3000 < win) = false := k2
      have k3 : decide (s > 3000) = true := decide_eq_true (by omega)
      have k3' : decide (3000 < s) = true := k3
      clear hoff h1 h2
      go_enter Tryd.func7, Tryd.ntmps7
      go_wp2_with fail
      refine HA.out.mono ?_
      rintro e w2 ⟨rfl, hb2⟩
      have HB2 := Aside0.mk hb2
      clear hb2
      go_wp2
      go_ret
      exact ⟨rfl, HB2.out⟩
theorem remoralaw31_MuxWrong.walk (P : remoralaw31_MuxWrong.Pure) (a0 : Int) (a1 : Option Addr) (len1 cap1 : Nat) (z1 : List Int) (a2 : Option Addr) (len2 cap2 : Nat) (z2 : List Int) (a3 : Int) (w : World) (hG : GT w) (w0 : (Lit.int .i64 a0).wf = true)
    (w1 : (a1 = none ∧ len1 = 0 ∧ cap1 = 0 ∧ z1 = []) ∨ ∃ x, a1 = some x ∧ len1 ≤ cap1 ∧ cap1 ≤ maxLen ∧ z1.length = cap1 ∧ (∀ i, i < z1.length → w.cell? (x.add i) = some (.int .u8 (z1.getD i 0))) ∧ ∀ n ∈ z1, (Lit.int .u8 n).wf = true) (y1 : len1 * 1 ≤ 140737488351232)
    (w2 : (a2 = none ∧ len2 = 0 ∧ cap2 = 0 ∧ z2 = []) ∨ ∃ x, a2 = some x ∧ len2 ≤ cap2 ∧ cap2 ≤ maxLen ∧ z2.length = cap2 ∧ (∀ i, i < z2.length → w.cell? (x.add i) = some (.int .u8 (z2.getD i 0))) ∧ ∀ n ∈ z2, (Lit.int .u8 n).wf = true) (y2 : len2 * 1 ≤ 140737488351232) (w3 : (Lit.int .i64 a3).wf = true) :
    Calls Tryd.prog 7 #[.int .i64 a0, .slice a1 len1 cap1, .slice a2 len2 cap2, .int .i64 a3] w fun e w' => e = .returned (.bool true) ∧ Below w.heap.size w w' := by
  obtain ⟨l1, rfl, hr1, hm1, hw1, hc1⟩ := ReadsInt.ofRowC w1
  obtain ⟨l2, rfl, hr2, hm2, hw2, hc2⟩ := ReadsInt.ofRowC w2
  by_cases hoff : a0 < 1 ∨ a0 > 3000 ∨ (l1.length : Int) + (l2.length : Int) > 3000
  · exact wrong_off a0 a1 _ cap1 a2 _ cap2 a3 w hG ⟨by omega, by omega⟩ hoff
  · obtain ⟨win, rfl⟩ : ∃ win : Nat, a0 = win := ⟨a0.toNat, by omega⟩
    exact wrong_main win (by omega) (by omega) a1 _ cap1 l1 a2 _ cap2 l2 a3 w hG (Kd.C_of_reads (d := (0 : Int)) (h1 := fun _ => rfl) hr1) (Kd.C_of_reads (d := (0 : Int)) (h1 := fun _ => rfl) hr2) (byt_of hw1) (byt_of hw2) (by omega)
end Go.Proofs.YthehhbfiaaadgaaDoor.P
