-- Written by a program of the session (wip/tool/mk.py) out of the translation; Lean checks it.
import Derived.Test.YtniboafnkiijcaaDoorPx0
import Derived.Test.YtniboafnkiijcaaDoorPx1
import Derived.Test.YtniboafnkiijcaaDoorPx2
import Derived.Test.YtniboafnkiijcaaDoorPx3
import Derived.Test.YtniboafnkiijcaaDoorPx6
import Derived.Test.YtniboafnkiijcaaDoorPx7
import Derived.Test.YtniboafnkiijcaaDoorPx8
namespace Go.Proofs.YtniboafnkiijcaaDoor.P
open Go.RowKit Go.Proofs.YtniboafnkiijcaaDoorW.PrintWords Go.Proofs.YtniboafnkiijcaaDoorW.PrintLast Go.Proofs.YtniboafnkiijcaaDoorW.PrintMore
attribute [local go_sem] max2_int min2_int max_two min_two max_three min_three max_four min_four   -- for this text's walks alone
set_option linter.unusedVariables false
set_option linter.unusedSimpArgs false

/-! ### remoraref01_PutInt: function 36 -/
def remoraref01_PutInt.f (k : Nat) (l0 : List Int) (a1 : Int) : Option (List Int) := (remoraref01_held.f a1 (-2305843009213693952) 2305843009213693951).bind fun t221 => (if t221 < 0 then ((remoraref01_groups.f k (wrap64 ((wrap64 (2 * (wrap64 (-(wrap64 (t221 + 1)))))) + 1))).bind fun t222 => ((remoraref01_behind.f l0 t222).bind fun t225 => (some t225))) else ((remoraref01_groups.f k (wrap64 (2 * t221))).bind fun t228 => ((remoraref01_behind.f l0 t228).bind fun t231 => (some t231))))
theorem remoraref01_PutInt.mono : ∀ a0 a1 k, LeO (remoraref01_PutInt.f k a0 a1) (remoraref01_PutInt.f (k + 1) a0 a1) := by
  intro a0 a1 k
  unfold remoraref01_PutInt.f
  repeat' first
      | (with_reducible exact remoraref01_groups.mono _ _)
      | (with_reducible exact LeO.refl _)
      | (with_reducible exact LeO.none _)
      | (with_reducible refine LeO.ite ?_ ?_)
      | (with_reducible refine LeO.bind ?_ (fun _ => ?_))
      | exact remoraref01_groups.mono _ _
      | exact LeO.none _
      | refine LeO.ite ?_ ?_
      | refine LeO.bind ?_ (fun _ => ?_)
set_option maxHeartbeats 8000000 in
set_option maxRecDepth 100000 in
theorem remoraref01_PutInt.calls (k : Nat) (A0 : Option Addr) (c0 : Nat) (l0 : List Int) (a1 : Int) (r : List Int) (w : World) (hr0 : Kd.C (Kd.int .u8) w A0 l0.length l0) (hc0 : l0.length ≤ c0) (h : remoraref01_PutInt.f k l0 a1 = some r) :
    Calls Tryd.prog 36 #[.slice A0 l0.length c0, .int .i64 a1] w fun e w' => ∃ v0_ : Value, e = .returned (v0_) ∧ Kd.R (Kd.int .u8) 5 w' w.heap.size (fun _ => True) v0_ r ∧ Below w.heap.size w w' := by
  have HR0 := Aside0.mk hr0
  have HC0 := Aside0.mk hc0
  clear hr0 hc0
  have HB := Aside0.mk (Below.refl w.heap.size w)
  have H : ((remoraref01_held.f a1 (-2305843009213693952) 2305843009213693951).bind fun t221 => (if t221 < 0 then ((remoraref01_groups.f k (wrap64 ((wrap64 (2 * (wrap64 (-(wrap64 (t221 + 1)))))) + 1))).bind fun t222 => ((remoraref01_behind.f l0 t222).bind fun t225 => (some t225))) else ((remoraref01_groups.f k (wrap64 (2 * t221))).bind fun t228 => ((remoraref01_behind.f l0 t228).bind fun t231 => (some t231))))) = some r := h
  clear h
  replace H := Option.bind_eq_some_iff.mp H
  obtain ⟨t221, A30, H⟩ := H
  replace H : (if t221 < 0 then ((remoraref01_groups.f k (wrap64 ((wrap64 (2 * (wrap64 (-(wrap64 (t221 + 1)))))) + 1))).bind fun t222 => ((remoraref01_behind.f l0 t222).bind fun t225 => (some t225))) else ((remoraref01_groups.f k (wrap64 (2 * t221))).bind fun t228 => ((remoraref01_behind.f l0 t228).bind fun t231 => (some t231)))) = some r := H
  have A3 := Aside0.mk A30
  clear A30
  by_cases c4 : t221 < 0
  · rw [if_pos c4] at H
    have c4b0 : decide (t221 < 0) = true := decide_eq_true c4
    clear c4
    replace H := Option.bind_eq_some_iff.mp H
    obtain ⟨t222, A50, H⟩ := H
    replace H : ((remoraref01_behind.f l0 t222).bind fun t225 => (some t225)) = some r := H
    have A5 := Aside0.mk A50
    clear A50
    replace H := Option.bind_eq_some_iff.mp H
    obtain ⟨t225, A60, H⟩ := H
    replace H : (some t225) = some r := H
    have A6 := Aside0.mk A60
    clear A60
    obtain rfl := Option.some.inj H
    go_enter Tryd.func36, Tryd.ntmps36
    go_wp2_with (first | ((with_reducible refine gate_callee (f := 62) rfl ?_); refine goesL_ (some 6) rfl rfl Tryd.func62 (by kernel_rfl) rfl #[.int .i64 a1, .int .i64 (-2305843009213693952), .int .i64 2305843009213693951] rfl (by (try simp only [List.map_toArray, List.map_cons, List.map_nil]); first | done | rfl | (simp only [List.length_drop, List.length_take]; rfl) | (simp; done) | (simp; (repeat' apply And.intro) <;> rfl)) ?_; (with_reducible refine (remoraref01_held.calls a1 (-2305843009213693952) 2305843009213693951 t221 _ A3.out).mono ?_); rintro e w' ⟨rfl, ⟨nd, rfl⟩⟩; refine ⟨_, rfl, ?_⟩) | ((with_reducible refine gate_callee (f := 61) rfl ?_); refine goesL_ (some 15) rfl rfl Tryd.func61 (by kernel_rfl) rfl #[.int .i64 (wrap64 ((wrap64 (2 * (wrap64 (-(wrap64 (t221 + 1)))))) + 1))] rfl (by (try simp only [List.map_toArray, List.map_cons, List.map_nil]); first | done | rfl | (simp only [List.length_drop, List.length_take]; rfl) | (simp; done) | (simp; (repeat' apply And.intro) <;> rfl)) ?_; (with_reducible refine (remoraref01_groups.calls k (wrap64 ((wrap64 (2 * (wrap64 (-(wrap64 (t221 + 1)))))) + 1)) t222 _ A5.out).mono ?_); rintro e w7 ⟨v223, rfl, ho0, hb⟩; refine ⟨_, rfl, ?_⟩; have n0_ := Aside0.mk (Kd.R_lower ho0 (below_size (by repeat (first | (with_reducible first | exact HB.out | apply below_alloc | apply pw_below_drewN | apply below_drew1) | exact HB.out)))); have n1_ := Aside0.mk (below_step (by repeat (first | (with_reducible first | exact HB.out | apply below_alloc | apply pw_below_drewN | apply below_drew1) | exact HB.out)) hb); clear HB; have HO224 := n0_; have HB := n1_; clear n0_ n1_; (try clear hb); (try clear hb2); (try clear hk); (try clear hi); (try clear ho0); obtain ⟨Ao8, co8, eo8⟩ := Kd.R_slice HO224.out; subst eo8) | ((with_reducible refine gate_callee (f := 60) rfl ?_); refine goesL_ (some 16) rfl rfl Tryd.func60 (by kernel_rfl) rfl #[.slice A0 l0.length c0, .slice Ao8 t222.length co8] rfl (by (try simp only [List.map_toArray, List.map_cons, List.map_nil]); first | done | rfl | (simp only [List.length_drop, List.length_take]; rfl) | (simp; done) | (simp; (repeat' apply And.intro) <;> rfl)) ?_; (with_reducible refine (remoraref01_behind.calls _ _ l0 _ _ t222 t225 _ ?side1 ?side2 ?side3 ?side4 A6.out).mono ?_); (case side1 => repeat (first | exact (Kd.C_below HR0.out HB.out) | (with_reducible refine Kd.C_alloc ?_ _) | (with_reducible refine Kd.C_drewN ?_ _) | (with_reducible refine Kd.C_drew ?_))); (case side2 => exact HC0.out); (case side3 => repeat (first | exact (Kd.R_reads' HO224.out).2.2 | (with_reducible refine Kd.C_alloc ?_ _) | (with_reducible refine Kd.C_drewN ?_ _) | (with_reducible refine Kd.C_drew ?_))); (case side4 => exact (Kd.R_reads' HO224.out).2.1); rintro e w9 ⟨v226, rfl, ho0, hb⟩; refine ⟨_, rfl, ?_⟩; have n0_ := Aside0.mk (Kd.R_elder' (by (with_reducible repeat (first | apply Kd.R_alloc | apply Kd.R_drewN | apply Kd.R_drew)); exact HO224.out) (Kd.R_base ho0) hb); have n1_ := Aside0.mk (Kd.R_lower (Kd.R_new' ho0 (Kd.R_lt (by (with_reducible repeat (first | apply Kd.R_alloc | apply Kd.R_drewN | apply Kd.R_drew)); exact HO224.out))) (below_size (by repeat (first | (with_reducible first | exact HB.out | apply below_alloc | apply pw_below_drewN | apply below_drew1) | exact HB.out)))); have n2_ := Aside0.mk (below_step (by repeat (first | (with_reducible first | exact HB.out | apply below_alloc | apply pw_below_drewN | apply below_drew1) | exact HB.out)) hb); clear HO224; clear HB; have HO224 := n0_; have HO227 := n1_; have HB := n2_; clear n0_ n1_ n2_; (try clear hb); (try clear hb2); (try clear hk); (try clear hi); (try clear ho0)))
    go_ret
    exact ⟨_, by first | rfl | (simp [errW_none, errW_some] <;> rfl) | (simp [*, errW_none, errW_some] <;> rfl), by (with_reducible repeat (first | apply Kd.R_alloc | apply Kd.R_drewN | apply Kd.R_drew)); exact Kd.R_mono HO227.out (fun _ hk => trivial), by repeat (first | (with_reducible first | exact HB.out | apply below_alloc | apply pw_below_drewN | apply below_drew1) | exact HB.out)⟩
  · rw [if_neg c4] at H
    have c4b0 : decide (t221 < 0) = false := decide_eq_false c4
    clear c4
    replace H := Option.bind_eq_some_iff.mp H
    obtain ⟨t228, A100, H⟩ := H
    replace H : ((remoraref01_behind.f l0 t228).bind fun t231 => (some t231)) = some r := H
    have A10 := Aside0.mk A100
    clear A100
    replace H := Option.bind_eq_some_iff.mp H
    obtain ⟨t231, A110, H⟩ := H
    replace H : (some t231) = some r := H
    have A11 := Aside0.mk A110
    clear A110
    obtain rfl := Option.some.inj H
    go_enter Tryd.func36, Tryd.ntmps36
    go_wp2_with (first | ((with_reducible refine gate_callee (f := 62) rfl ?_); refine goesL_ (some 6) rfl rfl Tryd.func62 (by kernel_rfl) rfl #[.int .i64 a1, .int .i64 (-2305843009213693952), .int .i64 2305843009213693951] rfl (by (try simp only [List.map_toArray, List.map_cons, List.map_nil]); first | done | rfl | (simp only [List.length_drop, List.length_take]; rfl) | (simp; done) | (simp; (repeat' apply And.intro) <;> rfl)) ?_; (with_reducible refine (remoraref01_held.calls a1 (-2305843009213693952) 2305843009213693951 t221 _ A3.out).mono ?_); rintro e w' ⟨rfl, ⟨nd, rfl⟩⟩; refine ⟨_, rfl, ?_⟩) | ((with_reducible refine gate_callee (f := 61) rfl ?_); refine goesL_ (some 20) rfl rfl Tryd.func61 (by kernel_rfl) rfl #[.int .i64 (wrap64 (2 * t221))] rfl (by (try simp only [List.map_toArray, List.map_cons, List.map_nil]); first | done | rfl | (simp only [List.length_drop, List.length_take]; rfl) | (simp; done) | (simp; (repeat' apply And.intro) <;> rfl)) ?_; (with_reducible refine (remoraref01_groups.calls k (wrap64 (2 * t221)) t228 _ A10.out).mono ?_); rintro e w12 ⟨v229, rfl, ho0, hb⟩; refine ⟨_, rfl, ?_⟩; have n0_ := Aside0.mk (Kd.R_lower ho0 (below_size (by repeat (first | (with_reducible first | exact HB.out | apply below_alloc | apply pw_below_drewN | apply below_drew1) | exact HB.out)))); have n1_ := Aside0.mk (below_step (by repeat (first | (with_reducible first | exact HB.out | apply below_alloc | apply pw_below_drewN | apply below_drew1) | exact HB.out)) hb); clear HB; have HO230 := n0_; have HB := n1_; clear n0_ n1_; (try clear hb); (try clear hb2); (try clear hk); (try clear hi); (try clear ho0); obtain ⟨Ao13, co13, eo13⟩ := Kd.R_slice HO230.out; subst eo13) | ((with_reducible refine gate_callee (f := 60) rfl ?_); refine goesL_ (some 21) rfl rfl Tryd.func60 (by kernel_rfl) rfl #[.slice A0 l0.length c0, .slice Ao13 t228.length co13] rfl (by (try simp only [List.map_toArray, List.map_cons, List.map_nil]); first | done | rfl | (simp only [List.length_drop, List.length_take]; rfl) | (simp; done) | (simp; (repeat' apply And.intro) <;> rfl)) ?_; (with_reducible refine (remoraref01_behind.calls _ _ l0 _ _ t228 t231 _ ?side1 ?side2 ?side3 ?side4 A11.out).mono ?_); (case side1 => repeat (first | exact (Kd.C_below HR0.out HB.out) | (with_reducible refine Kd.C_alloc ?_ _) | (with_reducible refine Kd.C_drewN ?_ _) | (with_reducible refine Kd.C_drew ?_))); (case side2 => exact HC0.out); (case side3 => repeat (first | exact (Kd.R_reads' HO230.out).2.2 | (with_reducible refine Kd.C_alloc ?_ _) | (with_reducible refine Kd.C_drewN ?_ _) | (with_reducible refine Kd.C_drew ?_))); (case side4 => exact (Kd.R_reads' HO230.out).2.1); rintro e w14 ⟨v232, rfl, ho0, hb⟩; refine ⟨_, rfl, ?_⟩; have n0_ := Aside0.mk (Kd.R_elder' (by (with_reducible repeat (first | apply Kd.R_alloc | apply Kd.R_drewN | apply Kd.R_drew)); exact HO230.out) (Kd.R_base ho0) hb); have n1_ := Aside0.mk (Kd.R_lower (Kd.R_new' ho0 (Kd.R_lt (by (with_reducible repeat (first | apply Kd.R_alloc | apply Kd.R_drewN | apply Kd.R_drew)); exact HO230.out))) (below_size (by repeat (first | (with_reducible first | exact HB.out | apply below_alloc | apply pw_below_drewN | apply below_drew1) | exact HB.out)))); have n2_ := Aside0.mk (below_step (by repeat (first | (with_reducible first | exact HB.out | apply below_alloc | apply pw_below_drewN | apply below_drew1) | exact HB.out)) hb); clear HO230; clear HB; have HO230 := n0_; have HO233 := n1_; have HB := n2_; clear n0_ n1_ n2_; (try clear hb); (try clear hb2); (try clear hk); (try clear hi); (try clear ho0)))
    go_ret
    exact ⟨_, by first | rfl | (simp [errW_none, errW_some] <;> rfl) | (simp [*, errW_none, errW_some] <;> rfl), by (with_reducible repeat (first | apply Kd.R_alloc | apply Kd.R_drewN | apply Kd.R_drew)); exact Kd.R_mono HO233.out (fun _ hk => trivial), by repeat (first | (with_reducible first | exact HB.out | apply below_alloc | apply pw_below_drewN | apply below_drew1) | exact HB.out)⟩

/-! ### remoraref33_Ledger_Bytes: function 14, a contract of my own -/
def refLine (k : Nat) (b : List Int) (x : Ln) : Option (List Int) :=
  (remoraref01_PutText.f k b x.path).bind fun b1 => (remoraref01_Put.f k b1 x.ino).bind fun b2 => (remoraref01_Put.f k b2 x.size).bind fun b3 => (remoraref01_PutInt.f k b3 x.sec).bind fun b4 => (remoraref01_Put.f k b4 x.nano).bind fun b5 =>
    if b5.length + x.sum.size ≤ 140737488355328 then some (b5 ++ bytesOf x.sum) else none
def refLines (k : Nat) : List Int → List Ln → Option (List Int)
  | b, [] => some b
  | b, x :: S => (refLine k b x).bind fun b' => refLines k b' S
def refBytesF (k : Nat) (S : List Ln) : Option (List Int) := (remoraref01_Put.f k [] S.length).bind fun b => (refLines k b S).bind fun r => remoraref02_Seal.f k r
theorem refLine_some {k : Nat} {b r : List Int} {x : Ln} (h : refLine k b x = some r) : ∃ b1 b2 b3 b4 b5, remoraref01_PutText.f k b x.path = some b1 ∧ remoraref01_Put.f k b1 x.ino = some b2 ∧ remoraref01_Put.f k b2 x.size = some b3 ∧ remoraref01_PutInt.f k b3 x.sec = some b4 ∧ remoraref01_Put.f k b4 x.nano = some b5 ∧ b5.length + x.sum.size ≤ 140737488355328 ∧ b5 ++ bytesOf x.sum = r := by
  unfold refLine at h
  obtain ⟨b1, h1, h⟩ := Option.bind_eq_some_iff.1 h
  obtain ⟨b2, h2, h⟩ := Option.bind_eq_some_iff.1 h
  obtain ⟨b3, h3, h⟩ := Option.bind_eq_some_iff.1 h
  obtain ⟨b4, h4, h⟩ := Option.bind_eq_some_iff.1 h
  obtain ⟨b5, h5, h⟩ := Option.bind_eq_some_iff.1 h
  split at h
  · exact ⟨b1, b2, b3, b4, b5, h1, h2, h3, h4, h5, by assumption, Option.some.inj h⟩
  · cases h
set_option maxHeartbeats 16000000 in
set_option maxRecDepth 20000 in
theorem ref_Bytes.at_ (k b0 p : Nat) (room : Int) (v : Value) (S : List Ln) (r : List Int) (w : World) (h : Rl b0 p room v S w) (hf : refBytesF k S = some r) :
    Calls Tryd.prog 14 #[.pointer (some ⟨p, 0, none⟩)] w fun e w' => ∃ v', e = .returned v' ∧ Kd.R (Kd.int .u8) 5 w' w.heap.size (fun _ => True) v' r ∧ Below w.heap.size w w' := by
  obtain ⟨l0, h0, hf⟩ := Option.bind_eq_some_iff.1 hf
  obtain ⟨l1, h1, hf⟩ := Option.bind_eq_some_iff.1 hf
  have G0 := Aside0.mk h0
  have H1 := Aside0.mk h1
  have HF := Aside0.mk hf
  have HL := Aside0.mk h
  obtain ⟨A, c, rfl, hc, hC⟩ := Kd.R_reads h.hR
  obtain ⟨m, hm⟩ : ∃ m, m = S.length := ⟨_, rfl⟩
  have hmp : (S.map ofL).length = m := by rw [hm]; exact map_len S
  rw [hmp] at hC hc h HL
  rw [← hm] at G0
  have HM := Aside0.mk (And.intro hm hmp)
  have HC := Aside0.mk hC
  have q1 := (rl_cells h.hP).2
  have HH := Aside0.mk (remoraref01_Put.calls k none 0 [] (m : Int) l0 w (Kd.C_nil _ _) (Nat.le_refl _) G0.out)
  clear h hf h0 h1 hC hc hm hmp
  go_enter Tryd.func14, Tryd.ntmps14
  go_wp2_with fail
  refine HH.out.mono ?_
  rintro e w1 ⟨v0, rfl, hR0, hb0⟩
  have HBB := Aside0.mk hb0
  have HR0 := Aside0.mk hR0
  have HL1 := Aside0.mk (HL.out.below hb0)
  clear hR0 hb0 HH q1
  go_wp2
  go_loopg [3, 4, 5] m (fun g v3 v4 v5 w' => ∃ (i : Nat) (b : List Int), g = m - i ∧ v4 = .int .i64 i ∧ Aside0 (i ≤ m) ∧ Aside0 (Kd.R (Kd.int .u8) 5 w' w.heap.size (fun _ => True) v3 b) ∧ Aside0 (refLines k b (S.drop i) = some l1) ∧ Aside0 (Below w.heap.size w w'))
  case atStart => exact ⟨0, l0, rfl, rfl, ⟨Nat.zero_le _⟩, HR0, H1, HBB⟩
  case round =>
    obtain ⟨i, b0_, rfl, rfl, HI, HR, HF1, HBW⟩ := hrel
    have HLw := Aside0.mk (HL.out.below HBW.out)
    have q1 := (rl_cells HLw.out.hP).2
    by_cases c1 : i < m
    rotate_left
    · have e1 : decide ((i : Int) < (m : Int)) = false := decide_eq_false (by omega)
      have e1' : decide (i < m) = false := decide_eq_false c1
      have e1n : (i < m) = False := eq_false c1
      have e1i : ((i : Int) < (m : Int)) = False := eq_false (by omega)
      have hF1 := HF1.out
      rw [List.drop_eq_nil_of_le (by have := HM.out.1; omega)] at hF1
      obtain rfl : b0_ = l1 := Option.some.inj hF1
      obtain ⟨A3, c3, rfl, hc3, hC3⟩ := Kd.R_reads HR.out
      have HSe := Aside0.mk (remoraref02_Seal.calls k (fun k_ => some k_ = (.slice A3 b0_.length c3 : Value).ownBlock) A3 c3 b0_ r wr (Kd.R_V (Kd.R_tight rfl HR.out)) HF.out)
      clear c1 hF1 hc3 hC3 HF1
      go_wp2_with fail
      refine HSe.out.mono ?_
      rintro e w9 ⟨v9, rfl, hR9, hb9⟩
      have HR9 := Aside0.mk (Kd.R_mono (Kd.R_lower hR9 HBW.out.size) (fun _ _ => trivial))
      have HB9 := Aside0.mk (ld_step HBW.out hb9)
      clear hR9 hb9 HSe
      go_wp2
      go_ret
      exact ⟨_, rfl, HR9.out, HB9.out⟩
    have e1 : decide ((i : Int) < (m : Int)) = true := decide_eq_true (by omega)
    have e1' : decide (i < m) = true := decide_eq_true c1
    have e1n : (i < m) = True := eq_true c1
    have e1i : ((i : Int) < (m : Int)) = True := eq_true (by omega)
    have hi0 : (0 ≤ (i : Int)) = True := eq_true (by omega)
    have hadd : wrap64 ((i : Int) + 1) = ((i + 1 : Nat) : Int) := by have := HM.out.1; have := HL.out.hl; unfold wrap64; omega
    obtain ⟨x, hx⟩ : ∃ x, S[i]? = some x := ⟨_, List.getElem?_eq_getElem (show i < S.length by have := HM.out.1; omega)⟩
    have hF1 := HF1.out
    rw [List.drop_eq_getElem_cons (show i < S.length by have := HM.out.1; omega), show S[i]'(by have := HM.out.1; omega) = x from Option.some.inj ((List.getElem?_eq_getElem _).symm.trans hx)] at hF1
    obtain ⟨b6, hl1, hF2⟩ := Option.bind_eq_some_iff.1 hF1
    obtain ⟨b1, b2, b3, b4, b5, g1, g2, g3, g4, g5, g6, g7⟩ := refLine_some hl1
    have G1 := Aside0.mk g1
    have G2 := Aside0.mk g2
    have G3 := Aside0.mk g3
    have G4 := Aside0.mk g4
    have G5 := Aside0.mk g5
    have G6 := Aside0.mk g6
    have G7 := Aside0.mk g7
    have HF2 := Aside0.mk hF2
    have HX := Aside0.mk hx
    have C1 := Aside0.mk c1
    clear hF1 hl1 hF2 g1 g2 g3 g4 g5 g6 g7 HF1
    obtain ⟨ad, y, rfl, hy, d0, d1, d2, d3, d4, d5⟩ := line_at (Kd.C_below HC.out HBW.out) i c1 (by have := HM.out; omega)
    rw [hx] at hy
    obtain rfl := Option.some.inj hy
    clear hy hx c1
    obtain ⟨gx, hgx⟩ : ∃ gx, wr.heap.size = gx := ⟨_, rfl⟩
    obtain ⟨w2, hw2⟩ : ∃ w2, wr.alloc (.cells #[.string x.path, .int .i64 x.ino, .int .i64 x.size, .int .i64 x.sec, .int .i64 x.nano, .string x.sum] 71) = w2 := ⟨_, rfl⟩
    have HX2 : Aside0 (w2.heap[gx]? = some (.cells #[.string x.path, .int .i64 x.ino, .int .i64 x.size, .int .i64 x.sec, .int .i64 x.nano, .string x.sum] 71 (0, 0))) := ⟨by rw [← hw2, ← hgx]; exact blk_new wr _⟩
    have HB2 : Aside0 (Below wr.heap.size wr w2) := ⟨by rw [← hw2]; exact below_alloc (Below.refl _ _) _⟩
    have HBW2 := Aside0.mk (ld_step HBW.out HB2.out)
    have HRb := Aside0.mk (Kd.R_below HR.out HB2.out)
    obtain ⟨A0, c0, rfl, hc0, hC0⟩ := Kd.R_reads HRb.out
    have HSW2 : Aside0 (w.heap.size ≤ w2.heap.size) := ⟨HBW2.out.size⟩
    have HC0 := Aside0.mk (Kd.C_drew hC0)
    have HL0 := Aside0.mk hc0
    clear hc0 hC0
    go_wp2_with fail
    have HXd := Aside0.mk (show w2.drew.heap[gx]? = some (.cells #[.string x.path, .int .i64 x.ino, .int .i64 x.size, .int .i64 x.sec, .int .i64 x.nano, .string x.sum] 71 (0, 0)) from HX2.out)
    have HBWd : Aside0 (Below w.heap.size w w2.drew) := ⟨below_drew HBW2.out⟩
    have HSWd : Aside0 (w.heap.size ≤ w2.drew.heap.size) := HSW2
    refine start_ (n := 11) (S := fun w' => w'.cell? ⟨gx, 0, none⟩ = some (.string x.path) ∧ w'.cell? ⟨gx, 1, none⟩ = some (.int .i64 x.ino) ∧ w'.cell? ⟨gx, 2, none⟩ = some (.int .i64 x.size)) (ds := []) #[false, false, false, false, false, false, false, false, false, false, false] (by kernel_rfl) rfl rfl ⟨(lx_cells (x := x) HXd.out).1, (lx_cells (x := x) HXd.out).2.1, (lx_cells (x := x) HXd.out).2.2.1⟩ (fun hHeld => ?_)
    refine pure_ (i := 0) (N := some 28) (v := ?_) (a' := ?_) #[true, false, false, false, false, false, false, false, false, false, false] rfl rfl (by kernel_rfl) (fun _ _ _ h => h) (Or.inl ⟨by rfl, ?_⟩) ?_ ?_
    rotate_left
    · intro w'
      go_simp
      with_reducible rfl
    rotate_left
    · simp only [Act.put, List.setIfInBounds_toArray, List.set_cons_zero, List.set_cons_succ, i64_w, i32_w]
      rfl
    refine pure_ (i := 1) (N := some 29) (v := ?_) (a' := ?_) #[true, true, false, false, false, false, false, false, false, false, false] rfl rfl (by kernel_rfl) (fun _ _ _ h => h) (Or.inl ⟨by rfl, ?_⟩) ?_ ?_
    rotate_left
    · intro w'
      go_simp
      with_reducible rfl
    rotate_left
    · simp only [Act.put, List.setIfInBounds_toArray, List.set_cons_zero, List.set_cons_succ, i64_w, i32_w]
      rfl
    refine pure_ (i := 4) (N := some 32) (v := ?_) (a' := ?_) #[true, true, false, false, true, false, false, false, false, false, false] rfl rfl (by kernel_rfl) (fun _ _ _ h => h) (Or.inl ⟨by rfl, ?_⟩) ?_ ?_
    rotate_left
    · intro w'
      go_simp
      with_reducible rfl
    rotate_left
    · simp only [Act.put, List.setIfInBounds_toArray, List.set_cons_zero, List.set_cons_succ, i64_w, i32_w]
      rfl
    refine pure_ (i := 7) (N := some 35) (v := ?_) (a' := ?_) #[true, true, false, false, true, false, false, true, false, false, false] rfl rfl (by kernel_rfl) (fun _ _ _ h => h) (Or.inl ⟨by rfl, ?_⟩) ?_ ?_
    rotate_left
    · intro w'
      go_simp
      with_reducible rfl
    rotate_left
    · simp only [Act.put, List.setIfInBounds_toArray, List.set_cons_zero, List.set_cons_succ, i64_w, i32_w]
      rfl
    refine take_ (i := 2) (N := some 30) (v := ?_) (a' := ?_) #[true, true, true, false, true, false, false, true, false, false, false] rfl rfl (by kernel_rfl) (fun _ _ _ h => h) (Or.inl ⟨by rfl, ?_⟩) hHeld ?_ ?_
    rotate_left
    · rintro w' ⟨s0, s1, s2⟩
      go_simp
      with_reducible rfl
    rotate_left
    · simp only [Act.put, List.setIfInBounds_toArray, List.set_cons_zero, List.set_cons_succ, i64_w, i32_w]
      rfl
    refine take_ (i := 5) (N := some 33) (v := ?_) (a' := ?_) #[true, true, true, false, true, true, false, true, false, false, false] rfl rfl (by kernel_rfl) (fun _ _ _ h => h) (Or.inl ⟨by rfl, ?_⟩) hHeld ?_ ?_
    rotate_left
    · rintro w' ⟨s0, s1, s2⟩
      go_simp
      with_reducible rfl
    rotate_left
    · simp only [Act.put, List.setIfInBounds_toArray, List.set_cons_zero, List.set_cons_succ, i64_w, i32_w]
      rfl
    refine take_ (i := 8) (N := some 36) (v := ?_) (a' := ?_) #[true, true, true, false, true, true, false, true, true, false, false] rfl rfl (by kernel_rfl) (fun _ _ _ h => h) (Or.inl ⟨by rfl, ?_⟩) hHeld ?_ ?_
    rotate_left
    · rintro w' ⟨s0, s1, s2⟩
      go_simp
      with_reducible rfl
    rotate_left
    · simp only [Act.put, List.setIfInBounds_toArray, List.set_cons_zero, List.set_cons_succ, i64_w, i32_w]
      rfl
    refine one_ (i := 3) (N := some 31) #[true, true, true, true, true, true, false, true, true, false, false] rfl rfl (by kernel_rfl) (by decide) (fun K hK => ?_)
    refine goes_ Tryd.func35 (by kernel_rfl) rfl #[.slice A0 b0_.length c0, .string x.path] (by rfl) rfl rfl (by simp only [List.map_toArray, List.map_cons, List.map_nil]; rfl) ?_
    with_reducible refine (remoraref01_PutText.calls k A0 c0 b0_ (x.path) b1 w2.drew (HC0.out) (HL0.out) G1.out).mono ?_
    rintro e W1 ⟨v1, rfl, hR1, hb1⟩
    refine ⟨_, rfl, ?_⟩
    have HX1 := Aside0.mk (blk_below (w := w2.drew) HXd.out hb1)
    have HBW1 := Aside0.mk (ld_step HBWd.out (show Below (w2.drew).heap.size (w2.drew) W1 from hb1))
    have HSW1 : Aside0 (w.heap.size ≤ W1.heap.size) := ⟨by have := HBW1.out.size; exact this⟩
    have HR1 := Aside0.mk (Kd.R_lower hR1 HSWd.out)
    obtain ⟨A1, c1, rfl, hcq, hCq⟩ := Kd.R_reads hR1
    have HC1 := Aside0.mk hCq
    have HL1 := Aside0.mk hcq
    clear hR1 hb1 hcq hCq
    refine hK.out _ _ ⟨(lx_cells (x := x) HX1.out).1, (lx_cells (x := x) HX1.out).2.1, (lx_cells (x := x) HX1.out).2.2.1⟩ (fun hHeld => ?_)
    clear hK K
    refine norm_ (a' := ?_) ?_ ?_
    rotate_left
    · show Act.put _ (some 31) _ = _
      simp only [Act.put, List.setIfInBounds_toArray, List.set_cons_zero, List.set_cons_succ, i64_w, i32_w]
      rfl
    refine one_ (i := 6) (N := some 34) #[true, true, true, true, true, true, true, true, true, false, false] rfl rfl (by kernel_rfl) (by decide) (fun K hK => ?_)
    refine goes_ Tryd.func34 (by kernel_rfl) rfl #[.slice A1 b1.length c1, .int .i64 x.ino] (by rfl) rfl rfl (by simp only [List.map_toArray, List.map_cons, List.map_nil]; rfl) ?_
    with_reducible refine (remoraref01_Put.calls k A1 c1 b1 (x.ino) b2 W1 (HC1.out) (HL1.out) G2.out).mono ?_
    rintro e W2 ⟨v2, rfl, hR2, hb2⟩
    refine ⟨_, rfl, ?_⟩
    have HX2 := Aside0.mk (blk_below (w := W1) HX1.out hb2)
    have HBW2 := Aside0.mk (ld_step HBW1.out (show Below (W1).heap.size (W1) W2 from hb2))
    have HSW2 : Aside0 (w.heap.size ≤ W2.heap.size) := ⟨by have := HBW2.out.size; exact this⟩
    have HR2 := Aside0.mk (Kd.R_lower hR2 HSW1.out)
    obtain ⟨A2, c2, rfl, hcq, hCq⟩ := Kd.R_reads hR2
    have HC2 := Aside0.mk hCq
    have HL2 := Aside0.mk hcq
    clear hR2 hb2 hcq hCq
    refine hK.out _ _ ⟨(lx_cells (x := x) HX2.out).1, (lx_cells (x := x) HX2.out).2.1, (lx_cells (x := x) HX2.out).2.2.1⟩ (fun hHeld => ?_)
    clear hK K
    refine norm_ (a' := ?_) ?_ ?_
    rotate_left
    · show Act.put _ (some 34) _ = _
      simp only [Act.put, List.setIfInBounds_toArray, List.set_cons_zero, List.set_cons_succ, i64_w, i32_w]
      rfl
    refine one_ (i := 9) (N := some 37) #[true, true, true, true, true, true, true, true, true, true, false] rfl rfl (by kernel_rfl) (by decide) (fun K hK => ?_)
    refine goes_ Tryd.func34 (by kernel_rfl) rfl #[.slice A2 b2.length c2, .int .i64 x.size] (by rfl) rfl rfl (by simp only [List.map_toArray, List.map_cons, List.map_nil]; rfl) ?_
    with_reducible refine (remoraref01_Put.calls k A2 c2 b2 (x.size) b3 W2 (HC2.out) (HL2.out) G3.out).mono ?_
    rintro e W3 ⟨v3, rfl, hR3, hb3⟩
    refine ⟨_, rfl, ?_⟩
    have HX3 := Aside0.mk (blk_below (w := W2) HX2.out hb3)
    have HBW3 := Aside0.mk (ld_step HBW2.out (show Below (W2).heap.size (W2) W3 from hb3))
    have HSW3 : Aside0 (w.heap.size ≤ W3.heap.size) := ⟨by have := HBW3.out.size; exact this⟩
    have HR3 := Aside0.mk (Kd.R_lower hR3 HSW2.out)
    obtain ⟨A3, c3, rfl, hcq, hCq⟩ := Kd.R_reads hR3
    have HC3 := Aside0.mk hCq
    have HL3 := Aside0.mk hcq
    clear hR3 hb3 hcq hCq
    refine hK.out _ _ ⟨(lx_cells (x := x) HX3.out).1, (lx_cells (x := x) HX3.out).2.1, (lx_cells (x := x) HX3.out).2.2.1⟩ (fun hHeld => ?_)
    clear hK K
    refine norm_ (a' := ?_) ?_ ?_
    rotate_left
    · show Act.put _ (some 37) _ = _
      simp only [Act.put, List.setIfInBounds_toArray, List.set_cons_zero, List.set_cons_succ, i64_w, i32_w]
      rfl
    refine pure_ (i := 10) (N := some 3) (v := ?_) (a' := ?_) #[true, true, true, true, true, true, true, true, true, true, true] rfl rfl (by kernel_rfl) (fun _ _ _ h => h) (Or.inl ⟨by rfl, ?_⟩) ?_ ?_
    rotate_left
    · intro w'
      go_simp
      with_reducible rfl
    rotate_left
    · simp only [Act.put, List.setIfInBounds_toArray, List.set_cons_zero, List.set_cons_succ, i64_w, i32_w]
      rfl
    refine done_ (by kernel_rfl) ?_
    clear hHeld
    go_wp2_with fail
    have HC3d := Aside0.mk (Kd.C_drew HC3.out)
    have HX3d := Aside0.mk (show W3.drew.heap[gx]? = some (.cells #[.string x.path, .int .i64 x.ino, .int .i64 x.size, .int .i64 x.sec, .int .i64 x.nano, .string x.sum] 71 (0, 0)) from HX3.out)
    have HBW3d : Aside0 (Below w.heap.size w W3.drew) := ⟨below_drew HBW3.out⟩
    have HSW3d : Aside0 (w.heap.size ≤ W3.drew.heap.size) := HSW3
    refine start_ (n := 11) (S := fun w' => w'.cell? ⟨gx, 3, none⟩ = some (.int .i64 x.sec) ∧ w'.cell? ⟨gx, 4, none⟩ = some (.int .i64 x.nano) ∧ w'.cell? ⟨gx, 5, none⟩ = some (.string x.sum)) (ds := [9]) #[false, false, false, false, false, false, false, false, false, false, false] (by kernel_rfl) rfl rfl ⟨(lx_cells (x := x) HX3d.out).2.2.2.1, (lx_cells (x := x) HX3d.out).2.2.2.2.1, (lx_cells (x := x) HX3d.out).2.2.2.2.2⟩ (fun hHeld => ?_)
    refine pure_ (i := 0) (N := some 38) (v := ?_) (a' := ?_) #[true, false, false, false, false, false, false, false, false, false, false] rfl rfl (by kernel_rfl) (fun _ _ _ h => h) (Or.inl ⟨by rfl, ?_⟩) ?_ ?_
    rotate_left
    · intro w'
      go_simp
      with_reducible rfl
    rotate_left
    · simp only [Act.put, List.setIfInBounds_toArray, List.set_cons_zero, List.set_cons_succ, i64_w, i32_w]
      rfl
    refine pure_ (i := 1) (N := some 39) (v := ?_) (a' := ?_) #[true, true, false, false, false, false, false, false, false, false, false] rfl rfl (by kernel_rfl) (fun _ _ _ h => h) (Or.inl ⟨by rfl, ?_⟩) ?_ ?_
    rotate_left
    · intro w'
      go_simp
      with_reducible rfl
    rotate_left
    · simp only [Act.put, List.setIfInBounds_toArray, List.set_cons_zero, List.set_cons_succ, i64_w, i32_w]
      rfl
    refine pure_ (i := 4) (N := some 42) (v := ?_) (a' := ?_) #[true, true, false, false, true, false, false, false, false, false, false] rfl rfl (by kernel_rfl) (fun _ _ _ h => h) (Or.inl ⟨by rfl, ?_⟩) ?_ ?_
    rotate_left
    · intro w'
      go_simp
      with_reducible rfl
    rotate_left
    · simp only [Act.put, List.setIfInBounds_toArray, List.set_cons_zero, List.set_cons_succ, i64_w, i32_w]
      rfl
    refine pure_ (i := 7) (N := some 45) (v := ?_) (a' := ?_) #[true, true, false, false, true, false, false, true, false, false, false] rfl rfl (by kernel_rfl) (fun _ _ _ h => h) (Or.inl ⟨by rfl, ?_⟩) ?_ ?_
    rotate_left
    · intro w'
      go_simp
      with_reducible rfl
    rotate_left
    · simp only [Act.put, List.setIfInBounds_toArray, List.set_cons_zero, List.set_cons_succ, i64_w, i32_w]
      rfl
    refine take_ (i := 2) (N := some 40) (v := ?_) (a' := ?_) #[true, true, true, false, true, false, false, true, false, false, false] rfl rfl (by kernel_rfl) (fun _ _ _ h => h) (Or.inl ⟨by rfl, ?_⟩) hHeld ?_ ?_
    rotate_left
    · rintro w' ⟨s0, s1, s2⟩
      go_simp
      with_reducible rfl
    rotate_left
    · simp only [Act.put, List.setIfInBounds_toArray, List.set_cons_zero, List.set_cons_succ, i64_w, i32_w]
      rfl
    refine take_ (i := 5) (N := some 43) (v := ?_) (a' := ?_) #[true, true, true, false, true, true, false, true, false, false, false] rfl rfl (by kernel_rfl) (fun _ _ _ h => h) (Or.inl ⟨by rfl, ?_⟩) hHeld ?_ ?_
    rotate_left
    · rintro w' ⟨s0, s1, s2⟩
      go_simp
      with_reducible rfl
    rotate_left
    · simp only [Act.put, List.setIfInBounds_toArray, List.set_cons_zero, List.set_cons_succ, i64_w, i32_w]
      rfl
    refine take_ (i := 8) (N := some 46) (v := ?_) (a' := ?_) #[true, true, true, false, true, true, false, true, true, false, false] rfl rfl (by kernel_rfl) (fun _ _ _ h => h) (Or.inl ⟨by rfl, ?_⟩) hHeld ?_ ?_
    rotate_left
    · rintro w' ⟨s0, s1, s2⟩
      go_simp
      with_reducible rfl
    rotate_left
    · simp only [Act.put, List.setIfInBounds_toArray, List.set_cons_zero, List.set_cons_succ, i64_w, i32_w]
      rfl
    refine one_ (i := 3) (N := some 41) #[true, true, true, true, true, true, false, true, true, false, false] rfl rfl (by kernel_rfl) (by decide) (fun K hK => ?_)
    refine goes_ Tryd.func36 (by kernel_rfl) rfl #[.slice A3 b3.length c3, .int .i64 x.sec] (by rfl) rfl rfl (by simp only [List.map_toArray, List.map_cons, List.map_nil]; rfl) ?_
    with_reducible refine (remoraref01_PutInt.calls k A3 c3 b3 (x.sec) b4 W3.drew (HC3d.out) (HL3.out) G4.out).mono ?_
    rintro e W4 ⟨v4, rfl, hR4, hb4⟩
    refine ⟨_, rfl, ?_⟩
    have HX4 := Aside0.mk (blk_below (w := W3.drew) HX3d.out hb4)
    have HBW4 := Aside0.mk (ld_step HBW3d.out (show Below (W3.drew).heap.size (W3.drew) W4 from hb4))
    have HSW4 : Aside0 (w.heap.size ≤ W4.heap.size) := ⟨by have := HBW4.out.size; exact this⟩
    have HR4 := Aside0.mk (Kd.R_lower hR4 HSW3d.out)
    obtain ⟨A4, c4, rfl, hcq, hCq⟩ := Kd.R_reads hR4
    have HC4 := Aside0.mk hCq
    have HL4 := Aside0.mk hcq
    clear hR4 hb4 hcq hCq
    refine hK.out _ _ ⟨(lx_cells (x := x) HX4.out).2.2.2.1, (lx_cells (x := x) HX4.out).2.2.2.2.1, (lx_cells (x := x) HX4.out).2.2.2.2.2⟩ (fun hHeld => ?_)
    clear hK K
    refine norm_ (a' := ?_) ?_ ?_
    rotate_left
    · show Act.put _ (some 41) _ = _
      simp only [Act.put, List.setIfInBounds_toArray, List.set_cons_zero, List.set_cons_succ, i64_w, i32_w]
      rfl
    refine one_ (i := 6) (N := some 44) #[true, true, true, true, true, true, true, true, true, false, false] rfl rfl (by kernel_rfl) (by decide) (fun K hK => ?_)
    refine goes_ Tryd.func34 (by kernel_rfl) rfl #[.slice A4 b4.length c4, .int .i64 x.nano] (by rfl) rfl rfl (by simp only [List.map_toArray, List.map_cons, List.map_nil]; rfl) ?_
    with_reducible refine (remoraref01_Put.calls k A4 c4 b4 (x.nano) b5 W4 (HC4.out) (HL4.out) G5.out).mono ?_
    rintro e W5 ⟨v5, rfl, hR5, hb5⟩
    refine ⟨_, rfl, ?_⟩
    have HX5 := Aside0.mk (blk_below (w := W4) HX4.out hb5)
    have HBW5 := Aside0.mk (ld_step HBW4.out (show Below (W4).heap.size (W4) W5 from hb5))
    have HSW5 : Aside0 (w.heap.size ≤ W5.heap.size) := ⟨by have := HBW5.out.size; exact this⟩
    have HR5 := Aside0.mk (Kd.R_lower hR5 HSW4.out)
    obtain ⟨A5, c5, rfl, hcq, hCq⟩ := Kd.R_reads hR5
    have HC5 := Aside0.mk hCq
    have HL5 := Aside0.mk hcq
    clear hR5 hb5 hcq hCq
    refine hK.out _ _ ⟨(lx_cells (x := x) HX5.out).2.2.2.1, (lx_cells (x := x) HX5.out).2.2.2.2.1, (lx_cells (x := x) HX5.out).2.2.2.2.2⟩ (fun hHeld => ?_)
    clear hK K
    refine norm_ (a' := ?_) ?_ ?_
    rotate_left
    · show Act.put _ (some 44) _ = _
      simp only [Act.put, List.setIfInBounds_toArray, List.set_cons_zero, List.set_cons_succ, i64_w, i32_w]
      rfl
    refine last_ (i := 9) (N := some 47) #[true, true, true, true, true, true, true, true, true, true, false] rfl rfl (by kernel_rfl) (by decide) (fun K hK => ?_)
    refine step_append_str (w0 := w) w.heap.size (by rfl) (.tmp 44) (.tmp 46) 41 9 5 rfl Tryd.underlying41 Tryd.underlying9 info_u8 (.slice A5 b5.length c5) b5 x.sum rfl rfl HR5.out HBW5.out HSW5.out G6.out ?_
    intro v6 w6 ho6 hb6
    rw [G7.out] at ho6
    have HR6 := Aside0.mk ho6
    have HBW6 := Aside0.mk hb6
    clear ho6 hb6
    refine hK.out _ _ ?_
    clear hK K
    refine norm_ (a' := ?_) ?_ ?_
    rotate_left
    · show Act.put _ (some 47) _ = _
      simp only [Act.put, List.setIfInBounds_toArray, List.set_cons_zero, List.set_cons_succ, i64_w, i32_w]
      rfl
    refine pure_ (i := 10) (N := some 3) (v := ?_) (a' := ?_) #[true, true, true, true, true, true, true, true, true, true, true] rfl rfl (by kernel_rfl) (fun _ _ _ h => h) (Or.inl ⟨by rfl, ?_⟩) ?_ ?_
    rotate_left
    · intro w'
      go_simp
      with_reducible rfl
    rotate_left
    · simp only [Act.put, List.setIfInBounds_toArray, List.set_cons_zero, List.set_cons_succ, i64_w, i32_w]
      rfl
    refine done_ (by kernel_rfl) ?_
    clear hHeld
    go_wp2
    go_roundg (m - (i + 1))
    case measure => have := C1.out; omega
    case rel => exact ⟨i + 1, b6, rfl, by first | rfl | rw [hadd], ⟨by have := C1.out; omega⟩, HR6, HF2, HBW6⟩
theorem cv_step {P : Program} {o : Oper} {a : Act} {W : World} {x : Operand} {s d : TypeId} {u z : Value} (ho : o.op = .convert s d x) (hx : a.eval x = u) (hr : (convert s d u).run P W = .ok z W) : (execOp a.eval o).run P W = .ok (.value z) W := by
  unfold execOp
  simp only [ho, hx, hr, Sem.run_bind, Sem.run_pure, Result.andThen_ok]
theorem C_str33 {w : World} {A : Option Addr} {n c : Nat} {l : List Int} (hC : Kd.C (Kd.int .u8) w A n l) : (convert 41 9 (.slice A n c)).run Tryd.prog w = .ok (.string (strOfNums l)) w := by
  have e : l.length = n := hC.1
  subst e
  exact Kd.C_string (P := Tryd.prog) (A := A) (c := c) Tryd.underlying41 Tryd.underlying5 Tryd.underlying9 hC
theorem lastS_mem {x y : Ln} {S : List Ln} (h : y ∈ lastS x S) : y = x ∨ y ∈ S := by
  unfold lastS at h
  rcases List.mem_append.1 h with h | h
  · exact .inr (List.mem_filter.1 h).1
  · exact .inl (List.mem_singleton.1 h)
theorem tellE_may {q : ByteArray} {s : St} {sm : ByteArray} (h : tellE q s sm = 0) : mayF (tellX q s sm) = 0 := by
  unfold tellE at h
  split at h
  · omega
  · split at h
    · exact h
    · omega
theorem doF_valid (room : Int) (S : List Ln) (a : Ac) (h : ∀ x ∈ S, mayF x = 0) : ∀ x ∈ (doF room S a).S, mayF x = 0 := by
  unfold doF
  split
  · cases hx : askX S a.path a.st with
    | none => exact h
    | some x =>
      intro y hy
      rcases lastS_mem hy with rfl | hy
      · exact h _ (askX_mem hx).1
      · exact h y hy
  · split
    · show ∀ x ∈ (if tellE a.path a.st a.sum = 0 then capS room (lastS (tellX a.path a.st a.sum) S) else S), mayF x = 0
      split
      · rename_i hz
        intro y hy
        have hy2 : y ∈ lastS (tellX a.path a.st a.sum) S := by
          unfold capS at hy
          split at hy
          · exact List.mem_of_mem_tail hy
          · exact hy
        rcases lastS_mem hy2 with rfl | hy
        · exact tellE_may hz
        · exact h y hy
      · exact h
    · split
      · intro y hy
        exact h y (List.mem_filter.1 hy).1
      · exact h


/-! ### remoralaw33_LedgerBytes: function 3, a contract of my own -/
def remoralaw33_LedgerBytes.f (a0 : Int) (l1 : List S39) : Option Bool := some true
def remoralaw33_LedgerBytes.Pure : Prop := ∀ S : List Ln, (∀ x ∈ S, mayF x = 0) → S.length ≤ 4096 → ∃ k r, ledBytesF k S = some r ∧ refBytesF k S = some r
set_option maxHeartbeats 16000000 in
set_option maxRecDepth 100000 in
theorem bytes_main (P : remoralaw33_LedgerBytes.Pure) (room : Int) (A : Option Addr) (c : Nat) (l : List S39) (w : World) (hG : GT w) (hr : Kd.C k39 w A l.length l) (hc : l.length ≤ c) (hmx : l.length ≤ 2000000000000) :
    Calls Tryd.prog 3 #[.int .i64 room, .slice A l.length c] w fun e w' => e = .returned (.bool true) ∧ Below w.heap.size w w' := by
  obtain ⟨b, hb, hbs⟩ := small_f l hmx
  have HSm := Aside0.mk (fun (w : World) (h : Kd.C k39 w A l.length l) => remoraref33_Small.calls (l.length + 1) A c l b w h hc hb)
  have HBS := Aside0.mk hbs
  have HC := Aside0.mk hr
  have HG := Aside0.mk hG
  have HPu := Aside0.mk P
  obtain ⟨m, hml⟩ : ∃ m, m = l.length := ⟨_, rfl⟩
  rw [← hml] at HC HSm ⊢
  have HML := Aside0.mk hml
  clear hr hc hb hbs hmx hml hG P
  go_enter Tryd.func3, Tryd.ntmps3
  cases hroom : (decide (room < 1) || decide (room > 4096)) with
  | true =>
    have HNb := Aside0.mk (led_New.bad room w hroom)
    have HRb := Aside0.mk (ref_New.bad room w hroom)
    clear hroom
    go_wp2_with fail
    refine HNb.out.mono ?_
    rintro e w2 ⟨rfl, rfl⟩
    go_wp2_with fail
    refine HRb.out.mono ?_
    rintro e w3 ⟨rfl, rfl⟩
    clear HNb HRb
    go_wp2_with fail
    refine (HSm.out w3 HC.out).mono ?_
    rintro e w1 ⟨rfl, hd⟩
    have HB1 := Aside0.mk hd.below
    clear hd HSm
    cases b
    all_goals
      go_wp2_with fail
      refine (law_awake.at_ w1).mono ?_
      rintro e w4 ⟨rfl, hb3⟩
      have HB3 := Aside0.mk (ld_step HB1.out hb3)
      clear hb3
      go_wp2
      go_ret
      exact ⟨rfl, HB3.out⟩
  | false =>
  have HRoom : Aside0 (1 ≤ room ∧ room ≤ 4096) := ⟨by
    obtain ⟨h1, h2⟩ := Bool.or_eq_false_iff.1 hroom
    have h1 := of_decide_eq_false h1
    have h2 := of_decide_eq_false h2
    omega⟩
  have HNb := Aside0.mk (led_New.at_ room w hroom)
  have HRb := Aside0.mk (fun w2 => ref_New.at_ room w2 hroom)
  clear hroom
  go_wp2_with fail
  refine HNb.out.mono ?_
  rintro e w2 ⟨p, mb, rfl, hL, hB⟩
  have HL2 := Aside0.mk hL
  have HB2 := Aside0.mk hB
  clear hL hB
  go_wp2_with fail
  refine (HRb.out w2).mono ?_
  rintro e w3 ⟨q, rfl, hR, hB⟩
  have HL3 := Aside0.mk (HL2.out.below hB)
  have HR3 := Aside0.mk hR
  have HB3 := Aside0.mk (ld_step HB2.out hB)
  have HP0 : Aside0 (w.heap.size ≤ p ∧ w.heap.size ≤ mb ∧ w.heap.size ≤ q) := ⟨by have h1 := HL2.out.hp0; have h2 := HL2.out.hm0; have h3 := hR.hp0; have h5 := HB2.out.size; exact ⟨by omega, by omega, by omega⟩⟩
  clear hR hB HNb HRb HL2
  obtain ⟨b1, hb1⟩ : ∃ b1, b1 = w.heap.size := ⟨_, rfl⟩
  obtain ⟨b2, hb2⟩ : ∃ b2, b2 = w2.heap.size := ⟨_, rfl⟩
  rw [← hb1] at HL3
  rw [← hb2] at HR3
  clear hb1 hb2
  go_wp2_with fail
  refine (HSm.out w3 (Kd.C_below HC.out HB3.out)).mono ?_
  rintro e w4 ⟨rfl, hd⟩
  have HL4 := Aside0.mk (HL3.out.below hd.below)
  have HR4 := Aside0.mk (HR3.out.below hd.below)
  have HB4 := Aside0.mk (ld_step HB3.out hd.below)
  clear hd HSm HL3 HR3 HB3
  cases hbb : b with
  | false =>
    go_wp2_with fail
    refine (law_awake.at_ w4).mono ?_
    rintro e w5 ⟨rfl, hb3⟩
    have HB5 := Aside0.mk (ld_step HB4.out hb3)
    clear hb3
    go_wp2
    go_ret
    exact ⟨rfl, HB5.out⟩
  | true =>
  have HSZ := Aside0.mk (HBS.out hbb)
  clear HBS
  subst hbb
  go_wp2
  go_loopg [9] m (fun g v9 w' => ∃ (i n : Nat) (v u : Value) (S : List Ln), g = m - i ∧ v9 = .int .i64 i ∧ Aside0 (i ≤ m ∧ n ≤ i ∧ (S.length : Int) ≤ room ∧ ∀ x ∈ S, mayF x = 0) ∧ Aside0 (Lg b1 p mb n room v S w') ∧ Aside0 (Rl b2 q room u S w') ∧ Aside0 (Below w.heap.size w w'))
  case atStart => exact ⟨0, 0, _, _, [], rfl, rfl, ⟨by have := HRoom.out; exact ⟨Nat.zero_le _, Nat.le_refl _, by simp; omega, fun x hx => by cases hx⟩⟩, HL4, HR4, HB4⟩
  case round =>
    obtain ⟨i, n, v, u, S, rfl, rfl, HI, HL, HR, HW⟩ := hrel
    by_cases c1 : i < m
    rotate_left
    · have e1 : decide ((i : Int) < (m : Int)) = false := decide_eq_false (by omega)
      have e1' : decide (i < m) = false := decide_eq_false c1
      obtain ⟨k, r, hk1, hk2⟩ := HPu.out S HI.out.2.2.2 (by have := HI.out; have := HRoom.out; omega)
      have HK := Aside0.mk (And.intro hk1 hk2)
      have HWd := HW
      have hss : ((strOfNums r).toList == (strOfNums r).toList) = true := by simp
      clear c1 hk1 hk2
      go_wp2_with fail
      refine start_ (n := 11) (S := fun w' => True) (ds := []) #[false, false, false, false, false, false, false, false, false, false, false] (by kernel_rfl) rfl rfl trivial (fun hHeld => ?_)
      refine pure_ (i := 0) (N := some 48) (v := ?_) (a' := ?_) #[true, false, false, false, false, false, false, false, false, false, false] rfl rfl (by kernel_rfl) (fun _ _ _ h => h) (Or.inl ⟨by rfl, ?_⟩) ?_ ?_
      rotate_left
      · intro w'
        go_simp
        with_reducible rfl
      rotate_left
      · simp only [Act.put, List.setIfInBounds_toArray, List.set_cons_zero, List.set_cons_succ, i64_w, i32_w]
        rfl
      refine pure_ (i := 3) (N := some 51) (v := ?_) (a' := ?_) #[true, false, false, true, false, false, false, false, false, false, false] rfl rfl (by kernel_rfl) (fun _ _ _ h => h) (Or.inl ⟨by rfl, ?_⟩) ?_ ?_
      rotate_left
      · intro w'
        go_simp
        with_reducible rfl
      rotate_left
      · simp only [Act.put, List.setIfInBounds_toArray, List.set_cons_zero, List.set_cons_succ, i64_w, i32_w]
        rfl
      refine one_ (i := 1) (N := some 49) #[true, true, false, true, false, false, false, false, false, false, false] rfl rfl (by kernel_rfl) (by decide) (fun K hK => ?_)
      refine goes_ Tryd.func13 (by kernel_rfl) rfl #[.pointer (some ⟨p, 0, none⟩)] (by rfl) rfl rfl (by simp only [List.map_toArray, List.map_cons, List.map_nil]; rfl) ?_
      with_reducible refine (led_Bytes.at_ k b1 p mb n room v S r (wr.drew) (HG.out.below (below_drew HWd.out)) (HL.out.below (below_drew (Below.refl _ _))) HK.out.1).mono ?_
      rintro e W1 ⟨va, rfl, hRa, hba⟩
      refine ⟨_, rfl, ?_⟩
      obtain ⟨Aa, ca, rfl, hca, hCa⟩ := Kd.R_reads hRa
      have HCa := Aside0.mk hCa
      have HBW1 := Aside0.mk (ld_step (below_drew HWd.out) hba)
      have HBa := Aside0.mk hba
      clear hRa hca hCa hba
      refine hK.out _ _ trivial (fun hHeld => ?_)
      clear hK K
      refine norm_ (a' := ?_) ?_ ?_
      rotate_left
      · show Act.put _ (some 49) _ = _
        simp only [Act.put, List.setIfInBounds_toArray, List.set_cons_zero, List.set_cons_succ, i64_w, i32_w]
        rfl
      refine join_ (σ := Option Addr × Nat) 5 #[true, true, true, true, true, true, false, false, false, false, false] (fun s => [(50, .string (strOfNums r)), (52, .slice s.1 r.length s.2), (53, .string (strOfNums r))]) (fun s w' => Below W1.heap.size W1 w') ?_ ?_
      rotate_left
      · intro hCont
        refine two_ (i := 2) (j := 4) (Ni := some 50) (Nj := some 52) #[true, true, true, true, false, false, false, false, false, false, false] #[true, true, false, true, true, false, false, false, false, false, false] rfl rfl rfl rfl (by kernel_rfl) (by decide) (by decide) (fun K hK => ?_) (fun K hK => ?_)
        · skip
          refine value_ (w1 := W1) (v := .string (strOfNums r)) (by rfl) rfl (cv_step rfl rfl (C_str33 (HCa.out))) ?_
          refine hK.out _ _ trivial (fun hHeld => ?_)
          clear hK K
          refine norm_ (a' := ?_) ?_ ?_
          rotate_left
          · show Act.put _ (some 50) _ = _
            simp only [Act.put, List.setIfInBounds_toArray, List.set_cons_zero, List.set_cons_succ, i64_w, i32_w]
            rfl
          refine one_ (i := 4) (N := some 52) #[true, true, true, true, true, false, false, false, false, false, false] rfl rfl (by kernel_rfl) (by decide) (fun K hK => ?_)
          refine goes_ Tryd.func14 (by kernel_rfl) rfl #[.pointer (some ⟨q, 0, none⟩)] (by rfl) rfl rfl (by simp only [List.map_toArray, List.map_cons, List.map_nil]; rfl) ?_
          with_reducible refine (ref_Bytes.at_ k b2 q room u S r (W1) ((HR.out.below (below_drew (Below.refl _ _))).below HBa.out) HK.out.2).mono ?_
          rintro e W2 ⟨vb, rfl, hRb, hbb⟩
          refine ⟨_, rfl, ?_⟩
          obtain ⟨Ab, cb, rfl, hcb, hCb⟩ := Kd.R_reads hRb
          have HCb := Aside0.mk hCb
          have HBb := Aside0.mk hbb
          clear hRb hcb hCb hbb
          refine hK.out _ _ trivial (fun hHeld => ?_)
          clear hK K
          refine norm_ (a' := ?_) ?_ ?_
          rotate_left
          · show Act.put _ (some 52) _ = _
            simp only [Act.put, List.setIfInBounds_toArray, List.set_cons_zero, List.set_cons_succ, i64_w, i32_w]
            rfl
          refine one_ (i := 5) (N := some 53) #[true, true, true, true, true, true, false, false, false, false, false] rfl rfl (by kernel_rfl) (by decide) (fun K hK => ?_)
          refine value_ (w1 := W2) (v := .string (strOfNums r)) (by rfl) rfl (cv_step rfl rfl (C_str33 (HCb.out))) ?_
          refine hK.out _ _ trivial (fun hHeld => ?_)
          clear hK K
          refine norm_ (a' := ?_) ?_ ?_
          rotate_left
          · show Act.put _ (some 53) _ = _
            simp only [Act.put, List.setIfInBounds_toArray, List.set_cons_zero, List.set_cons_succ, i64_w, i32_w]
            rfl
          exact norm_ (by simp only [putAll, Act.put, List.setIfInBounds_toArray, List.set_cons_zero, List.set_cons_succ]) (hCont (Ab, cb) _ HBb.out)
        · skip
          refine goes_ Tryd.func14 (by kernel_rfl) rfl #[.pointer (some ⟨q, 0, none⟩)] (by rfl) rfl rfl (by simp only [List.map_toArray, List.map_cons, List.map_nil]; rfl) ?_
          with_reducible refine (ref_Bytes.at_ k b2 q room u S r (W1) ((HR.out.below (below_drew (Below.refl _ _))).below HBa.out) HK.out.2).mono ?_
          rintro e W2 ⟨vb, rfl, hRb, hbb⟩
          refine ⟨_, rfl, ?_⟩
          obtain ⟨Ab, cb, rfl, hcb, hCb⟩ := Kd.R_reads hRb
          have HCb := Aside0.mk hCb
          have HBb := Aside0.mk hbb
          clear hRb hcb hCb hbb
          refine hK.out _ _ trivial (fun hHeld => ?_)
          clear hK K
          refine norm_ (a' := ?_) ?_ ?_
          rotate_left
          · show Act.put _ (some 52) _ = _
            simp only [Act.put, List.setIfInBounds_toArray, List.set_cons_zero, List.set_cons_succ, i64_w, i32_w]
            rfl
          refine two_ (i := 2) (j := 5) (Ni := some 50) (Nj := some 53) #[true, true, true, true, true, false, false, false, false, false, false] #[true, true, false, true, true, true, false, false, false, false, false] rfl rfl rfl rfl (by kernel_rfl) (by decide) (by decide) (fun K hK => ?_) (fun K hK => ?_)
          · skip
            refine value_ (w1 := W2) (v := .string (strOfNums r)) (by rfl) rfl (cv_step rfl rfl (C_str33 (Kd.C_below HCa.out HBb.out))) ?_
            refine hK.out _ _ trivial (fun hHeld => ?_)
            clear hK K
            refine norm_ (a' := ?_) ?_ ?_
            rotate_left
            · show Act.put _ (some 50) _ = _
              simp only [Act.put, List.setIfInBounds_toArray, List.set_cons_zero, List.set_cons_succ, i64_w, i32_w]
              rfl
            refine one_ (i := 5) (N := some 53) #[true, true, true, true, true, true, false, false, false, false, false] rfl rfl (by kernel_rfl) (by decide) (fun K hK => ?_)
            refine value_ (w1 := W2) (v := .string (strOfNums r)) (by rfl) rfl (cv_step rfl rfl (C_str33 (HCb.out))) ?_
            refine hK.out _ _ trivial (fun hHeld => ?_)
            clear hK K
            refine norm_ (a' := ?_) ?_ ?_
            rotate_left
            · show Act.put _ (some 53) _ = _
              simp only [Act.put, List.setIfInBounds_toArray, List.set_cons_zero, List.set_cons_succ, i64_w, i32_w]
              rfl
            exact norm_ (by simp only [putAll, Act.put, List.setIfInBounds_toArray, List.set_cons_zero, List.set_cons_succ]) (hCont (Ab, cb) _ HBb.out)
          · skip
            refine value_ (w1 := W2) (v := .string (strOfNums r)) (by rfl) rfl (cv_step rfl rfl (C_str33 (HCb.out))) ?_
            refine hK.out _ _ trivial (fun hHeld => ?_)
            clear hK K
            refine norm_ (a' := ?_) ?_ ?_
            rotate_left
            · show Act.put _ (some 53) _ = _
              simp only [Act.put, List.setIfInBounds_toArray, List.set_cons_zero, List.set_cons_succ, i64_w, i32_w]
              rfl
            refine one_ (i := 2) (N := some 50) #[true, true, true, true, true, true, false, false, false, false, false] rfl rfl (by kernel_rfl) (by decide) (fun K hK => ?_)
            refine value_ (w1 := W2) (v := .string (strOfNums r)) (by rfl) rfl (cv_step rfl rfl (C_str33 (Kd.C_below HCa.out HBb.out))) ?_
            refine hK.out _ _ trivial (fun hHeld => ?_)
            clear hK K
            refine norm_ (a' := ?_) ?_ ?_
            rotate_left
            · show Act.put _ (some 50) _ = _
              simp only [Act.put, List.setIfInBounds_toArray, List.set_cons_zero, List.set_cons_succ, i64_w, i32_w]
              rfl
            exact norm_ (by simp only [putAll, Act.put, List.setIfInBounds_toArray, List.set_cons_zero, List.set_cons_succ]) (hCont (Ab, cb) _ HBb.out)
      rintro ⟨Ab, cb⟩ W3 hFk
      have HB3 := Aside0.mk (ld_step HBW1.out hFk)
      have hHeld : True := trivial
      clear hFk
      refine norm_ (a' := ?_) ?_ ?_
      rotate_left
      · simp only [putAll, Act.put, List.setIfInBounds_toArray, List.set_cons_zero, List.set_cons_succ]
        rfl
      refine pure_ (i := 6) (N := some 54) (v := ?_) (a' := ?_) #[true, true, true, true, true, true, true, false, false, false, false] rfl rfl (by kernel_rfl) (fun _ _ _ h => h) (Or.inl ⟨by rfl, ?_⟩) ?_ ?_
      rotate_left
      · intro w'
        go_simp
        with_reducible rfl
      rotate_left
      · simp only [Act.put, List.setIfInBounds_toArray, List.set_cons_zero, List.set_cons_succ, i64_w, i32_w]
        rfl
      refine pure_ (i := 7) (N := some 55) (v := ?_) (a' := ?_) #[true, true, true, true, true, true, true, true, false, false, false] rfl rfl (by kernel_rfl) (fun _ _ _ h => h) (Or.inl ⟨by rfl, ?_⟩) ?_ ?_
      rotate_left
      · intro w'
        go_simp
        with_reducible rfl
      rotate_left
      · simp only [Act.put, List.setIfInBounds_toArray, List.set_cons_zero, List.set_cons_succ, i64_w, i32_w]
        rfl
      refine one_ (i := 8) (N := some 56) #[true, true, true, true, true, true, true, true, true, false, false] rfl rfl (by kernel_rfl) (by decide) (fun K hK => ?_)
      refine goes_ Tryd.func10 (by kernel_rfl) rfl #[] (by rfl) rfl rfl (by simp only [List.map_toArray, List.map_nil]) ?_
      with_reducible refine (law_awake.at_ W3).mono ?_
      rintro e W4 ⟨rfl, hb4⟩
      refine ⟨_, rfl, ?_⟩
      have HB4 := Aside0.mk (ld_step HB3.out hb4)
      clear hb4
      refine hK.out _ _ trivial (fun hHeld => ?_)
      clear hK K
      refine norm_ (a' := ?_) ?_ ?_
      rotate_left
      · show Act.put _ (some 56) _ = _
        simp only [Act.put, List.setIfInBounds_toArray, List.set_cons_zero, List.set_cons_succ, i64_w, i32_w]
        rfl
      refine pure_ (i := 9) (N := some 57) (v := ?_) (a' := ?_) #[true, true, true, true, true, true, true, true, true, true, false] rfl rfl (by kernel_rfl) (fun _ _ _ h => h) (Or.inl ⟨by rfl, ?_⟩) ?_ ?_
      rotate_left
      · intro w'
        go_simp
        with_reducible rfl
      rotate_left
      · simp only [Act.put, List.setIfInBounds_toArray, List.set_cons_zero, List.set_cons_succ, i64_w, i32_w]
        rfl
      refine pure_ (i := 10) (N := some 4) (v := ?_) (a' := ?_) #[true, true, true, true, true, true, true, true, true, true, true] rfl rfl (by kernel_rfl) (fun _ _ _ h => h) (Or.inl ⟨by rfl, ?_⟩) ?_ ?_
      rotate_left
      · intro w'
        go_simp
        with_reducible rfl
      rotate_left
      · simp only [Act.put, List.setIfInBounds_toArray, List.set_cons_zero, List.set_cons_succ, i64_w, i32_w]
        rfl
      refine done_ (by kernel_rfl) ?_
      clear hHeld
      go_wp2
      go_ret
      exact ⟨rfl, HB4.out⟩
    have e1 : decide ((i : Int) < (m : Int)) = true := decide_eq_true (by omega)
    have e1' : decide (i < m) = true := decide_eq_true c1
    have e1n : (i < m) = True := eq_true c1
    have e1i : ((i : Int) < (m : Int)) = True := eq_true (by omega)
    have hi0 : (0 ≤ (i : Int)) = True := eq_true (by omega)
    have C1 := Aside0.mk c1
    have haddi : wrap64 ((i : Int) + 1) = ((i + 1 : Nat) : Int) := by have := HML.out; have := HSZ.out.1; unfold wrap64; omega
    clear c1
    obtain ⟨ad, rfl, d0, d1, d2, d3, d4, d5, d6, d7, d8, d9, d10, d11, d12⟩ := act_cells (Kd.C_below HC.out HW.out) i C1.out
    have HX := Aside0.mk (HSZ.out.2 i (by have := C1.out; have := HML.out; omega))
    generalize hrd : rd_T39 l (i : Int) = x at d0 d1 d2 d3 d4 d5 d6 d7 d8 d9 d10 d11 d12 HX
    have HRD := Aside0.mk hrd
    clear hrd
    have hDo := law_Do.at_ b1 p mb n room v S (acOf x) wr HL.out (by have := HX.out; show x.f1.size ≤ 1000000; omega) (by have := HI.out; have := HRoom.out; omega) (by have := HI.out; have := HSZ.out.1; have := HML.out; omega)
    have hRl := doF_len room S (acOf x) HRoom.out.1 HI.out.2.2.1
    have hVa := doF_valid room S (acOf x) HI.out.2.2.2
    obtain ⟨dr, hdr⟩ : ∃ dr, doF room S (acOf x) = dr := ⟨_, rfl⟩
    rw [hdr] at hDo hRl hVa
    unfold acV acC acOf at hDo
    dsimp only at hDo
    have HDo := Aside0.mk hDo
    have HRl := Aside0.mk (And.intro hRl hVa)
    have HDR := Aside0.mk hdr
    have HNS := Aside0.mk HL.out.hN
    have HZ := Aside0.mk HL.out.hz
    clear hDo hRl hdr hVa
    go_wp2_with fail
    refine HDo.out.mono ?_
    rintro e w5 ⟨rfl, v3, hL3, hB3⟩
    have HL5 := Aside0.mk hL3
    have HR5 := Aside0.mk (HR.out.bm hB3 HL.out)
    have HW3 := Aside0.mk (Bm.to hB3 HW.out (Nat.le_refl _) HP0.out.1 HP0.out.2.1)
    clear hL3 hB3 HDo HL HR d0 d1 d2 d3 d4 d5 d6 d7 d8 d9 d10 d11 d12 HW
    obtain ⟨ad3, hadq3, d0, d1, d2, d3, d4, d5, d6, d7, d8, d9, d10, d11, d12⟩ := act_cells (Kd.C_below HC.out HW3.out) i C1.out
    cases hadq3
    rw [HRD.out] at d0 d1 d2 d3 d4 d5 d6 d7 d8 d9 d10 d11 d12
    have hDr := ref_Do.at_ b2 q room u S (acOf x) w5 HR5.out (by have := HX.out; show x.f1.size ≤ 1000000; omega) (by have := HI.out; have := HRoom.out; omega) HNS.out HZ.out (cap_same room S HI.out.2.2.1)
    rw [HDR.out] at hDr
    unfold acV acC acOf at hDr
    dsimp only at hDr
    have HDr := Aside0.mk hDr
    clear hDr
    unfold reV at HDr ⊢
    go_wp2_with fail
    refine HDr.out.mono ?_
    rintro e w6 ⟨rfl, u4, hR4, hB4⟩
    have HR6 := Aside0.mk hR4
    have HL6 := Aside0.mk (HL5.out.bm hB4 HR5.out.hP)
    have HW6 := Aside0.mk (Bm.to hB4 HW3.out (Nat.le_refl _) HP0.out.2.2 HP0.out.2.2)
    clear hR4 hB4 HDr HL5 HR5 d0 d1 d2 d3 d4 d5 d6 d7 d8 d9 d10 d11 d12 HW3
    go_wp2
    go_roundg (m - (i + 1))
    case measure => have := C1.out; omega
    case rel => exact ⟨i + 1, n + 1, v3, u4, dr.S, rfl, by first | rfl | rw [haddi], ⟨by have := C1.out; have := HI.out; have := HRl.out.1; exact ⟨by omega, by omega, by omega, HRl.out.2⟩⟩, HL6, HR6, HW6⟩
theorem remoralaw33_LedgerBytes.walk (P : remoralaw33_LedgerBytes.Pure) (a0 : Int) (a1 : Option Addr) (cap1 : Nat) (l1 : List S39) (w : World) (hG : GT w) (w0 : (Lit.int .i64 a0).wf = true) (hr1 : Kd.C k39 w a1 l1.length l1) (hc1 : l1.length ≤ cap1) (hm1 : l1.length ≤ maxLen) (y1 : l1.length * 128 ≤ 140737488351232) (hw1 : ∀ x ∈ l1, (((Lit.int .i64 x.f0).wf = true) ∧ (x.f1.size ≤ 140737488351232) ∧ ((((Lit.int .i64 x.f2.f0).wf = true) ∧ ((Lit.int .i64 x.f2.f1).wf = true) ∧ ((Lit.int .i64 x.f2.f2).wf = true) ∧ ((Lit.int .i64 x.f2.f3).wf = true) ∧ ((((Lit.int .i64 x.f2.f4.f0).wf = true) ∧ ((Lit.int .i64 x.f2.f4.f1).wf = true) ∧ ((Lit.int .i64 x.f2.f4.f2).wf = true) ∧ ((Lit.int .i64 x.f2.f4.f3).wf = true) ∧ ((Lit.int .i64 x.f2.f4.f4).wf = true))) ∧ (x.f2.f5.size ≤ 140737488351232))) ∧ (x.f3.size ≤ 140737488351232))) :
    Calls Tryd.prog 3 #[.int .i64 a0, .slice a1 l1.length cap1] w fun e w' => e = .returned (.bool true) ∧ Below w.heap.size w w' :=
  bytes_main P a0 a1 cap1 l1 w hG hr1 hc1 (by omega)


end Go.Proofs.YtniboafnkiijcaaDoor.P
