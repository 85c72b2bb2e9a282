-- Written by a program of the session (wip/tool/mk.py) out of the translation; Lean checks it.
import Derived.Test.YtmllikjhflnngaaDoorPx0
import Derived.Test.YtmllikjhflnngaaDoorPx2
import Derived.Test.YtmllikjhflnngaaDoorPx8
import Derived.Test.YtmllikjhflnngaaDoorPx9
import Derived.Test.YtmllikjhflnngaaDoorPx13
import Derived.Test.YtmllikjhflnngaaDoorPx17
namespace Go.Proofs.YtmllikjhflnngaaDoor.P
open Go.RowKit Go.Proofs.YtmllikjhflnngaaDoorW.PrintWords Go.Proofs.YtmllikjhflnngaaDoorW.PrintLast Go.Proofs.YtmllikjhflnngaaDoorW.PrintMore
attribute [local go_sem] max2_int min2_int max_two min_two max_three min_three max_four min_four   -- for this text's walks alone
set_option linter.unusedVariables false
set_option linter.unusedSimpArgs false

/-! ### remoralaw29_FramePieces: function 8, a contract of my own -/
theorem fp_sl {w : World} {b0 : Nat} {ok : Nat → Prop} {v : Value} {l : List Int} {e : Nat} (h : (Kd.int .u8).R e w b0 ok v l) : ∃ A c, v = .slice A l.length c ∧ l.length ≤ c ∧ Kd.C (Kd.int .u8) w A l.length l := by
  obtain ⟨A, c, rfl⟩ := Kd.R_slice h
  obtain ⟨_, h2, h3⟩ := Kd.R_reads' h
  exact ⟨A, c, rfl, h2, h3⟩
theorem fp_info27 : (Tryd.prog.info? 27).map (fun i => (i.zero, i.size, i.bytes)) = some (some (.agg #[.int .i64 0, .slice none 0 0]), 2, 32) := by kernel_rfl
theorem fp_FK {w w5 : World} {x : S27} {A1 : Option Addr} {c1 : Nat} (hl : x.f1.length ≤ c1) (hi : (Kd.int .u8).C w A1 x.f1.length x.f1) (hb : Below w.heap.size w w5) : Kd.FK k27 w5 (fun k => k < w.heap.size) x [.int .i64 x.f0, .slice A1 x.f1.length c1] :=
  fun W' hW => k27_mk W' _ hl ((Kd.C_F (Kd.heap_int .u8) hi) W' (fun k hk hk2 => (hW k hk (Nat.lt_of_lt_of_le hk2 hb.size)).trans (hb.block k hk)))
/-- What the first loop makes: the bytes so far, the frames so far. -/
structure FpSt (w : World) (u v : Value) (a : List Int) (q : List S27) (W : World) : Prop where
  hB : Below w.heap.size w W
  hU : (Kd.int .u8).R 5 W w.heap.size (fun _ => True) u a
  hV : Kd.N k27 27 W w.heap.size (fun k => True ∧ some k ≠ u.ownBlock) v q
theorem FpSt.step {w : World} {u v : Value} {a : List Int} {q : List S27} {W W' : World} (h : FpSt w u v a q W) (hb : Below W.heap.size W W') : FpSt w u v a q W' :=
  ⟨below_step h.hB hb, Kd.R_below h.hU hb, Kd.N_below h.hV hb⟩
/-- What is told of the frames that came in: each one's bytes, or that it has none. -/
def fpMade (k : Nat) (l : List S27) (al : Nat → List Int) (wl : Nat → List S27) : Prop :=
  al 0 = [] ∧ wl 0 = [] ∧ ∀ i : Nat, i < l.length → ∃ (B : List Int) (e : Int), frame_Put.f k (rd_T27 l i).f0 (rd_T27 l i).f1 = some (B, e) ∧ (al i).length + B.length ≤ 1000000 ∧ (wl i).length ≤ 1000 ∧
    ((e = 0 ∧ al (i + 1) = al i ++ B ∧ wl (i + 1) = wl i ++ [rd_T27 l i]) ∨ (e ≠ 0 ∧ al (i + 1) = al i ∧ wl (i + 1) = wl i))
/-- A cut's middle. -/
theorem cut_between {w : World} {A : Option Addr} {N c : Nat} {L : List Int} (a b : Nat) (hC : Kd.C (Kd.int .u8) w A N L) (hab : a ≤ b) (hb : b ≤ N) (hc : N ≤ c) :
    ∃ D : Option Addr, (∀ W : World, (Instr.slice 22 (.slice A N c) (some (.int .i64 (a : Int))) (some (.int .i64 (b : Int))) none).run Tryd.prog W = .ok (.slice D (b - a) (c - a)) W) ∧ Kd.C (Kd.int .u8) w D (b - a) ((L.take b).drop a) ∧ ((L.take b).drop a).length = b - a := by
  have e0 : L.length = N := hC.1
  subst e0
  obtain ⟨i0, hi0, _, hsz0, _⟩ := info_parts info5
  have e1 : (L.take b).length = b := by rw [List.length_take]; omega
  have e2 : ((L.take b).drop a).length = b - a := by rw [List.length_drop, e1]
  refine ⟨if c = a then A else A.map (·.add (a * 1)), fun W => ?_, ?_, e2⟩
  · have := cut_mid (P := Tryd.prog) 22 5 .i64 .i64 Tryd.underlying22 hi0 1 hsz0 A L.length c (a : Int) (b : Int) (by omega) (by omega) (by omega) hc W
    simpa using this
  · have h1 := Kd.C_take hC hb
    have h2 := Kd.C_drop (m := a) (c := c) h1 (by omega) (by omega)
    rw [e2] at h2
    exact h2
/-- What is told of the stream: St a m L: a bytes were fed, m frames came out, L is left. -/
def fpNext (k : Nat) (AL : List Int) (WL : List S27) : Prop := ∃ St : Nat → Nat → List Int → Prop,
  St 0 0 [] ∧ (∀ a b m L, St a m L → a ≤ b → b ≤ AL.length → St b m (L ++ (AL.take b).drop a)) ∧
  (∀ a m L, St a m L → a ≤ AL.length → (∃ c : Nat, m < WL.length ∧ frame_Get.f k L 0 = some ((rd_T27 WL m).f0, (rd_T27 WL m).f1, (c : Int), 0) ∧ c ≤ L.length ∧ St a (m + 1) (L.drop c)) ∨ (frame_Get.f k L 0 = some (0, [], 0, 4) ∧ (a = AL.length → m = WL.length ∧ L = []))) ∧
  (∀ a m L, St a m L → m ≤ WL.length ∧ L.length ≤ AL.length) ∧ AL.length ≤ 70000000 ∧ WL.length ≤ 1000 ∧ (AL.length = 0 → WL.length = 0)
set_option maxHeartbeats 8000000 in
set_option maxRecDepth 100000 in
theorem pieces_true (k : Nat) (A : Option Addr) (c : Nat) (l : List S27) (Z : Option Addr) (cz : Nat) (sz : List Int) (al : Nat → List Int) (wl : Nat → List S27) (w : World) (hG : GT w) (hC : Kd.C k27 w A l.length l) (hc : l.length ≤ c) (hCz : Kd.C (Kd.int .u8) w Z sz.length sz) (hcz : sz.length ≤ cz) (hl60 : l.length ≤ 60) (hsz : ∀ i, 0 ≤ rd sz i ∧ rd sz i ≤ 255) (hm : fpMade k l al wl) (hf : ∀ AL WL, al l.length = AL → wl l.length = WL → fpNext k AL WL)
    (hgr : remoralaw29_great.f k l = some false) :
    Calls Tryd.prog 8 #[.slice A l.length c, .slice Z sz.length cz] w fun e w' => e = .returned (.bool true) ∧ Below w.heap.size w w' := by
  have HG := Aside0.mk hG
  have HC := Aside0.mk hC
  have HZ := Aside0.mk hCz
  have HM := Aside0.mk hm
  have HF := Aside0.mk hf
  have HSZ := Aside0.mk hsz
  have HGR := Aside0.mk hgr
  have HL60 := Aside0.mk hl60
  clear hG hC hCz hm hgr hf hsz
  go_enter Tryd.func8, Tryd.ntmps8
  go_wp2_with fail
  refine (remoralaw29_great.calls k A c l false w HC.out hc HGR.out).mono ?_
  rintro e w1 ⟨rfl, hd⟩
  have HS0 := Aside0.mk (show FpSt w (.slice none 0 0) (.slice none 0 0) (al 0) (wl 0) w1 from ⟨hd.below, by rw [HM.out.1]; exact Kd.R_nil _ _ _ _ _, by rw [HM.out.2.1]; exact Kd.N_nil _ _ _ _ _⟩)
  clear hd
  go_wp2_with fail
  go_loopg [5, 6, 7] l.length (fun g v5 v6 v7 w' => ∃ i : Nat, i ≤ l.length ∧ g = l.length - i ∧ v7 = .int .i64 i ∧ Aside0 (FpSt w v5 v6 (al i) (wl i) w'))
  case atStart => exact ⟨0, Nat.zero_le _, rfl, rfl, HS0⟩
  case round =>
    obtain ⟨i, hi, rfl, rfl, HS⟩ := hrel
    obtain ⟨A6, c6, rfl⟩ := Kd.N_slice HS.out.hV
    by_cases hlt : i < l.length
    · have e1 : decide ((i : Int) < (l.length : Int)) = true := decide_eq_true (by omega)
      have e2 : decide (i < l.length) = true := decide_eq_true hlt
      have hq0 : (0 ≤ (i : Int)) = True := eq_true (by omega)
      have hq1 : ((i : Int) < (l.length : Int)) = True := eq_true (by omega)
      have hq2 : (i < l.length) = True := eq_true hlt
      have HLT := Aside0.mk hlt
      obtain ⟨ad, A1, c1, rfl, hx0w, hx1w, hl1, hi1⟩ := at_T27 HC.out (i : Int) (by omega) (by omega)
      obtain ⟨B, e, hput, hlen, hwl, hcase⟩ := HM.out.2.2 i hlt
      have HPUT := Aside0.mk hput
      have HLEN := Aside0.mk hlen
      have HWL := Aside0.mk hwl
      have HI1 := Aside0.mk hi1
      have HL1 := Aside0.mk hl1
      rw [Int.toNat_natCast] at hx0w hx1w
      have HX0 := Aside0.mk hx0w
      have HX1 := Aside0.mk hx1w
      have hx0 := pw_cell_below HS.out.hB HX0.out
      have hx1 := pw_cell_below HS.out.hB HX1.out
      clear hlt hput hlen hwl hi1 hx0w hx1w
      go_wp2_with fail
      refine (frame_Put.calls k _ A1 c1 _ B e wr (HG.out.below HS.out.hB) (Kd.C_below HI1.out HS.out.hB) HL1.out HPUT.out).mono ?_
      rintro r w2 ⟨v, rfl, hR, hb⟩
      obtain ⟨B1, c2, rfl, hc2, hCB⟩ := fp_sl hR
      have HS2 := Aside0.mk (HS.out.step hb)
      have HCB := Aside0.mk hCB
      have HC2 := Aside0.mk hc2
      clear hb hR hCB hc2 hx0 hx1 HS
      rcases hcase with ⟨rfl, ha, hw⟩ | ⟨he, ha, hw⟩
      · have HA := Aside0.mk ha
        have HW := Aside0.mk hw
        clear ha hw
        go_wp2_with (first
          | ((with_reducible refine gate_builtin (b := .append) (xs := #[.tmp 37, .tmp 38]) rfl ?_); (try (refine gate_guard (by rfl) ?_; dsimp only)); at_builtin; refine Kd.R_append_rows (Kd.int .u8) (w0 := w) w.heap.size rfl (.tmp 37) (.tmp 38) 22 5 (.int .u8 0) 1 rfl Tryd.underlying22 info5 rfl (by decide) (by omega) u5 (al i) B B1 B.length c2 (fun _ => True) (fun _ => False) rfl rfl ?aO ?aR (fun _ _ h => h) (fun _ h => h.elim) ?aF ?aB ?aS ?aL ?_; (case aR => exact HCB.out); (case aB => exact HS2.out.hB); (case aF => exact (fun _ _ => trivial)); (case aO => exact HS2.out.hU); (case aS => exact HS2.out.hB.size); (case aL => have := HLEN.out; omega); intro v5 w5 ho hb5 hg hat; have HU5 := Aside0.mk ho; have HB5 := Aside0.mk hb5; have HV5 := Aside0.mk (Kd.N_after HS2.out.hV hg hat); have hx0 := pw_cell_below hb5 HX0.out; have hx1 := pw_cell_below hb5 HX1.out; clear ho hb5 hg hat)
          | ((with_reducible refine gate_builtin (b := .append) (xs := #[.tmp 40, .tmp 45]) rfl ?_); (try (refine gate_guard (by rfl) ?_; dsimp only)); at_builtin; refine Kd.N_append k27 (w0 := w) w.heap.size rfl (.tmp 40) (.tmp 45) 58 27 (.agg #[.int .i64 0, .slice none 0 0]) 32 rfl Tryd.underlying58 fp_info27 rfl (by decide) (by omega) (.slice A6 (wl i).length c6) (wl i) (rd_T27 l i) [.int .i64 (rd_T27 l i).f0, .slice A1 (rd_T27 l i).f1.length c1] (fun k => True ∧ some k ≠ v5.ownBlock) (fun k => k < w.heap.size) rfl rfl ?bP ?bK ?bF ?bO ?bB ?bS ?bL ?_; (case bP => exact fp_FK HL1.out HI1.out HB5.out); (case bB => exact HB5.out); (case bF => exact fun k hk => ⟨trivial, fun e_ => by have := Kd.R_lt HU5.out k e_.symm; omega⟩); (case bK => exact fun k hk => ⟨⟨trivial, fun e_ => by have := Kd.R_base HU5.out k e_.symm; omega⟩, fun e_ => by have := Kd.N_base HV5.out k e_.symm; omega⟩); (case bO => exact HV5.out); (case bS => exact HB5.out.size); (case bL => have := HWL.out; omega); intro v6 w6 ho hb6 hg hat; have HS6 := Aside0.mk (show FpSt w v5 v6 (al (i + 1)) (wl (i + 1)) w6 from ⟨hb6, by rw [HA.out]; exact Kd.R_grown2 HU5.out rfl hg (fun k hk => (HV5.out.1 k hk).2), by rw [HW.out]; exact ho⟩); clear ho hb6 hg hat))
        go_roundg (l.length - (i + 1))
        case measure => have := HLT.out; omega
        case rel => exact ⟨i + 1, by have := HLT.out; omega, rfl, by simp, HS6⟩
      · have he1 : (e == 0) = false := by simpa using he
        have he2 : (e != 0) = true := by simpa using he
        have HS3 := Aside0.mk (show FpSt w u5 (.slice A6 (wl i).length c6) (al (i + 1)) (wl (i + 1)) w2 by rw [ha, hw]; exact HS2.out)
        clear he ha hw
        go_wp2_with fail
        go_roundg (l.length - (i + 1))
        case measure => have := HLT.out; omega
        case rel => exact ⟨i + 1, by have := HLT.out; omega, rfl, by simp, HS3⟩
    · obtain rfl : i = l.length := by omega
      have e1 : decide ((l.length : Int) < (l.length : Int)) = false := decide_eq_false (by omega)
      have e2 : decide (l.length < l.length) = false := decide_eq_false (by omega)
      clear hlt hi
      obtain ⟨AU, cu, rfl, hcu, hCU⟩ := fp_sl HS.out.hU
      obtain ⟨_, hc6, hCV⟩ := Kd.N_reads' HS.out.hV
      have HCU := Aside0.mk hCU
      have HCV := Aside0.mk hCV
      have HBW := Aside0.mk HS.out.hB
      clear hCU hCV HS
      obtain ⟨AL, hAL⟩ : ∃ AL, al l.length = AL := ⟨_, rfl⟩
      obtain ⟨WL, hWL⟩ : ∃ WL, wl l.length = WL := ⟨_, rfl⟩
      rw [hAL] at HCU hcu ⊢
      rw [hWL] at HCV hc6 ⊢
      obtain ⟨St, h1, h2, h3, h4, h5, h6, h7⟩ := HF.out AL WL hAL hWL
      have H1 := Aside0.mk h1
      have H2 := Aside0.mk h2
      have H3 := Aside0.mk h3
      have H4 := Aside0.mk h4
      clear h1 h2 h3 h4 hAL hWL
      obtain ⟨N, hN⟩ : ∃ N, AL.length = N := ⟨_, rfl⟩
      obtain ⟨M, hM⟩ : ∃ M, WL.length = M := ⟨_, rfl⟩
      have HN := Aside0.mk hN
      have HMW := Aside0.mk hM
      rw [hN] at HCU hcu h5 ⊢
      rw [hM] at HCV hc6 h6 ⊢
      have H5 := Aside0.mk h5
      have H6 := Aside0.mk h6
      have H7 := Aside0.mk h7
      clear hN hM h5 h6 h7
      go_wp2_with fail
      refine (frame_New.made _).mono ?_
      rintro r w2 ⟨rfl, rfl⟩
      have HS2 := Aside0.mk (Strm.new wr)
      have HP2 := Aside0.mk (below_alloc (Below.refl _ wr) (.cells #[.slice none 0 0, .int .i64 0] 74))
      obtain ⟨p, hp⟩ : ∃ p, wr.heap.size = p := ⟨_, rfl⟩
      rw [hp] at HS2
      rw [hp]
      generalize wr.alloc (.cells #[.slice none 0 0, .int .i64 0] 74) = w2 at HS2 HP2 ⊢

      have Hp := Aside0.mk hp
      clear hp
      generalize wr = wr0 at *
      have HP2' := Aside0.mk (show Below p wr0 w2 from Hp.out ▸ HP2.out)
      clear HP2
      go_wp2_with fail
      go_loopg [11, 12, 13] N (fun g v11 v12 v13 w' => ∃ (a m q : Nat) (L : List Int) (v : Value), a ≤ N ∧ g = N - a ∧ v11 = .int .i64 m ∧ v12 = .int .i64 a ∧ v13 = .int .i64 q ∧ q ≤ a ∧ Aside0 (St a m L) ∧ Aside0 (Strm (fun k => p < k) p p L 0 v w') ∧ Aside0 (Below p wr0 w') ∧ Aside0 (a = N → m = M ∧ L = []))
      case atStart => exact ⟨0, 0, 0, [], .slice none 0 0, by omega, rfl, rfl, rfl, rfl, Nat.le_refl _, H1, HS2, HP2', ⟨fun e => ⟨by have h1 := H7.out; have h2 := HN.out; have h3 := HMW.out; omega, rfl⟩⟩⟩
      case round =>
        clear HS2 HP2'
        obtain ⟨a, m, q, L, v, haN, rfl, rfl, rfl, rfl, hqa, HST, HS, HP, HFU⟩ := hrel
        have HQA := Aside0.mk hqa
        by_cases hlt : a < N
        · have x1 : decide ((a : Int) < (N : Int)) = true := decide_eq_true (by omega)
          have x2 : decide (a < N) = true := decide_eq_true hlt
          have hN5 := H5.out
          have hqb : q ≤ 70000000 := by omega
          have haB : a ≤ 70000000 := by omega
          by_cases hsz : sz = []
          · have z1 : decide (0 < (sz.length : Int)) = false := by rw [hsz]; rfl
            have z2 : decide (0 < sz.length) = false := by rw [hsz]; rfl
            have hab : a ≤ N := by omega
            have hbN : N ≤ N := by omega
            have HAB := Aside0.mk (show a < N by omega)
            have HBN := Aside0.mk hbN
            have y1 : ((a : Int) + (N : Int) < (N : Int)) = False := eq_false (by omega)
            have y2 : (a + N < N) = False := eq_false (by omega)
            obtain ⟨D, hcut, hCD, hdl⟩ := cut_between a N HCU.out hab hbN hcu
            have HCD := Aside0.mk hCD
            have HDL := Aside0.mk hdl
            clear hCD hdl hqa haN hlt hsz
            go_wp2_with fail
            have HST2 := Aside0.mk (H2.out a N m L HST.out hab (by have := HN.out; omega))
            refine (st_Feed.at_ _ p p L ((AL.take N).drop a) v D (N - a) _ _ HDL.out HS.out (fun k hk => Nat.ne_of_gt hk) (fun k hk => Nat.lt_of_lt_of_le (blk_lt HS.out.hP) hk) (Nat.le_refl _) (Kd.C_below HCD.out (Hp.out ▸ HP.out)) (by have h1 := (H4.out a m L HST.out).2; have h2 := H5.out; have h3 := HN.out; have h4 := HDL.out; omega)).mono ?_
            rintro r w5 ⟨rfl, hb5, hk5, v5, hS5⟩
            have HS5 := Aside0.mk hS5
            have HP5 := Aside0.mk (HP.out.trans hb5)
            generalize L ++ (AL.take N).drop a = L5 at HST2 HS5
            clear hb5 hk5 hS5 HS HP HST HCD HDL hcut
            go_wp2_with fail
            go_loopg [11] (M + 1 - m) (fun g v11 w' => ∃ (m : Nat) (L : List Int) (v : Value), m ≤ M ∧ g = M + 1 - m ∧ v11 = .int .i64 m ∧ Aside0 (St N m L) ∧ Aside0 (Strm (fun k => p < k) p p L 0 v w') ∧ Aside0 (Below p wr0 w'))
            case atStart => exact ⟨m, L5, v5, by have h1 := (H4.out N m L5 HST2.out).1; have h2 := HMW.out; omega, rfl, rfl, HST2, HS5, HP5⟩
            case round =>
              clear HST2 HS5 HP5
              obtain ⟨m, L, v, hmM, rfl, rfl, HST, HS, HP⟩ := hrel
              have m1 : decide ((m : Int) ≤ (M : Int)) = true := decide_eq_true (by omega)
              have m2 : decide (m ≤ M) = true := decide_eq_true hmM
              have HMM := Aside0.mk hmM
              clear hmM
              go_wp2_with fail
              have HGT := Aside0.mk ((HG.out.below HBW.out).below (Hp.out ▸ HP.out))
              rcases H3.out N m L HST.out (by have := HN.out; omega) with ⟨cc, hm, hget, hcL, hst⟩ | ⟨hget, hfull⟩
              · have HGET := Aside0.mk hget
                have HST' := Aside0.mk hst
                have hmlt : m < M := by have := HMW.out; omega
                have HML := Aside0.mk hmlt
                refine (st_Next.got _ p p k L (rd_T27 WL m).f0 (rd_T27 WL m).f1 (cc : Int) v _ HGT.out HS.out HGET.out (by omega) (by omega) (Nat.le_refl _) (fun k hk => Nat.ne_of_gt hk) (fun k hk => Nat.lt_of_le_of_lt (Nat.le_of_lt (blk_lt HS.out.hP)) hk) (Nat.le_of_lt (blk_lt HS.out.hP)) (by have h1 := (H4.out N m L HST.out).2; have h2 := H5.out; have h3 := HN.out; omega)).mono ?_
                rintro r w6 ⟨v1, v6, rfl, hR6, hb6, hk6, hS6⟩
                rw [Int.toNat_natCast] at hS6
                obtain ⟨A6b, c6b, rfl, hc6b, hC6b⟩ := fp_sl hR6
                obtain ⟨wd, Aw, cw, rfl, hw0, hw1, hlw, hiw⟩ := at_T27 HCV.out (m : Int) (by omega) (by omega)
                rw [Int.toNat_natCast] at hw0 hw1
                have hba := below_alloc (Below.refl _ w6) (.cells #[.int .i64 (rd_T27 WL m).f0, .slice A6b (rd_T27 WL m).f1.length c6b] 27)
                have u6 := fr_new w6 (.cells #[.int .i64 (rd_T27 WL m).f0, .slice A6b (rd_T27 WL m).f1.length c6b] 27)
                have HP6 := Aside0.mk (HP.out.trans (hb6.trans (hba.mono (Nat.le_of_lt (blk_lt hS6.hP)))))
                have HS6 := Aside0.mk (hS6.below hba)
                have hBr : Below wr0.heap.size wr0 ((w6.alloc (.cells #[.int .i64 (rd_T27 WL m).f0, .slice A6b (rd_T27 WL m).f1.length c6b] 27)).drew) := below_drew (Hp.out ▸ HP6.out)
                have HY0 := Aside0.mk (show ((w6.alloc (.cells #[.int .i64 (rd_T27 WL m).f0, .slice A6b (rd_T27 WL m).f1.length c6b] 27)).drew).cell? ⟨w6.heap.size, 0, none⟩ = some (.int .i64 (rd_T27 WL m).f0) from pw_cell_below (below_drew (Below.refl _ _)) (by rw [cell_of_row _ _ _ _ 27 (0, 0) u6]; rfl))
                have HY1 := Aside0.mk (show ((w6.alloc (.cells #[.int .i64 (rd_T27 WL m).f0, .slice A6b (rd_T27 WL m).f1.length c6b] 27)).drew).cell? ⟨w6.heap.size, 1, none⟩ = some (.slice A6b (rd_T27 WL m).f1.length c6b) from pw_cell_below (below_drew (Below.refl _ _)) (by rw [cell_of_row _ _ _ _ 27 (0, 0) u6]; rfl))
                have HY2 := Aside0.mk (pw_cell_below hBr hw0)
                have HY3 := Aside0.mk (pw_cell_below hBr hw1)
                have HY4 := Aside0.mk (Kd.C_string (P := Tryd.prog) (A := A6b) (c := c6b) Tryd.underlying22 Tryd.underlying5 Tryd.underlying9 (Kd.C_below hC6b (below_drew hba)))
                have HY5 := Aside0.mk (Kd.C_string (P := Tryd.prog) (A := Aw) (c := cw) Tryd.underlying22 Tryd.underlying5 Tryd.underlying9 (Kd.C_below hiw hBr))
                have n1 : ((m : Int) == (M : Int)) = false := by simp; omega
                have n2 : (m == M) = false := by simp; omega
                have n3 : (0 ≤ (m : Int)) = True := eq_true (by omega)
                have n4 : ((m : Int) < (M : Int)) = True := eq_true (by omega)
                have n5 : (m < M) = True := eq_true hmlt
                clear hR6 hb6 hk6 hS6 hc6b hC6b hw0 hw1 hlw hiw hba u6 hBr hm hget hcL hst hmlt HS HP
                go_wp2_with fail
                refine start_ (n := 26) (S := fun w' => w'.cell? ⟨w6.heap.size, 0, none⟩ = some (.int .i64 (rd_T27 WL m).f0) ∧ w'.cell? ⟨w6.heap.size, 1, none⟩ = some (.slice A6b (rd_T27 WL m).f1.length c6b) ∧ w'.cell? (wd.add (m * 2)) = some (.int .i64 (rd_T27 WL m).f0) ∧ w'.cell? ⟨(wd.add (m * 2)).block, (wd.add (m * 2)).off + 1, none⟩ = some (.slice Aw (rd_T27 WL m).f1.length cw) ∧ (convert 22 9 (.slice A6b (rd_T27 WL m).f1.length c6b)).run Tryd.prog w' = .ok (.string (strOfNums (rd_T27 WL m).f1)) w' ∧ (convert 22 9 (.slice Aw (rd_T27 WL m).f1.length cw)).run Tryd.prog w' = .ok (.string (strOfNums (rd_T27 WL m).f1)) w') (ds := []) #[false, false, false, false, false, false, false, false, false, false, false, false, false, false, false, false, false, false, false, false, false, false, false, false, false, false] (by kernel_rfl) rfl rfl ⟨HY0.out, HY1.out, HY2.out, HY3.out, HY4.out, HY5.out⟩ (fun hHeld => ?_)
                refine pure_ (i := 0) (N := some 94) (v := ?_) (a' := ?_) #[true, false, false, false, false, false, false, false, false, false, false, false, false, false, false, false, false, false, false, false, false, false, false, false, false, false] rfl rfl (by kernel_rfl) (fun _ _ _ h => h) (Or.inl ⟨by rfl, ?_⟩) ?_ ?_
                rotate_left
                · intro w'
                  go_simp
                  with_reducible rfl
                rotate_left
                · simp only [Act.put, List.setIfInBounds_toArray, List.set_cons_zero, List.set_cons_succ, i64_w, i32_w]
                  rfl
                refine pure_ (i := 1) (N := some 95) (v := ?_) (a' := ?_) #[true, true, false, false, false, false, false, false, false, false, false, false, false, false, false, false, false, false, false, false, false, false, false, false, false, false] rfl rfl (by kernel_rfl) (fun _ _ _ h => h) (Or.inl ⟨by rfl, ?_⟩) ?_ ?_
                rotate_left
                · intro w'
                  go_simp
                  with_reducible rfl
                rotate_left
                · simp only [Act.put, List.setIfInBounds_toArray, List.set_cons_zero, List.set_cons_succ, i64_w, i32_w]
                  rfl
                refine pure_ (i := 2) (N := some 96) (v := ?_) (a' := ?_) #[true, true, true, false, false, false, false, false, false, false, false, false, false, false, false, false, false, false, false, false, false, false, false, false, false, false] rfl rfl (by kernel_rfl) (fun _ _ _ h => h) (Or.inl ⟨by rfl, ?_⟩) ?_ ?_
                rotate_left
                · intro w'
                  go_simp
                  with_reducible rfl
                rotate_left
                · simp only [Act.put, List.setIfInBounds_toArray, List.set_cons_zero, List.set_cons_succ, i64_w, i32_w]
                  rfl
                refine pure_ (i := 3) (N := some 97) (v := ?_) (a' := ?_) #[true, true, true, true, false, false, false, false, false, false, false, false, false, false, false, false, false, false, false, false, false, false, false, false, false, false] rfl rfl (by kernel_rfl) (fun _ _ _ h => h) (Or.inl ⟨by rfl, ?_⟩) ?_ ?_
                rotate_left
                · intro w'
                  go_simp
                  with_reducible rfl
                rotate_left
                · simp only [Act.put, List.setIfInBounds_toArray, List.set_cons_zero, List.set_cons_succ, i64_w, i32_w]
                  rfl
                refine pure_ (i := 4) (N := some 98) (v := ?_) (a' := ?_) #[true, true, true, true, true, false, false, false, false, false, false, false, false, false, false, false, false, false, false, false, false, false, false, false, false, false] rfl rfl (by kernel_rfl) (fun _ _ _ h => h) (Or.inl ⟨by rfl, ?_⟩) ?_ ?_
                rotate_left
                · intro w'
                  go_simp
                  with_reducible rfl
                rotate_left
                · simp only [Act.put, List.setIfInBounds_toArray, List.set_cons_zero, List.set_cons_succ, i64_w, i32_w]
                  rfl
                refine pure_ (i := 5) (N := some 99) (v := ?_) (a' := ?_) #[true, true, true, true, true, true, false, false, false, false, false, false, false, false, false, false, false, false, false, false, false, false, false, false, false, false] rfl rfl (by kernel_rfl) (fun _ _ _ h => h) (Or.inl ⟨by rfl, ?_⟩) ?_ ?_
                rotate_left
                · intro w'
                  go_simp
                  with_reducible rfl
                rotate_left
                · simp only [Act.put, List.setIfInBounds_toArray, List.set_cons_zero, List.set_cons_succ, i64_w, i32_w]
                  rfl
                refine pure_ (i := 7) (N := some 101) (v := ?_) (a' := ?_) #[true, true, true, true, true, true, false, true, false, false, false, false, false, false, false, false, false, false, false, false, false, false, false, false, false, false] rfl rfl (by kernel_rfl) (fun _ _ _ h => h) (Or.inl ⟨by rfl, ?_⟩) ?_ ?_
                rotate_left
                · intro w'
                  go_simp
                  with_reducible rfl
                rotate_left
                · simp only [Act.put, List.setIfInBounds_toArray, List.set_cons_zero, List.set_cons_succ, i64_w, i32_w]
                  rfl
                refine pure_ (i := 8) (N := some 102) (v := ?_) (a' := ?_) #[true, true, true, true, true, true, false, true, true, false, false, false, false, false, false, false, false, false, false, false, false, false, false, false, false, false] rfl rfl (by kernel_rfl) (fun _ _ _ h => h) (Or.inl ⟨by rfl, ?_⟩) ?_ ?_
                rotate_left
                · intro w'
                  go_simp
                  with_reducible rfl
                rotate_left
                · simp only [Act.put, List.setIfInBounds_toArray, List.set_cons_zero, List.set_cons_succ, i64_w, i32_w]
                  rfl
                refine pure_ (i := 9) (N := some 103) (v := ?_) (a' := ?_) #[true, true, true, true, true, true, false, true, true, true, false, false, false, false, false, false, false, false, false, false, false, false, false, false, false, false] rfl rfl (by kernel_rfl) (fun _ _ _ h => h) (Or.inl ⟨by rfl, ?_⟩) ?_ ?_
                rotate_left
                · intro w'
                  go_simp
                  with_reducible rfl
                rotate_left
                · simp only [Act.put, List.setIfInBounds_toArray, List.set_cons_zero, List.set_cons_succ, i64_w, i32_w]
                  rfl
                refine pure_ (i := 10) (N := some 104) (v := ?_) (a' := ?_) #[true, true, true, true, true, true, false, true, true, true, true, false, false, false, false, false, false, false, false, false, false, false, false, false, false, false] rfl rfl (by kernel_rfl) (fun _ _ _ h => h) (Or.inl ⟨by rfl, ?_⟩) ?_ ?_
                rotate_left
                · intro w'
                  go_simp
                  with_reducible rfl
                rotate_left
                · simp only [Act.put, List.setIfInBounds_toArray, List.set_cons_zero, List.set_cons_succ, i64_w, i32_w]
                  rfl
                refine take_ (i := 6) (N := some 100) (v := ?_) (a' := ?_) #[true, true, true, true, true, true, true, true, true, true, true, false, false, false, false, false, false, false, false, false, false, false, false, false, false, false] rfl rfl (by kernel_rfl) (fun _ _ _ h => h) (Or.inl ⟨by rfl, ?_⟩) hHeld ?_ ?_
                rotate_left
                · rintro w' ⟨s0, s1, s2, s3, s4, s5⟩
                  go_simp
                  with_reducible rfl
                rotate_left
                · simp only [Act.put, List.setIfInBounds_toArray, List.set_cons_zero, List.set_cons_succ, i64_w, i32_w]
                  rfl
                refine take_ (i := 11) (N := some 105) (v := ?_) (a' := ?_) #[true, true, true, true, true, true, true, true, true, true, true, true, false, false, false, false, false, false, false, false, false, false, false, false, false, false] rfl rfl (by kernel_rfl) (fun _ _ _ h => h) (Or.inl ⟨by rfl, ?_⟩) hHeld ?_ ?_
                rotate_left
                · rintro w' ⟨s0, s1, s2, s3, s4, s5⟩
                  go_simp
                  with_reducible rfl
                rotate_left
                · simp only [Act.put, List.setIfInBounds_toArray, List.set_cons_zero, List.set_cons_succ, i64_w, i32_w]
                  rfl
                refine pure_ (i := 12) (N := some 106) (v := ?_) (a' := ?_) #[true, true, true, true, true, true, true, true, true, true, true, true, true, false, false, false, false, false, false, false, false, false, false, false, false, false] rfl rfl (by kernel_rfl) (fun _ _ _ h => h) (Or.inl ⟨by rfl, ?_⟩) ?_ ?_
                rotate_left
                · intro w'
                  go_simp
                  with_reducible rfl
                rotate_left
                · simp only [Act.put, List.setIfInBounds_toArray, List.set_cons_zero, List.set_cons_succ, i64_w, i32_w]
                  rfl
                refine pure_ (i := 13) (N := some 107) (v := ?_) (a' := ?_) #[true, true, true, true, true, true, true, true, true, true, true, true, true, true, false, false, false, false, false, false, false, false, false, false, false, false] rfl rfl (by kernel_rfl) (fun _ _ _ h => h) (Or.inl ⟨by rfl, ?_⟩) ?_ ?_
                rotate_left
                · intro w'
                  go_simp
                  with_reducible rfl
                rotate_left
                · simp only [Act.put, List.setIfInBounds_toArray, List.set_cons_zero, List.set_cons_succ, i64_w, i32_w]
                  rfl
                refine pure_ (i := 14) (N := some 108) (v := ?_) (a' := ?_) #[true, true, true, true, true, true, true, true, true, true, true, true, true, true, true, false, false, false, false, false, false, false, false, false, false, false] rfl rfl (by kernel_rfl) (fun _ _ _ h => h) (Or.inl ⟨by rfl, ?_⟩) ?_ ?_
                rotate_left
                · intro w'
                  go_simp
                  with_reducible rfl
                rotate_left
                · simp only [Act.put, List.setIfInBounds_toArray, List.set_cons_zero, List.set_cons_succ, i64_w, i32_w]
                  rfl
                refine pure_ (i := 15) (N := some 109) (v := ?_) (a' := ?_) #[true, true, true, true, true, true, true, true, true, true, true, true, true, true, true, true, false, false, false, false, false, false, false, false, false, false] rfl rfl (by kernel_rfl) (fun _ _ _ h => h) (Or.inl ⟨by rfl, ?_⟩) ?_ ?_
                rotate_left
                · intro w'
                  go_simp
                  with_reducible rfl
                rotate_left
                · simp only [Act.put, List.setIfInBounds_toArray, List.set_cons_zero, List.set_cons_succ, i64_w, i32_w]
                  rfl
                refine pure_ (i := 18) (N := some 112) (v := ?_) (a' := ?_) #[true, true, true, true, true, true, true, true, true, true, true, true, true, true, true, true, false, false, true, false, false, false, false, false, false, false] rfl rfl (by kernel_rfl) (fun _ _ _ h => h) (Or.inl ⟨by rfl, ?_⟩) ?_ ?_
                rotate_left
                · intro w'
                  go_simp
                  with_reducible rfl
                rotate_left
                · simp only [Act.put, List.setIfInBounds_toArray, List.set_cons_zero, List.set_cons_succ, i64_w, i32_w]
                  rfl
                refine pure_ (i := 19) (N := some 113) (v := ?_) (a' := ?_) #[true, true, true, true, true, true, true, true, true, true, true, true, true, true, true, true, false, false, true, true, false, false, false, false, false, false] rfl rfl (by kernel_rfl) (fun _ _ _ h => h) (Or.inl ⟨by rfl, ?_⟩) ?_ ?_
                rotate_left
                · intro w'
                  go_simp
                  with_reducible rfl
                rotate_left
                · simp only [Act.put, List.setIfInBounds_toArray, List.set_cons_zero, List.set_cons_succ, i64_w, i32_w]
                  rfl
                refine pure_ (i := 20) (N := some 114) (v := ?_) (a' := ?_) #[true, true, true, true, true, true, true, true, true, true, true, true, true, true, true, true, false, false, true, true, true, false, false, false, false, false] rfl rfl (by kernel_rfl) (fun _ _ _ h => h) (Or.inl ⟨by rfl, ?_⟩) ?_ ?_
                rotate_left
                · intro w'
                  go_simp
                  with_reducible rfl
                rotate_left
                · simp only [Act.put, List.setIfInBounds_toArray, List.set_cons_zero, List.set_cons_succ, i64_w, i32_w]
                  rfl
                refine pure_ (i := 21) (N := some 115) (v := ?_) (a' := ?_) #[true, true, true, true, true, true, true, true, true, true, true, true, true, true, true, true, false, false, true, true, true, true, false, false, false, false] rfl rfl (by kernel_rfl) (fun _ _ _ h => h) (Or.inl ⟨by rfl, ?_⟩) ?_ ?_
                rotate_left
                · intro w'
                  go_simp
                  with_reducible rfl
                rotate_left
                · simp only [Act.put, List.setIfInBounds_toArray, List.set_cons_zero, List.set_cons_succ, i64_w, i32_w]
                  rfl
                refine take_ (i := 16) (N := some 110) (v := ?_) (a' := ?_) #[true, true, true, true, true, true, true, true, true, true, true, true, true, true, true, true, true, false, true, true, true, true, false, false, false, false] rfl rfl (by kernel_rfl) (fun _ _ _ h => h) (Or.inl ⟨by rfl, ?_⟩) hHeld ?_ ?_
                rotate_left
                · rintro w' ⟨s0, s1, s2, s3, s4, s5⟩
                  go_simp
                  with_reducible rfl
                rotate_left
                · simp only [Act.put, List.setIfInBounds_toArray, List.set_cons_zero, List.set_cons_succ, i64_w, i32_w]
                  rfl
                refine take_ (i := 17) (N := some 111) (v := ?_) (a' := ?_) #[true, true, true, true, true, true, true, true, true, true, true, true, true, true, true, true, true, true, true, true, true, true, false, false, false, false] rfl rfl (by kernel_rfl) (fun _ _ _ h => h) (Or.inl ⟨by rfl, ?_⟩) hHeld ?_ ?_
                rotate_left
                · rintro w' ⟨s0, s1, s2, s3, s4, s5⟩
                  go_simp
                  with_reducible rfl
                rotate_left
                · simp only [Act.put, List.setIfInBounds_toArray, List.set_cons_zero, List.set_cons_succ, i64_w, i32_w]
                  rfl
                refine take_ (i := 22) (N := some 116) (v := ?_) (a' := ?_) #[true, true, true, true, true, true, true, true, true, true, true, true, true, true, true, true, true, true, true, true, true, true, true, false, false, false] rfl rfl (by kernel_rfl) (fun _ _ _ h => h) (Or.inl ⟨by rfl, ?_⟩) hHeld ?_ ?_
                rotate_left
                · rintro w' ⟨s0, s1, s2, s3, s4, s5⟩
                  go_simp
                  with_reducible rfl
                rotate_left
                · simp only [Act.put, List.setIfInBounds_toArray, List.set_cons_zero, List.set_cons_succ, i64_w, i32_w]
                  rfl
                refine take_ (i := 23) (N := some 117) (v := ?_) (a' := ?_) #[true, true, true, true, true, true, true, true, true, true, true, true, true, true, true, true, true, true, true, true, true, true, true, true, false, false] rfl rfl (by kernel_rfl) (fun _ _ _ h => h) (Or.inl ⟨by rfl, ?_⟩) hHeld ?_ ?_
                rotate_left
                · rintro w' ⟨s0, s1, s2, s3, s4, s5⟩
                  go_simp
                  with_reducible rfl
                rotate_left
                · simp only [Act.put, List.setIfInBounds_toArray, List.set_cons_zero, List.set_cons_succ, i64_w, i32_w]
                  rfl
                refine pure_ (i := 24) (N := some 118) (v := ?_) (a' := ?_) #[true, true, true, true, true, true, true, true, true, true, true, true, true, true, true, true, true, true, true, true, true, true, true, true, true, false] rfl rfl (by kernel_rfl) (fun _ _ _ h => h) (Or.inl ⟨by rfl, ?_⟩) ?_ ?_
                rotate_left
                · intro w'
                  go_simp
                  with_reducible rfl
                rotate_left
                · simp only [Act.put, List.setIfInBounds_toArray, List.set_cons_zero, List.set_cons_succ, i64_w, i32_w]
                  rfl
                refine pure_ (i := 25) (N := some 119) (v := ?_) (a' := ?_) #[true, true, true, true, true, true, true, true, true, true, true, true, true, true, true, true, true, true, true, true, true, true, true, true, true, true] rfl rfl (by kernel_rfl) (fun _ _ _ h => h) (Or.inl ⟨by rfl, ?_⟩) ?_ ?_
                rotate_left
                · intro w'
                  go_simp
                  with_reducible rfl
                rotate_left
                · simp only [Act.put, List.setIfInBounds_toArray, List.set_cons_zero, List.set_cons_succ, i64_w, i32_w]
                  rfl
                refine done_ (by kernel_rfl) ?_
                clear hHeld
                have HP7 := Aside0.mk (below_drew HP6.out)
                have HS7 := Aside0.mk (HS6.out.below (below_drew (Below.refl _ _)))
                clear HY0 HY1 HY2 HY3 HY4 HY5 HP6 HS6
                go_wp2
                go_roundg (M + 1 - (m + 1))
                case measure => have := HML.out; omega
                case rel => exact ⟨m + 1, L.drop cc, v6, by have := HML.out; omega, rfl, by have h1 := H6.out; have h2 := HML.out; first | (simp; done) | (simp; unfold wrap64; omega), HST', HS7, HP7⟩
              · have HGET := Aside0.mk hget
                have HFULL := Aside0.mk hfull
                clear hget hfull
                refine (st_Next.short _ p p k L v _ HGT.out HS.out HGET.out).mono ?_
                rintro r w6 ⟨rfl, hb6⟩
                have hba := below_alloc hb6 (.cells #[.int .i64 0, .slice none 0 0] 27)
                have HS6 := Aside0.mk (HS.out.below hba)
                have HP6 := Aside0.mk (HP.out.trans (hba.mono (Nat.le_of_lt (blk_lt HS.out.hP))))
                clear hb6 hba HS HP
                go_wp2
                go_roundg (N - N)
                case measure => have := HAB.out; omega
                case rel => exact ⟨N, m, q + 1, L, v, HBN.out, rfl, rfl, rfl, by have h1 := H5.out; have h2 := HQA.out; first | (simp; done) | (simp; unfold wrap64; omega), by have h1 := HAB.out; have h2 := HQA.out; omega, HST, HS6, HP6, ⟨fun e => by have h := HFULL.out (e.trans HN.out.symm); exact ⟨h.1.trans HMW.out, h.2⟩⟩⟩

          · have z1 : decide (0 < (sz.length : Int)) = true := decide_eq_true (by have := List.length_pos_iff.2 hsz; omega)
            have z2 : decide (0 < sz.length) = true := decide_eq_true (List.length_pos_iff.2 hsz)
            have hlp := List.length_pos_iff.2 hsz
            have z3 : ((sz.length : Int) = 0) = False := eq_false (by omega)
            have z4 : (sz.length = 0) = False := eq_false (by omega)
            obtain ⟨j, hj, hjl⟩ : ∃ j : Nat, (q : Int) % (sz.length : Int) = (j : Int) ∧ j < sz.length := ⟨((q : Int) % (sz.length : Int)).toNat, by have := Int.emod_nonneg (q : Int) (show (sz.length : Int) ≠ 0 by omega); omega, by have h1 := Int.emod_nonneg (q : Int) (show (sz.length : Int) ≠ 0 by omega); have h2 := Int.emod_lt_of_pos (q : Int) (show (0 : Int) < (sz.length : Int) by omega); omega⟩
            have z5 : (0 ≤ (j : Int)) = True := eq_true (by omega)
            have z6 : ((j : Int) < (sz.length : Int)) = True := eq_true (by omega)
            have z7 : (j < sz.length) = True := eq_true hjl
            have z8 : q % sz.length = j := by omega
            obtain ⟨zd, rfl, hzx⟩ := Kd.at_int (Kd.C_below HZ.out (HBW.out.trans (HP.out.mono (by rw [← Hp.out]; exact HBW.out.size)))) (j : Int) (by omega) (by omega)
            rw [Int.toNat_natCast] at hzx
            obtain ⟨s, hs⟩ : ∃ s, rd sz (j : Int) = s := ⟨_, rfl⟩
            have hs0 := HSZ.out (j : Int)
            rw [hs] at hzx hs0
            obtain ⟨b, hb⟩ : ∃ b : Nat, (if (a : Int) + (1 + s) < (N : Int) then (a : Int) + (1 + s) else (N : Int)) = (b : Int) := ⟨(if (a : Int) + (1 + s) < (N : Int) then (a : Int) + (1 + s) else (N : Int)).toNat, by split <;> omega⟩
            have hs1 := hs0.1
            have hs2 := hs0.2
            have hab : a ≤ b := by split at hb <;> omega
            have hbN : b ≤ N := by split at hb <;> omega
            have HAB := Aside0.mk (show a < b by split at hb <;> omega)
            have HBN := Aside0.mk hbN
            obtain ⟨D, hcut, hCD, hdl⟩ := cut_between a b HCU.out hab hbN hcu
            have HCD := Aside0.mk hCD
            have HDL := Aside0.mk hdl
            clear hCD hdl hqa haN hlt hsz hs hs0 hlp hjl
            go_wp2_with fail
            have HST2 := Aside0.mk (H2.out a b m L HST.out hab (by have := HN.out; omega))
            refine (st_Feed.at_ _ p p L ((AL.take b).drop a) v D (b - a) _ _ HDL.out HS.out (fun k hk => Nat.ne_of_gt hk) (fun k hk => Nat.lt_of_lt_of_le (blk_lt HS.out.hP) hk) (Nat.le_refl _) (Kd.C_below HCD.out (Hp.out ▸ HP.out)) (by have h1 := (H4.out a m L HST.out).2; have h2 := H5.out; have h3 := HN.out; have h4 := HDL.out; omega)).mono ?_
            rintro r w5 ⟨rfl, hb5, hk5, v5, hS5⟩
            have HS5 := Aside0.mk hS5
            have HP5 := Aside0.mk (HP.out.trans hb5)
            generalize L ++ (AL.take b).drop a = L5 at HST2 HS5
            clear hb5 hk5 hS5 HS HP HST HCD HDL hcut
            go_wp2_with fail
            go_loopg [11] (M + 1 - m) (fun g v11 w' => ∃ (m : Nat) (L : List Int) (v : Value), m ≤ M ∧ g = M + 1 - m ∧ v11 = .int .i64 m ∧ Aside0 (St b m L) ∧ Aside0 (Strm (fun k => p < k) p p L 0 v w') ∧ Aside0 (Below p wr0 w'))
            case atStart => exact ⟨m, L5, v5, by have h1 := (H4.out b m L5 HST2.out).1; have h2 := HMW.out; omega, rfl, rfl, HST2, HS5, HP5⟩
            case round =>
              clear HST2 HS5 HP5
              obtain ⟨m, L, v, hmM, rfl, rfl, HST, HS, HP⟩ := hrel
              have m1 : decide ((m : Int) ≤ (M : Int)) = true := decide_eq_true (by omega)
              have m2 : decide (m ≤ M) = true := decide_eq_true hmM
              have HMM := Aside0.mk hmM
              clear hmM
              go_wp2_with fail
              have HGT := Aside0.mk ((HG.out.below HBW.out).below (Hp.out ▸ HP.out))
              rcases H3.out b m L HST.out (by have := HN.out; omega) with ⟨cc, hm, hget, hcL, hst⟩ | ⟨hget, hfull⟩
              · have HGET := Aside0.mk hget
                have HST' := Aside0.mk hst
                have hmlt : m < M := by have := HMW.out; omega
                have HML := Aside0.mk hmlt
                refine (st_Next.got _ p p k L (rd_T27 WL m).f0 (rd_T27 WL m).f1 (cc : Int) v _ HGT.out HS.out HGET.out (by omega) (by omega) (Nat.le_refl _) (fun k hk => Nat.ne_of_gt hk) (fun k hk => Nat.lt_of_le_of_lt (Nat.le_of_lt (blk_lt HS.out.hP)) hk) (Nat.le_of_lt (blk_lt HS.out.hP)) (by have h1 := (H4.out b m L HST.out).2; have h2 := H5.out; have h3 := HN.out; omega)).mono ?_
                rintro r w6 ⟨v1, v6, rfl, hR6, hb6, hk6, hS6⟩
                rw [Int.toNat_natCast] at hS6
                obtain ⟨A6b, c6b, rfl, hc6b, hC6b⟩ := fp_sl hR6
                obtain ⟨wd, Aw, cw, rfl, hw0, hw1, hlw, hiw⟩ := at_T27 HCV.out (m : Int) (by omega) (by omega)
                rw [Int.toNat_natCast] at hw0 hw1
                have hba := below_alloc (Below.refl _ w6) (.cells #[.int .i64 (rd_T27 WL m).f0, .slice A6b (rd_T27 WL m).f1.length c6b] 27)
                have u6 := fr_new w6 (.cells #[.int .i64 (rd_T27 WL m).f0, .slice A6b (rd_T27 WL m).f1.length c6b] 27)
                have HP6 := Aside0.mk (HP.out.trans (hb6.trans (hba.mono (Nat.le_of_lt (blk_lt hS6.hP)))))
                have HS6 := Aside0.mk (hS6.below hba)
                have hBr : Below wr0.heap.size wr0 ((w6.alloc (.cells #[.int .i64 (rd_T27 WL m).f0, .slice A6b (rd_T27 WL m).f1.length c6b] 27)).drew) := below_drew (Hp.out ▸ HP6.out)
                have HY0 := Aside0.mk (show ((w6.alloc (.cells #[.int .i64 (rd_T27 WL m).f0, .slice A6b (rd_T27 WL m).f1.length c6b] 27)).drew).cell? ⟨w6.heap.size, 0, none⟩ = some (.int .i64 (rd_T27 WL m).f0) from pw_cell_below (below_drew (Below.refl _ _)) (by rw [cell_of_row _ _ _ _ 27 (0, 0) u6]; rfl))
                have HY1 := Aside0.mk (show ((w6.alloc (.cells #[.int .i64 (rd_T27 WL m).f0, .slice A6b (rd_T27 WL m).f1.length c6b] 27)).drew).cell? ⟨w6.heap.size, 1, none⟩ = some (.slice A6b (rd_T27 WL m).f1.length c6b) from pw_cell_below (below_drew (Below.refl _ _)) (by rw [cell_of_row _ _ _ _ 27 (0, 0) u6]; rfl))
                have HY2 := Aside0.mk (pw_cell_below hBr hw0)
                have HY3 := Aside0.mk (pw_cell_below hBr hw1)
                have HY4 := Aside0.mk (Kd.C_string (P := Tryd.prog) (A := A6b) (c := c6b) Tryd.underlying22 Tryd.underlying5 Tryd.underlying9 (Kd.C_below hC6b (below_drew hba)))
                have HY5 := Aside0.mk (Kd.C_string (P := Tryd.prog) (A := Aw) (c := cw) Tryd.underlying22 Tryd.underlying5 Tryd.underlying9 (Kd.C_below hiw hBr))
                have n1 : ((m : Int) == (M : Int)) = false := by simp; omega
                have n2 : (m == M) = false := by simp; omega
                have n3 : (0 ≤ (m : Int)) = True := eq_true (by omega)
                have n4 : ((m : Int) < (M : Int)) = True := eq_true (by omega)
                have n5 : (m < M) = True := eq_true hmlt
                clear hR6 hb6 hk6 hS6 hc6b hC6b hw0 hw1 hlw hiw hba u6 hBr hm hget hcL hst hmlt HS HP
                go_wp2_with fail
                refine start_ (n := 26) (S := fun w' => w'.cell? ⟨w6.heap.size, 0, none⟩ = some (.int .i64 (rd_T27 WL m).f0) ∧ w'.cell? ⟨w6.heap.size, 1, none⟩ = some (.slice A6b (rd_T27 WL m).f1.length c6b) ∧ w'.cell? (wd.add (m * 2)) = some (.int .i64 (rd_T27 WL m).f0) ∧ w'.cell? ⟨(wd.add (m * 2)).block, (wd.add (m * 2)).off + 1, none⟩ = some (.slice Aw (rd_T27 WL m).f1.length cw) ∧ (convert 22 9 (.slice A6b (rd_T27 WL m).f1.length c6b)).run Tryd.prog w' = .ok (.string (strOfNums (rd_T27 WL m).f1)) w' ∧ (convert 22 9 (.slice Aw (rd_T27 WL m).f1.length cw)).run Tryd.prog w' = .ok (.string (strOfNums (rd_T27 WL m).f1)) w') (ds := []) #[false, false, false, false, false, false, false, false, false, false, false, false, false, false, false, false, false, false, false, false, false, false, false, false, false, false] (by kernel_rfl) rfl rfl ⟨HY0.out, HY1.out, HY2.out, HY3.out, HY4.out, HY5.out⟩ (fun hHeld => ?_)
                refine pure_ (i := 0) (N := some 94) (v := ?_) (a' := ?_) #[true, false, false, false, false, false, false, false, false, false, false, false, false, false, false, false, false, false, false, false, false, false, false, false, false, false] rfl rfl (by kernel_rfl) (fun _ _ _ h => h) (Or.inl ⟨by rfl, ?_⟩) ?_ ?_
                rotate_left
                · intro w'
                  go_simp
                  with_reducible rfl
                rotate_left
                · simp only [Act.put, List.setIfInBounds_toArray, List.set_cons_zero, List.set_cons_succ, i64_w, i32_w]
                  rfl
                refine pure_ (i := 1) (N := some 95) (v := ?_) (a' := ?_) #[true, true, false, false, false, false, false, false, false, false, false, false, false, false, false, false, false, false, false, false, false, false, false, false, false, false] rfl rfl (by kernel_rfl) (fun _ _ _ h => h) (Or.inl ⟨by rfl, ?_⟩) ?_ ?_
                rotate_left
                · intro w'
                  go_simp
                  with_reducible rfl
                rotate_left
                · simp only [Act.put, List.setIfInBounds_toArray, List.set_cons_zero, List.set_cons_succ, i64_w, i32_w]
                  rfl
                refine pure_ (i := 2) (N := some 96) (v := ?_) (a' := ?_) #[true, true, true, false, false, false, false, false, false, false, false, false, false, false, false, false, false, false, false, false, false, false, false, false, false, false] rfl rfl (by kernel_rfl) (fun _ _ _ h => h) (Or.inl ⟨by rfl, ?_⟩) ?_ ?_
                rotate_left
                · intro w'
                  go_simp
                  with_reducible rfl
                rotate_left
                · simp only [Act.put, List.setIfInBounds_toArray, List.set_cons_zero, List.set_cons_succ, i64_w, i32_w]
                  rfl
                refine pure_ (i := 3) (N := some 97) (v := ?_) (a' := ?_) #[true, true, true, true, false, false, false, false, false, false, false, false, false, false, false, false, false, false, false, false, false, false, false, false, false, false] rfl rfl (by kernel_rfl) (fun _ _ _ h => h) (Or.inl ⟨by rfl, ?_⟩) ?_ ?_
                rotate_left
                · intro w'
                  go_simp
                  with_reducible rfl
                rotate_left
                · simp only [Act.put, List.setIfInBounds_toArray, List.set_cons_zero, List.set_cons_succ, i64_w, i32_w]
                  rfl
                refine pure_ (i := 4) (N := some 98) (v := ?_) (a' := ?_) #[true, true, true, true, true, false, false, false, false, false, false, false, false, false, false, false, false, false, false, false, false, false, false, false, false, false] rfl rfl (by kernel_rfl) (fun _ _ _ h => h) (Or.inl ⟨by rfl, ?_⟩) ?_ ?_
                rotate_left
                · intro w'
                  go_simp
                  with_reducible rfl
                rotate_left
                · simp only [Act.put, List.setIfInBounds_toArray, List.set_cons_zero, List.set_cons_succ, i64_w, i32_w]
                  rfl
                refine pure_ (i := 5) (N := some 99) (v := ?_) (a' := ?_) #[true, true, true, true, true, true, false, false, false, false, false, false, false, false, false, false, false, false, false, false, false, false, false, false, false, false] rfl rfl (by kernel_rfl) (fun _ _ _ h => h) (Or.inl ⟨by rfl, ?_⟩) ?_ ?_
                rotate_left
                · intro w'
                  go_simp
                  with_reducible rfl
                rotate_left
                · simp only [Act.put, List.setIfInBounds_toArray, List.set_cons_zero, List.set_cons_succ, i64_w, i32_w]
                  rfl
                refine pure_ (i := 7) (N := some 101) (v := ?_) (a' := ?_) #[true, true, true, true, true, true, false, true, false, false, false, false, false, false, false, false, false, false, false, false, false, false, false, false, false, false] rfl rfl (by kernel_rfl) (fun _ _ _ h => h) (Or.inl ⟨by rfl, ?_⟩) ?_ ?_
                rotate_left
                · intro w'
                  go_simp
                  with_reducible rfl
                rotate_left
                · simp only [Act.put, List.setIfInBounds_toArray, List.set_cons_zero, List.set_cons_succ, i64_w, i32_w]
                  rfl
                refine pure_ (i := 8) (N := some 102) (v := ?_) (a' := ?_) #[true, true, true, true, true, true, false, true, true, false, false, false, false, false, false, false, false, false, false, false, false, false, false, false, false, false] rfl rfl (by kernel_rfl) (fun _ _ _ h => h) (Or.inl ⟨by rfl, ?_⟩) ?_ ?_
                rotate_left
                · intro w'
                  go_simp
                  with_reducible rfl
                rotate_left
                · simp only [Act.put, List.setIfInBounds_toArray, List.set_cons_zero, List.set_cons_succ, i64_w, i32_w]
                  rfl
                refine pure_ (i := 9) (N := some 103) (v := ?_) (a' := ?_) #[true, true, true, true, true, true, false, true, true, true, false, false, false, false, false, false, false, false, false, false, false, false, false, false, false, false] rfl rfl (by kernel_rfl) (fun _ _ _ h => h) (Or.inl ⟨by rfl, ?_⟩) ?_ ?_
                rotate_left
                · intro w'
                  go_simp
                  with_reducible rfl
                rotate_left
                · simp only [Act.put, List.setIfInBounds_toArray, List.set_cons_zero, List.set_cons_succ, i64_w, i32_w]
                  rfl
                refine pure_ (i := 10) (N := some 104) (v := ?_) (a' := ?_) #[true, true, true, true, true, true, false, true, true, true, true, false, false, false, false, false, false, false, false, false, false, false, false, false, false, false] rfl rfl (by kernel_rfl) (fun _ _ _ h => h) (Or.inl ⟨by rfl, ?_⟩) ?_ ?_
                rotate_left
                · intro w'
                  go_simp
                  with_reducible rfl
                rotate_left
                · simp only [Act.put, List.setIfInBounds_toArray, List.set_cons_zero, List.set_cons_succ, i64_w, i32_w]
                  rfl
                refine take_ (i := 6) (N := some 100) (v := ?_) (a' := ?_) #[true, true, true, true, true, true, true, true, true, true, true, false, false, false, false, false, false, false, false, false, false, false, false, false, false, false] rfl rfl (by kernel_rfl) (fun _ _ _ h => h) (Or.inl ⟨by rfl, ?_⟩) hHeld ?_ ?_
                rotate_left
                · rintro w' ⟨s0, s1, s2, s3, s4, s5⟩
                  go_simp
                  with_reducible rfl
                rotate_left
                · simp only [Act.put, List.setIfInBounds_toArray, List.set_cons_zero, List.set_cons_succ, i64_w, i32_w]
                  rfl
                refine take_ (i := 11) (N := some 105) (v := ?_) (a' := ?_) #[true, true, true, true, true, true, true, true, true, true, true, true, false, false, false, false, false, false, false, false, false, false, false, false, false, false] rfl rfl (by kernel_rfl) (fun _ _ _ h => h) (Or.inl ⟨by rfl, ?_⟩) hHeld ?_ ?_
                rotate_left
                · rintro w' ⟨s0, s1, s2, s3, s4, s5⟩
                  go_simp
                  with_reducible rfl
                rotate_left
                · simp only [Act.put, List.setIfInBounds_toArray, List.set_cons_zero, List.set_cons_succ, i64_w, i32_w]
                  rfl
                refine pure_ (i := 12) (N := some 106) (v := ?_) (a' := ?_) #[true, true, true, true, true, true, true, true, true, true, true, true, true, false, false, false, false, false, false, false, false, false, false, false, false, false] rfl rfl (by kernel_rfl) (fun _ _ _ h => h) (Or.inl ⟨by rfl, ?_⟩) ?_ ?_
                rotate_left
                · intro w'
                  go_simp
                  with_reducible rfl
                rotate_left
                · simp only [Act.put, List.setIfInBounds_toArray, List.set_cons_zero, List.set_cons_succ, i64_w, i32_w]
                  rfl
                refine pure_ (i := 13) (N := some 107) (v := ?_) (a' := ?_) #[true, true, true, true, true, true, true, true, true, true, true, true, true, true, false, false, false, false, false, false, false, false, false, false, false, false] rfl rfl (by kernel_rfl) (fun _ _ _ h => h) (Or.inl ⟨by rfl, ?_⟩) ?_ ?_
                rotate_left
                · intro w'
                  go_simp
                  with_reducible rfl
                rotate_left
                · simp only [Act.put, List.setIfInBounds_toArray, List.set_cons_zero, List.set_cons_succ, i64_w, i32_w]
                  rfl
                refine pure_ (i := 14) (N := some 108) (v := ?_) (a' := ?_) #[true, true, true, true, true, true, true, true, true, true, true, true, true, true, true, false, false, false, false, false, false, false, false, false, false, false] rfl rfl (by kernel_rfl) (fun _ _ _ h => h) (Or.inl ⟨by rfl, ?_⟩) ?_ ?_
                rotate_left
                · intro w'
                  go_simp
                  with_reducible rfl
                rotate_left
                · simp only [Act.put, List.setIfInBounds_toArray, List.set_cons_zero, List.set_cons_succ, i64_w, i32_w]
                  rfl
                refine pure_ (i := 15) (N := some 109) (v := ?_) (a' := ?_) #[true, true, true, true, true, true, true, true, true, true, true, true, true, true, true, true, false, false, false, false, false, false, false, false, false, false] rfl rfl (by kernel_rfl) (fun _ _ _ h => h) (Or.inl ⟨by rfl, ?_⟩) ?_ ?_
                rotate_left
                · intro w'
                  go_simp
                  with_reducible rfl
                rotate_left
                · simp only [Act.put, List.setIfInBounds_toArray, List.set_cons_zero, List.set_cons_succ, i64_w, i32_w]
                  rfl
                refine pure_ (i := 18) (N := some 112) (v := ?_) (a' := ?_) #[true, true, true, true, true, true, true, true, true, true, true, true, true, true, true, true, false, false, true, false, false, false, false, false, false, false] rfl rfl (by kernel_rfl) (fun _ _ _ h => h) (Or.inl ⟨by rfl, ?_⟩) ?_ ?_
                rotate_left
                · intro w'
                  go_simp
                  with_reducible rfl
                rotate_left
                · simp only [Act.put, List.setIfInBounds_toArray, List.set_cons_zero, List.set_cons_succ, i64_w, i32_w]
                  rfl
                refine pure_ (i := 19) (N := some 113) (v := ?_) (a' := ?_) #[true, true, true, true, true, true, true, true, true, true, true, true, true, true, true, true, false, false, true, true, false, false, false, false, false, false] rfl rfl (by kernel_rfl) (fun _ _ _ h => h) (Or.inl ⟨by rfl, ?_⟩) ?_ ?_
                rotate_left
                · intro w'
                  go_simp
                  with_reducible rfl
                rotate_left
                · simp only [Act.put, List.setIfInBounds_toArray, List.set_cons_zero, List.set_cons_succ, i64_w, i32_w]
                  rfl
                refine pure_ (i := 20) (N := some 114) (v := ?_) (a' := ?_) #[true, true, true, true, true, true, true, true, true, true, true, true, true, true, true, true, false, false, true, true, true, false, false, false, false, false] rfl rfl (by kernel_rfl) (fun _ _ _ h => h) (Or.inl ⟨by rfl, ?_⟩) ?_ ?_
                rotate_left
                · intro w'
                  go_simp
                  with_reducible rfl
                rotate_left
                · simp only [Act.put, List.setIfInBounds_toArray, List.set_cons_zero, List.set_cons_succ, i64_w, i32_w]
                  rfl
                refine pure_ (i := 21) (N := some 115) (v := ?_) (a' := ?_) #[true, true, true, true, true, true, true, true, true, true, true, true, true, true, true, true, false, false, true, true, true, true, false, false, false, false] rfl rfl (by kernel_rfl) (fun _ _ _ h => h) (Or.inl ⟨by rfl, ?_⟩) ?_ ?_
                rotate_left
                · intro w'
                  go_simp
                  with_reducible rfl
                rotate_left
                · simp only [Act.put, List.setIfInBounds_toArray, List.set_cons_zero, List.set_cons_succ, i64_w, i32_w]
                  rfl
                refine take_ (i := 16) (N := some 110) (v := ?_) (a' := ?_) #[true, true, true, true, true, true, true, true, true, true, true, true, true, true, true, true, true, false, true, true, true, true, false, false, false, false] rfl rfl (by kernel_rfl) (fun _ _ _ h => h) (Or.inl ⟨by rfl, ?_⟩) hHeld ?_ ?_
                rotate_left
                · rintro w' ⟨s0, s1, s2, s3, s4, s5⟩
                  go_simp
                  with_reducible rfl
                rotate_left
                · simp only [Act.put, List.setIfInBounds_toArray, List.set_cons_zero, List.set_cons_succ, i64_w, i32_w]
                  rfl
                refine take_ (i := 17) (N := some 111) (v := ?_) (a' := ?_) #[true, true, true, true, true, true, true, true, true, true, true, true, true, true, true, true, true, true, true, true, true, true, false, false, false, false] rfl rfl (by kernel_rfl) (fun _ _ _ h => h) (Or.inl ⟨by rfl, ?_⟩) hHeld ?_ ?_
                rotate_left
                · rintro w' ⟨s0, s1, s2, s3, s4, s5⟩
                  go_simp
                  with_reducible rfl
                rotate_left
                · simp only [Act.put, List.setIfInBounds_toArray, List.set_cons_zero, List.set_cons_succ, i64_w, i32_w]
                  rfl
                refine take_ (i := 22) (N := some 116) (v := ?_) (a' := ?_) #[true, true, true, true, true, true, true, true, true, true, true, true, true, true, true, true, true, true, true, true, true, true, true, false, false, false] rfl rfl (by kernel_rfl) (fun _ _ _ h => h) (Or.inl ⟨by rfl, ?_⟩) hHeld ?_ ?_
                rotate_left
                · rintro w' ⟨s0, s1, s2, s3, s4, s5⟩
                  go_simp
                  with_reducible rfl
                rotate_left
                · simp only [Act.put, List.setIfInBounds_toArray, List.set_cons_zero, List.set_cons_succ, i64_w, i32_w]
                  rfl
                refine take_ (i := 23) (N := some 117) (v := ?_) (a' := ?_) #[true, true, true, true, true, true, true, true, true, true, true, true, true, true, true, true, true, true, true, true, true, true, true, true, false, false] rfl rfl (by kernel_rfl) (fun _ _ _ h => h) (Or.inl ⟨by rfl, ?_⟩) hHeld ?_ ?_
                rotate_left
                · rintro w' ⟨s0, s1, s2, s3, s4, s5⟩
                  go_simp
                  with_reducible rfl
                rotate_left
                · simp only [Act.put, List.setIfInBounds_toArray, List.set_cons_zero, List.set_cons_succ, i64_w, i32_w]
                  rfl
                refine pure_ (i := 24) (N := some 118) (v := ?_) (a' := ?_) #[true, true, true, true, true, true, true, true, true, true, true, true, true, true, true, true, true, true, true, true, true, true, true, true, true, false] rfl rfl (by kernel_rfl) (fun _ _ _ h => h) (Or.inl ⟨by rfl, ?_⟩) ?_ ?_
                rotate_left
                · intro w'
                  go_simp
                  with_reducible rfl
                rotate_left
                · simp only [Act.put, List.setIfInBounds_toArray, List.set_cons_zero, List.set_cons_succ, i64_w, i32_w]
                  rfl
                refine pure_ (i := 25) (N := some 119) (v := ?_) (a' := ?_) #[true, true, true, true, true, true, true, true, true, true, true, true, true, true, true, true, true, true, true, true, true, true, true, true, true, true] rfl rfl (by kernel_rfl) (fun _ _ _ h => h) (Or.inl ⟨by rfl, ?_⟩) ?_ ?_
                rotate_left
                · intro w'
                  go_simp
                  with_reducible rfl
                rotate_left
                · simp only [Act.put, List.setIfInBounds_toArray, List.set_cons_zero, List.set_cons_succ, i64_w, i32_w]
                  rfl
                refine done_ (by kernel_rfl) ?_
                clear hHeld
                have HP7 := Aside0.mk (below_drew HP6.out)
                have HS7 := Aside0.mk (HS6.out.below (below_drew (Below.refl _ _)))
                clear HY0 HY1 HY2 HY3 HY4 HY5 HP6 HS6
                go_wp2
                go_roundg (M + 1 - (m + 1))
                case measure => have := HML.out; omega
                case rel => exact ⟨m + 1, L.drop cc, v6, by have := HML.out; omega, rfl, by have h1 := H6.out; have h2 := HML.out; first | (simp; done) | (simp; unfold wrap64; omega), HST', HS7, HP7⟩
              · have HGET := Aside0.mk hget
                have HFULL := Aside0.mk hfull
                clear hget hfull
                refine (st_Next.short _ p p k L v _ HGT.out HS.out HGET.out).mono ?_
                rintro r w6 ⟨rfl, hb6⟩
                have hba := below_alloc hb6 (.cells #[.int .i64 0, .slice none 0 0] 27)
                have HS6 := Aside0.mk (HS.out.below hba)
                have HP6 := Aside0.mk (HP.out.trans (hba.mono (Nat.le_of_lt (blk_lt HS.out.hP))))
                clear hb6 hba HS HP
                go_wp2
                go_roundg (N - b)
                case measure => have := HAB.out; omega
                case rel => exact ⟨b, m, q + 1, L, v, HBN.out, rfl, rfl, rfl, by have h1 := H5.out; have h2 := HQA.out; first | (simp; done) | (simp; unfold wrap64; omega), by have h1 := HAB.out; have h2 := HQA.out; omega, HST, HS6, HP6, ⟨fun e => by have h := HFULL.out (e.trans HN.out.symm); exact ⟨h.1.trans HMW.out, h.2⟩⟩⟩

        · obtain rfl : N = a := by omega
          have x1 : decide ((N : Int) < (N : Int)) = false := decide_eq_false (by omega)
          have x2 : decide (N < N) = false := decide_eq_false (by omega)
          obtain ⟨rfl, rfl⟩ := HFU.out rfl
          obtain ⟨A9, c9, rfl⟩ := HS.out.sliceN (n := 0) rfl
          have q9 := (st_cells HS.out.hP).1
          have q9' := (st_cells HS.out.hP).2
          clear hlt haN hqa
          go_wp2_with fail
          refine (st_Left.at_ p A9 0 c9 _ q9).mono ?_
          rintro r w7 ⟨rfl, hw7⟩
          subst hw7
          go_wp2_with fail
          refine (st_Err.at_ p 0 _ q9').mono ?_
          rintro r w8 ⟨rfl, hw8⟩
          subst hw8
          go_wp2_with fail
          have HBF := Aside0.mk (HBW.out.trans (HP.out.mono (by rw [← Hp.out]; exact HBW.out.size)))
          refine (remoralaw29_awake.calls true _ (HG.out.below HBF.out) rfl).mono ?_
          rintro r w9 ⟨rfl, hb9⟩
          have HBE := Aside0.mk (below_step HBF.out hb9)
          clear hb9
          go_wp2
          go_ret
          exact ⟨rfl, HBE.out⟩

def remoralaw29_FramePieces.f (l0 : List S27) (l1 : List Int) : Option Bool := some true
/-- What is left to plain Lean: whether the frames are too many, what is made of them, what comes out. -/
def remoralaw29_FramePieces.Pure : Prop := ∀ (l : List S27), l.length * 32 ≤ 140737488351232 → (∀ x ∈ l, x.f1.length ≤ 140737488351232 ∧ ∀ z ∈ x.f1, (Lit.int .u8 z).wf = true) →
  ∃ k, remoralaw29_great.f k l = some true ∨ (remoralaw29_great.f k l = some false ∧ l.length ≤ 60 ∧ ∃ (al : Nat → List Int) (wl : Nat → List S27), fpMade k l al wl ∧ fpNext k (al l.length) (wl l.length))
set_option maxHeartbeats 1000000 in
theorem pieces_great (k : Nat) (A : Option Addr) (c : Nat) (l : List S27) (v : Value) (w : World) (hG : GT w) (hC : Kd.C k27 w A l.length l) (hc : l.length ≤ c) (hgr : remoralaw29_great.f k l = some true) :
    Calls Tryd.prog 8 #[.slice A l.length c, v] w fun e w' => e = .returned (.bool true) ∧ Below w.heap.size w w' := by
  have HG := Aside0.mk hG
  have HC := Aside0.mk hC
  have HGR := Aside0.mk hgr
  clear hG hC hgr
  go_enter Tryd.func8, Tryd.ntmps8
  go_wp2_with fail
  refine (remoralaw29_great.calls k A c l true w HC.out hc HGR.out).mono ?_
  rintro e w1 ⟨rfl, hd⟩
  have HB := Aside0.mk hd.below
  clear hd
  go_wp2_with fail
  refine (remoralaw29_awake.calls true _ (HG.out.below HB.out) rfl).mono ?_
  rintro e w2 ⟨rfl, hb⟩
  have HB2 := Aside0.mk (below_step HB.out hb)
  clear hb
  go_wp2
  go_ret
  exact ⟨rfl, HB2.out⟩
theorem remoralaw29_FramePieces.walk (P : remoralaw29_FramePieces.Pure) (a0 : Option Addr) (cap0 : Nat) (l0 : List S27) (a1 : Option Addr) (len1 cap1 : Nat) (z1 : List Int) (w : World) (hG : GT w) (hr0 : Kd.C k27 w a0 l0.length l0) (hc0 : l0.length ≤ cap0) (hm0 : l0.length ≤ maxLen) (y0 : l0.length * 32 ≤ 140737488351232) (hw0 : ∀ x ∈ l0, (((Lit.int .i64 x.f0).wf = true) ∧ (x.f1.length ≤ maxLen ∧ x.f1.length * 1 ≤ 140737488351232 ∧ ∀ z0_ ∈ x.f1, (Lit.int .u8 z0_).wf = true)))
    (w1 : (a1 = none ∧ len1 = 0 ∧ cap1 = 0 ∧ z1 = []) ∨ ∃ x, a1 = some x ∧ len1 ≤ cap1 ∧ cap1 ≤ maxLen ∧ z1.length = cap1 ∧ (∀ i, i < z1.length → w.cell? (x.add i) = some (.int .u8 (z1.getD i 0))) ∧ ∀ n ∈ z1, (Lit.int .u8 n).wf = true) (y1 : len1 * 1 ≤ 140737488351232) :
    Calls Tryd.prog 8 #[.slice a0 l0.length cap0, .slice a1 len1 cap1] w fun e w' => e = .returned (.bool true) ∧ Below w.heap.size w w' := by
  obtain ⟨l1, rfl, hr1, hm1, hw1, hc1⟩ := ReadsInt.ofRowC w1
  have hsz : ∀ i, 0 ≤ rd l1 i ∧ rd l1 i ≤ 255 := fun i => by
    unfold rd
    by_cases h : i.toNat < l1.length
    · have h2 := hw1 _ (List.getElem_mem h)
      rw [List.getD_eq_getElem?_getD, List.getElem?_eq_getElem h, Option.getD_some]
      simp [Lit.wf, IntKind.min, IntKind.max, IntKind.signed, IntKind.bits] at h2
      omega
    · rw [List.getD_eq_getElem?_getD, List.getElem?_eq_none (by omega), Option.getD_none]
      omega
  obtain ⟨k, h | ⟨h, h60, al, wl, hm, hn⟩⟩ := P l0 y0 (fun x hx => ⟨by have := (hw0 x hx).2.2.1; omega, (hw0 x hx).2.2.2⟩)
  · exact pieces_great k a0 cap0 l0 _ w hG hr0 hc0 h
  · exact pieces_true k a0 cap0 l0 a1 cap1 l1 al wl w hG hr0 hc0 (Kd.C_of_reads (d := (0 : Int)) (h1 := fun _ => rfl) hr1) hc1 h60 hsz hm (fun AL WL e1 e2 => by subst e1 e2; exact hn) h


end Go.Proofs.YtmllikjhflnngaaDoor.P
