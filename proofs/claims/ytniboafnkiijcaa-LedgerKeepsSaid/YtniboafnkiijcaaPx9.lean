-- Written by a program of the session (wip/tool/mk.py) out of the translation; Lean checks it.
import Derived.Test.YtniboafnkiijcaaPx0
import Derived.Test.YtniboafnkiijcaaPx1
import Derived.Test.YtniboafnkiijcaaPx2
import Derived.Test.YtniboafnkiijcaaPx3
import Derived.Test.YtniboafnkiijcaaPx4
import Derived.Test.YtniboafnkiijcaaPx6
namespace Go.Proofs.Ytniboafnkiijcaa.P
open Go.RowKit Go.Proofs.YtniboafnkiijcaaW.PrintWords Go.Proofs.YtniboafnkiijcaaW.PrintLast Go.Proofs.YtniboafnkiijcaaW.PrintMore
attribute [local go_sem] max2_int min2_int max_two min_two max_three min_three max_four min_four   -- for this text's walks alone
set_option linter.unusedVariables false
set_option linter.unusedSimpArgs false

/-! ### remoralaw33_LedgerOnce: function 4, a contract of my own -/
namespace LOnce
theorem small_l0 (l : List S36) (hl : l.length ≤ 2000000000000) : ∀ (d k i : Nat), i + d = l.length → d < k → ∃ b, remoraref33_Small.l0 k l (i : Int) = some b ∧ (b = true → l.length ≤ 60 ∧ ∀ j : Nat, i ≤ j → j < l.length → (rd_T36 l (j : Int)).f1.size ≤ 600 ∧ (rd_T36 l (j : Int)).f3.size ≤ 100) := by
  intro d
  induction d with
  | zero =>
    intro k i h hk
    obtain ⟨k, rfl⟩ : ∃ m, k = m + 1 := ⟨k - 1, by omega⟩
    simp only [remoraref33_Small.l0]
    rw [if_neg (by omega)]
    exact ⟨_, rfl, fun h1 => ⟨by have := of_decide_eq_true h1; omega, fun j h2 h3 => by omega⟩⟩
  | succ d ih =>
    intro k i h hk
    obtain ⟨k, rfl⟩ : ∃ m, k = m + 1 := ⟨k - 1, by omega⟩
    simp only [remoraref33_Small.l0]
    rw [if_pos (by omega), if_pos (by omega)]
    by_cases c1 : ((rd_T36 l (i : Int)).f1.size : Int) > 600
    · rw [if_pos c1]; exact ⟨_, rfl, fun h => by cases h⟩
    rw [if_neg c1]
    by_cases c2 : ((rd_T36 l (i : Int)).f3.size : Int) > 100
    · rw [if_pos c2]; exact ⟨_, rfl, fun h => by cases h⟩
    rw [if_neg c2, show wrap64 ((i : Int) + 1) = ((i + 1 : Nat) : Int) by unfold wrap64; omega]
    obtain ⟨b, hb, h2⟩ := ih k (i + 1) (by omega) (by omega)
    refine ⟨b, hb, fun hb => ⟨(h2 hb).1, fun j h3 h4 => ?_⟩⟩
    by_cases e : j = i
    · subst e; omega
    · exact (h2 hb).2 j (by omega) h4
theorem small_f (l : List S36) (hl : l.length ≤ 2000000000000) : ∃ b, remoraref33_Small.f (l.length + 1) l = some b ∧ (b = true → l.length ≤ 60 ∧ ∀ j : Nat, j < l.length → (rd_T36 l (j : Int)).f1.size ≤ 600 ∧ (rd_T36 l (j : Int)).f3.size ≤ 100) := by
  obtain ⟨b, hb, h⟩ := small_l0 l hl l.length (l.length + 1) 0 (by omega) (by omega)
  exact ⟨b, hb, fun h1 => ⟨(h h1).1, fun j hj => (h h1).2 j (Nat.zero_le _) hj⟩⟩
theorem texts_l0 (L : List ByteArray) (hl : L.length ≤ 2000000000000) : ∀ (d k i : Nat), i + d = L.length → d < k → remoraref17_Texts.l0 k L L (i : Int) = some true := by
  intro d
  induction d with
  | zero =>
    intro k i h hk
    obtain ⟨k, rfl⟩ : ∃ m, k = m + 1 := ⟨k - 1, by omega⟩
    simp only [remoraref17_Texts.l0]
    rw [if_neg (by omega)]
  | succ d ih =>
    intro k i h hk
    obtain ⟨k, rfl⟩ : ∃ m, k = m + 1 := ⟨k - 1, by omega⟩
    simp only [remoraref17_Texts.l0]
    rw [if_pos (by omega), if_pos (by omega), if_pos (by omega), if_pos trivial, show wrap64 ((i : Int) + 1) = ((i + 1 : Nat) : Int) by unfold wrap64; omega]
    exact ih k (i + 1) (by omega) (by omega)
theorem texts_f (L : List ByteArray) (hl : L.length ≤ 2000000000000) : remoraref17_Texts.f (L.length + 1) L L = some true := by
  unfold remoraref17_Texts.f
  rw [if_pos rfl]
  exact texts_l0 L hl L.length _ 0 (by omega) (by omega)
def acOf (x : S36) : Ac := ⟨x.f0, x.f1, ⟨x.f2.f0, x.f2.f1, x.f2.f2, x.f2.f3, x.f2.f4.f0, x.f2.f4.f1, x.f2.f4.f2, x.f2.f4.f3, x.f2.f4.f4, x.f2.f5⟩, x.f3⟩
theorem askX_mem {S : List Ln} {q : ByteArray} {s : St} {x : Ln} (h : askX S q s = some x) : x ∈ S ∧ x.path = q ∧ mt s x = true := by
  unfold askX at h
  have h1 := List.find?_some h
  rw [Bool.and_eq_true] at h1
  exact ⟨List.mem_of_find?_eq_some h, (eqP_iff q x.path).1 h1.1, h1.2⟩
theorem outS_lt {S : List Ln} {x : Ln} (h : x ∈ S) : (outS (eqP x.path) S).length + 1 ≤ S.length := by
  unfold outS
  have := List.length_filter_lt_length_iff_exists (p := fun y : Ln => !eqP x.path y.path) (l := S)
  have h2 := this.2 ⟨x, h, by rw [(eqP_iff x.path x.path).2 rfl]; simp⟩
  omega
theorem outS_ge {S : List Ln} (q : ByteArray) (h : (paths S).Nodup) : S.length ≤ (outS (eqP q) S).length + 1 := by
  induction S with
  | nil => simp
  | cons z T ih =>
    obtain ⟨h1, h2⟩ := List.nodup_cons.1 (show (z.path :: paths T).Nodup from h)
    unfold outS
    cases hz : eqP q z.path with
    | true =>
      have e := (eqP_iff q z.path).1 hz
      subst e
      have := outS_head z T h
      unfold outS at this
      rw [this]; simp
    | false =>
      rw [List.filter_cons, if_pos (by rw [hz]; rfl)]
      have := ih h2
      unfold outS at this
      simp only [List.length_cons]
      omega
theorem lastS_len (x : Ln) (S : List Ln) : (lastS x S).length = (outS (eqP x.path) S).length + 1 := by unfold lastS; simp
theorem outS_le (pr : ByteArray → Bool) (S : List Ln) : (outS pr S).length ≤ S.length := List.length_filter_le _ _
theorem capS_le (room : Int) (x : Ln) (S : List Ln) (h1 : 1 ≤ room) (h : (S.length : Int) ≤ room) : ((capS room (lastS x S)).length : Int) ≤ room := by
  have h2 := lastS_len x S
  have h3 := outS_le (eqP x.path) S
  unfold capS
  split
  · rw [List.length_tail]; omega
  · omega
theorem capS_ge (room : Int) (x : Ln) (S : List Ln) (h1 : 1 ≤ room) (h : (S.length : Int) ≤ room) (hn : (paths S).Nodup) : S.length ≤ (capS room (lastS x S)).length := by
  have h2 := lastS_len x S
  have h3 := outS_ge x.path hn
  unfold capS
  split
  · rw [List.length_tail]; omega
  · omega
theorem capS_last (room : Int) (x : Ln) (S : List Ln) (h1 : 1 ≤ room) : ∃ T, capS room (lastS x S) = T ++ [x] := by
  unfold capS
  split
  · rename_i h
    unfold lastS at h ⊢
    cases ho : outS (eqP x.path) S with
    | nil => rw [ho] at h; simp at h; omega
    | cons y O => exact ⟨O, rfl⟩
  · exact ⟨outS (eqP x.path) S, rfl⟩
theorem doF_len (room : Int) (S : List Ln) (a : Ac) (h1 : 1 ≤ room) (h : (S.length : Int) ≤ room) : ((doF room S a).S.length : Int) ≤ room := by
  unfold doF
  split
  · cases hx : askX S a.path a.st with
    | none => exact h
    | some x =>
      have h2 := lastS_len x S
      have h3 := outS_lt (askX_mem hx).1
      show ((lastS x S).length : Int) ≤ room
      omega
  · split
    · show ((if tellE a.path a.st a.sum = 0 then capS room (lastS (tellX a.path a.st a.sum) S) else S).length : Int) ≤ room
      split
      · exact capS_le room _ S h1 h
      · exact h
    · split
      · have := outS_le (fun q => underF q a.path) S
        show ((outS (fun q => underF q a.path) S).length : Int) ≤ room
        omega
      · exact h
theorem doF_ask (room : Int) (S : List Ln) (a : Ac) (h0 : a.act = 0) (h : (doF room S a).ok = false) : (doF room S a).S = S := by
  unfold doF at h ⊢
  rw [if_pos h0] at h ⊢
  cases hx : askX S a.path a.st with
  | none => rfl
  | some x => rw [hx] at h; cases h
theorem doF_tell (room : Int) (S : List Ln) (a : Ac) (h0 : a.act = 1) : (doF room S a).e = tellE a.path a.st a.sum ∧ (doF room S a).S = if tellE a.path a.st a.sum = 0 then capS room (lastS (tellX a.path a.st a.sum) S) else S := by
  unfold doF
  rw [if_neg (by omega), if_pos h0]
  exact ⟨rfl, rfl⟩
theorem paths_len (S : List Ln) : (paths S).length = S.length := by unfold paths; rw [List.length_map]
theorem act_cells {w : World} {A : Option Addr} {n : Nat} {l : List S36} (h : Kd.C k36 w A n l) (i : Nat) (h1 : i < n) : ∃ ad, A = some ad ∧ w.cell? (ad.add (i * 13)) = some (.int .i64 (rd_T36 l (i : Int)).f0) ∧ w.cell? ⟨(ad.add (i * 13)).block, (ad.add (i * 13)).off + 1, none⟩ = some (.string (rd_T36 l (i : Int)).f1) ∧ w.cell? ⟨(ad.add (i * 13)).block, (ad.add (i * 13)).off + 2, none⟩ = some (.int .i64 (rd_T36 l (i : Int)).f2.f0) ∧ w.cell? ⟨(ad.add (i * 13)).block, (ad.add (i * 13)).off + 3, none⟩ = some (.int .i64 (rd_T36 l (i : Int)).f2.f1) ∧ w.cell? ⟨(ad.add (i * 13)).block, (ad.add (i * 13)).off + 4, none⟩ = some (.int .i64 (rd_T36 l (i : Int)).f2.f2) ∧ w.cell? ⟨(ad.add (i * 13)).block, (ad.add (i * 13)).off + 5, none⟩ = some (.int .i64 (rd_T36 l (i : Int)).f2.f3) ∧ w.cell? ⟨(ad.add (i * 13)).block, (ad.add (i * 13)).off + 6, none⟩ = some (.int .i64 (rd_T36 l (i : Int)).f2.f4.f0) ∧ w.cell? ⟨(ad.add (i * 13)).block, (ad.add (i * 13)).off + 7, none⟩ = some (.int .i64 (rd_T36 l (i : Int)).f2.f4.f1) ∧ w.cell? ⟨(ad.add (i * 13)).block, (ad.add (i * 13)).off + 8, none⟩ = some (.int .i64 (rd_T36 l (i : Int)).f2.f4.f2) ∧ w.cell? ⟨(ad.add (i * 13)).block, (ad.add (i * 13)).off + 9, none⟩ = some (.int .i64 (rd_T36 l (i : Int)).f2.f4.f3) ∧ w.cell? ⟨(ad.add (i * 13)).block, (ad.add (i * 13)).off + 10, none⟩ = some (.int .i64 (rd_T36 l (i : Int)).f2.f4.f4) ∧ w.cell? ⟨(ad.add (i * 13)).block, (ad.add (i * 13)).off + 11, none⟩ = some (.string (rd_T36 l (i : Int)).f2.f5) ∧ w.cell? ⟨(ad.add (i * 13)).block, (ad.add (i * 13)).off + 12, none⟩ = some (.string (rd_T36 l (i : Int)).f3) := by
  have := at_T36 h (i : Int) (by omega) (by omega)
  rw [Int.toNat_natCast] at this
  exact this
end LOnce
section
open LOnce
def remoralaw33_LedgerOnce.f (a0 : Int) (l1 : List S36) : Option Bool := some true
def remoralaw33_LedgerOnce.Pure : Prop := True
set_option maxHeartbeats 16000000 in
set_option maxRecDepth 100000 in
theorem once_main (most : Int) (hm : 1 ≤ most ∧ most ≤ 6) (a0 : Int) (hmost : wrap64 (1 + Int.tmod (wrap64 a0) 6) = most) (A : Option Addr) (c : Nat) (l : List S36) (w : World) (hr : Kd.C k36 w A l.length l) (hc : l.length ≤ c) (hmx : l.length ≤ 2000000000000) :
    Calls Try.prog 4 #[.int .u8 a0, .slice A l.length c] w fun e w' => e = .returned (.bool true) ∧ Below w.heap.size w w' := by
  have HNew := Aside0.mk (led_New.at_ most w (by rw [Bool.or_eq_false_iff]; exact ⟨decide_eq_false (by omega), decide_eq_false (by omega)⟩))
  obtain ⟨b, hb, hbs⟩ := small_f l hmx
  have HSm := Aside0.mk (fun (w : World) (h : Kd.C k36 w A l.length l) => remoraref33_Small.calls (l.length + 1) A c l b w h hc hb)
  have HBS := Aside0.mk hbs
  have HC := Aside0.mk hr
  have HM := Aside0.mk hm
  have hmost' := hmost
  obtain ⟨m, hml⟩ : ∃ m, m = l.length := ⟨_, rfl⟩
  rw [← hml] at HC HSm ⊢
  have HML := Aside0.mk hml
  clear hm hr hc hb hbs hmx hml
  go_enter Try.func4, Try.ntmps4
  go_wp2_with fail
  refine HNew.out.mono ?_
  rintro e w1 ⟨p, mb, rfl, hL, hB⟩
  have HL1 := Aside0.mk hL
  have HB1 := Aside0.mk hB
  have HP0 : Aside0 (w.heap.size ≤ p ∧ w.heap.size ≤ mb) := ⟨⟨hL.hp0, hL.hm0⟩⟩
  clear hL hB HNew
  go_wp2_with fail
  refine (HSm.out w1 (Kd.C_below HC.out HB1.out)).mono ?_
  rintro e w2 ⟨rfl, hd⟩
  have HL2 := Aside0.mk (HL1.out.below hd.below)
  have HB2 := Aside0.mk (ld_step HB1.out hd.below)
  clear hd HSm HL1 HB1
  cases hbb : b with
  | false =>
    go_wp2_with fail
    refine (law_awake.at_ w2).mono ?_
    rintro e w3 ⟨rfl, hb3⟩
    have HB3 := Aside0.mk (ld_step HB2.out hb3)
    clear hb3
    go_wp2
    go_ret
    exact ⟨rfl, HB3.out⟩
  | true =>
  have HSZ := Aside0.mk (HBS.out hbb)
  clear HBS
  subst hbb
  go_wp2
  go_loopg [8, 9, 10, 11, 12, 13, 14, 15, 16] m (fun g v8 v9 v10 v11 v12 v13 v14 v15 v16 w' => ∃ (i n : Nat) (v : Value) (S : List Ln), g = m - i ∧ v8 = .int .i64 i ∧ Aside0 (i ≤ m ∧ n ≤ i ∧ (S.length : Int) ≤ most) ∧ Aside0 (Lg w.heap.size p mb n most v S w') ∧ Aside0 (Bm p mb w2 w'))
  case atStart => exact ⟨0, 0, _, [], rfl, rfl, ⟨by have := HM.out; simp; omega⟩, HL2, ⟨Bm.refl _ _ _⟩⟩
  case round =>
    clear HL2
    obtain ⟨i, n, v, S, rfl, rfl, HI, HL, HBm⟩ := hrel
    by_cases c1 : i < m
    rotate_left
    · have e1 : decide ((i : Int) < (m : Int)) = false := decide_eq_false (by omega)
      have e1' : decide (i < m) = false := decide_eq_false c1
      clear c1
      go_wp2_with fail
      refine (law_awake.at_ wr).mono ?_
      rintro e w3 ⟨rfl, hb3⟩
      have HB3 := Aside0.mk (HBm.out.below hb3)
      clear hb3
      go_wp2
      go_ret
      exact ⟨rfl, HB3.out.to HB2.out (Nat.le_refl _) HP0.out.1 HP0.out.2⟩
    have e1 : decide ((i : Int) < (m : Int)) = true := decide_eq_true (by omega)
    have e1' : decide (i < m) = true := decide_eq_true c1
    have e1n : (i < m) = True := eq_true c1
    have e1i : ((i : Int) < (m : Int)) = True := eq_true (by omega)
    have hi0 : (0 ≤ (i : Int)) = True := eq_true (by omega)
    have C1 := Aside0.mk c1
    clear c1
    go_wp2_with fail
    refine (led_Paths.at_ _ p mb n most v S wr HL.out).mono ?_
    rintro e w3 ⟨vp, rfl, hR3, hb3⟩
    have HL3 := Aside0.mk (HL.out.below hb3)
    have HB3 := Aside0.mk (HBm.out.below hb3)
    have HR3 := Aside0.mk (Kd.R_mono (Kd.R_bound hR3) (fun j hj => show j ≠ p ∧ j ≠ mb from by
      have h1 := blk_lt HL.out.hP; have h2 := HL.out.hM.lt; have := hj.2.1; exact ⟨by omega, by omega⟩))
    have HW3 := Aside0.mk (HB3.out.to HB2.out (Nat.le_refl _) HP0.out.1 HP0.out.2)
    obtain ⟨ad, rfl, d0, d1, d2, d3, d4, d5, d6, d7, d8, d9, d10, d11, d12⟩ := act_cells (Kd.C_below HC.out HW3.out) i C1.out
    have HX := Aside0.mk (HSZ.out.2 i (by have := C1.out; have := HML.out; omega))
    generalize hrd : rd_T36 l (i : Int) = x at d0 d1 d2 d3 d4 d5 d6 d7 d8 d9 d10 d11 d12 HX
    have HRD := Aside0.mk hrd
    clear hR3 hb3 HL HBm hrd
    obtain ⟨Ap, cp, rfl⟩ := Kd.R_slice HR3.out
    obtain ⟨mp, hmp⟩ : ∃ mp, mp = (paths S).length := ⟨_, rfl⟩
    rw [← hmp] at HR3 ⊢
    have HMP := Aside0.mk hmp
    have hDo := law_Do.at_ w.heap.size p mb n most v S (acOf x) w3 HL3.out (by have := HX.out; show x.f1.size ≤ 1000000; omega) (by have := HI.out; have := HM.out; omega) (by have := HI.out; have := HSZ.out.1; have := HML.out; omega)
    have hRl := doF_len most S (acOf x) HM.out.1 HI.out.2.2
    have hRa := doF_ask most S (acOf x)
    have hRt := doF_tell most S (acOf x)
    generalize doF most S (acOf x) = dr at hDo hRl hRa hRt
    unfold acV acC acOf at hDo
    dsimp only at hDo
    have HDo := Aside0.mk hDo
    have HRl := Aside0.mk hRl
    have HRa := Aside0.mk hRa
    have HRt := Aside0.mk hRt
    clear hDo hRl hRa hRt
    have HNS := Aside0.mk HL3.out.hN
    clear hmp
    go_wp2_with fail
    refine HDo.out.mono ?_
    rintro e w4 ⟨rfl, v4, hL4, hB4⟩
    have HL4 := Aside0.mk hL4
    have HB4 := Aside0.mk (HB3.out.trans hB4)
    have HR4 := Aside0.mk (R_bm HR3.out hB4)
    clear hL4 hB4 HDo HL3 HB3 HR3 HW3 d0 d1 d2 d3 d4 d5 d6 d7 d8 d9 d10 d11 d12
    unfold reV
    go_wp2_with fail
    refine (led_Paths.at_ _ p mb (n + 1) most v4 dr.S w4 HL4.out).mono ?_
    rintro e w5 ⟨vq, rfl, hR5, hb5⟩
    have HL5 := Aside0.mk (HL4.out.below hb5)
    have HB5 := Aside0.mk (HB4.out.below hb5)
    have HR5 := Aside0.mk (Kd.R_below HR4.out hb5)
    have HW5 := Aside0.mk (HB5.out.to HB2.out (Nat.le_refl _) HP0.out.1 HP0.out.2)
    obtain ⟨Aq, cq, rfl, hcq, hCq⟩ := Kd.R_reads hR5
    obtain ⟨mq, hmq⟩ : ∃ mq, mq = (paths dr.S).length := ⟨_, rfl⟩
    have hmq2 : dr.S.length = mq := by rw [hmq, paths_len]
    rw [← hmq] at hCq hcq ⊢
    have HMQ := Aside0.mk (And.intro hmq hmq2)
    have HCQ := Aside0.mk hCq
    have HCC := Aside0.mk hcq
    have HLen := Aside0.mk (led_Len.at_ _ p mb (n + 1) most v4 dr.S w5 HL5.out)
    rw [hmq2] at HLen
    have hq1 : decide (most < (mq : Int)) = false := decide_eq_false (by have := HRl.out; rw [hmq2] at this; omega)
    have hq2 : ((mq : Int) != (mq : Int)) = false := by simp
    have HNQ := Aside0.mk HL5.out.hN
    clear hR5 hb5 hcq hCq hmq hmq2 HL4 HB4 HR4
    go_wp2_with fail
    refine HLen.out.mono ?_
    rintro e w6 ⟨rfl, rfl⟩
    clear HLen
    go_wp2
    go_loopg [15, 16] mq (fun g v15 v16 w' => ∃ k : Nat, g = mq - k ∧ v15 = .int .i64 k ∧ Aside0 (k ≤ mq) ∧ Drawn0 w6 w')
    case atStart => exact ⟨0, rfl, rfl, ⟨Nat.zero_le _⟩, Drawn0.refl _⟩
    case round =>
      obtain ⟨k, rfl, rfl, HK, ⟨nd, rfl⟩⟩ := hrel
      by_cases k1 : k < mq
      · have ek : decide ((k : Int) < (mq : Int)) = true := decide_eq_true (by omega)
        have ek' : decide (k < mq) = true := decide_eq_true k1
        have ekn : (k < mq) = True := eq_true k1
        have eki : ((k : Int) < (mq : Int)) = True := eq_true (by omega)
        have hk0 : (0 ≤ (k : Int)) = True := eq_true (by omega)
        have K1 := Aside0.mk k1
        have haddk : wrap64 ((k : Int) + 1) = ((k + 1 : Nat) : Int) := by have := HRl.out; have := HM.out; have := HMQ.out.2; unfold wrap64; omega
        clear k1
        go_wp2
        go_loopg [16] k (fun g v16 w' => ∃ j : Nat, g = k - j ∧ v16 = .int .i64 j ∧ Aside0 (j ≤ k) ∧ Drawn0 w6 w')
        case atStart => exact ⟨0, rfl, rfl, ⟨Nat.zero_le _⟩, ⟨nd, rfl⟩⟩
        case round =>
          obtain ⟨j, rfl, rfl, HJ, ⟨nd2, rfl⟩⟩ := hrel
          by_cases j1 : j < k
          · have ej : decide ((j : Int) < (k : Int)) = true := decide_eq_true (by omega)
            have ej' : decide (j < k) = true := decide_eq_true j1
            have ejn : (j < mq) = True := eq_true (by have := K1.out; omega)
            have eji : ((j : Int) < (mq : Int)) = True := eq_true (by have := K1.out; omega)
            have hj0 : (0 ≤ (j : Int)) = True := eq_true (by omega)
            have HCQ2 := HCQ.out
            rw [HMQ.out.1] at HCQ2
            obtain ⟨aq, y, rfl, hy, hcell⟩ := str_at (Kd.C_drewN HCQ2 nd2) j (by have := K1.out; have := HMQ.out; omega)
            obtain ⟨aq', z, haq, hz, hcell'⟩ := str_at (Kd.C_drewN HCQ2 nd2) k (by have := K1.out; have := HMQ.out; omega)
            cases haq
            have hne : (y.toList == z.toList) = false := by
              rw [beq_eq_false_iff_ne]
              intro h
              have h2 := toList_inj.1 h
              subst h2
              have := (List.getElem?_inj (by have := HMQ.out; have := K1.out; omega) HNQ.out).1 (hy.trans hz.symm)
              omega
            have hca : ∀ q, (w6.drewN q).cell? (aq.add j) = some (.string y) := fun q => hcell
            have hca' : ∀ q, (w6.drewN q).cell? (aq.add k) = some (.string z) := fun q => hcell'
            have J1 := Aside0.mk j1
            have haddj : wrap64 ((j : Int) + 1) = ((j + 1 : Nat) : Int) := by have := K1.out; have := HRl.out; have := HM.out; have := HMQ.out.2; unfold wrap64; omega
            clear hy hz j1 HCQ2
            go_wp2
            repeat (go_quiet (fail); try go_wp2)
            go_roundg (k - (j + 1))
            case measure => have := J1.out; omega
            case rel => exact ⟨j + 1, rfl, by first | rfl | rw [haddj], ⟨by have := J1.out; omega⟩, by repeat (first | exact Drawn0.refl _ | apply Drawn0.step)⟩
          · have ej : decide ((j : Int) < (k : Int)) = false := decide_eq_false (by omega)
            have ej' : decide (j < k) = false := decide_eq_false j1
            clear j1
            go_wp2
            go_roundg (mq - (k + 1))
            case measure => have := K1.out; omega
            case rel => exact ⟨k + 1, rfl, by first | rfl | rw [haddk], ⟨by have := K1.out; omega⟩, ⟨nd2, rfl⟩⟩
      · have ek : decide ((k : Int) < (mq : Int)) = false := decide_eq_false (by omega)
        have ek' : decide (k < mq) = false := decide_eq_false k1
        clear k1
        have HW7 := Aside0.mk (pw_below_drewN HW5.out nd)
        have HL7 := Aside0.mk (HL5.out.below (pw_below_drewN (Below.refl _ _) nd))
        have HB7 := Aside0.mk (HB5.out.below (pw_below_drewN (Below.refl _ _) nd))
        have HCQ7 := Aside0.mk (Kd.C_drewN HCQ.out nd)
        have HCP7 := Aside0.mk (Kd.C_drewN (Kd.R_reads' HR5.out).2.2 nd)
        have HCPc := Aside0.mk (Kd.R_reads' HR5.out).2.1
        clear HL5 HB5 HW5 HR5 HCQ
        generalize w6.drewN nd = w7 at HW7 HL7 HB7 HCQ7 HCP7 ⊢
        obtain ⟨ad1, hadq1, d0, d1, d2, d3, d4, d5, d6, d7, d8, d9, d10, d11, d12⟩ := act_cells (Kd.C_below HC.out HW7.out) i C1.out
        cases hadq1
        rw [HRD.out] at d0 d1 d2 d3 d4 d5 d6 d7 d8 d9 d10 d11 d12
        have haddi : wrap64 ((i : Int) + 1) = ((i + 1 : Nat) : Int) := by have := C1.out; have := HML.out; have := HSZ.out.1; unfold wrap64; omega
        have HTx : Aside0 (dr.S = S → Calls Try.prog 13 #[.slice Ap mp cp, .slice Aq mq cq] w7 fun e w' => e = .returned (.bool true) ∧ Drawn0 w7 w') := ⟨fun e => by
          have hC1 := HCP7.out
          have hC2 := HCQ7.out
          have hc1 := HCPc.out
          have hc2 := HCC.out
          have hp := HMP.out
          have hq := HMQ.out.1
          rw [hq] at hC2 hc2 ⊢
          rw [hp] at hc1 ⊢
          rw [e] at hC2 hc2 ⊢
          exact remoraref17_Texts.calls _ Ap cp (paths S) Aq cq (paths S) true w7 hC1 hc1 hC2 hc2 (texts_f (paths S) (by have := HI.out; have := HM.out; rw [paths_len]; omega))⟩
        by_cases a0_ : x.f0 = 0
        · have ea : (x.f0 == 0) = true := beq_iff_eq.mpr a0_
          have ea1 : (x.f0 == 1) = false := beq_eq_false_iff_ne.mpr (by omega)
          cases hok : dr.ok with
          | false =>
            have HSS := Aside0.mk (HRa.out a0_ hok)
            clear a0_
            go_wp2_with fail
            refine (HTx.out (by exact HSS.out)).mono ?_
            rintro e w8 ⟨rfl, hd8⟩
            have HL8 := Aside0.mk (HL7.out.below hd8.below)
            have HB8 := Aside0.mk (HB7.out.below hd8.below)
            have HW8 := Aside0.mk (ld_step HW7.out hd8.below)
            clear hd8 d0 d1 d2 d3 d4 d5 d6 d7 d8 d9 d10 d11 d12
            obtain ⟨ad2, hadq, d0, d1, d2, d3, d4, d5, d6, d7, d8, d9, d10, d11, d12⟩ := act_cells (Kd.C_below HC.out HW8.out) i C1.out
            cases hadq
            rw [HRD.out] at d0 d1 d2 d3 d4 d5 d6 d7 d8 d9 d10 d11 d12
            go_wp2
            repeat (go_quiet (fail); try go_wp2)
            go_roundg (m - (i + 1))
            case measure => have := C1.out; omega
            case rel => exact ⟨i + 1, n + 1, v4, dr.S, rfl, by first | rfl | rw [haddi], ⟨by have := C1.out; have := HI.out; have := HRl.out; omega⟩, by first | exact HL8 | exact ⟨HL8.out.below (by repeat (first | exact Below.refl _ _ | apply pw_below_drewN | apply below_drew))⟩, by first | exact HB8 | exact ⟨HB8.out.below (by repeat (first | exact Below.refl _ _ | apply pw_below_drewN | apply below_drew))⟩⟩
          | true =>
            clear a0_
            have HL8 := HL7
            have HB8 := HB7
            go_wp2
            repeat (go_quiet (fail); try go_wp2)
            go_roundg (m - (i + 1))
            case measure => have := C1.out; omega
            case rel => exact ⟨i + 1, n + 1, v4, dr.S, rfl, by first | rfl | rw [haddi], ⟨by have := C1.out; have := HI.out; have := HRl.out; omega⟩, by first | exact HL8 | exact ⟨HL8.out.below (by repeat (first | exact Below.refl _ _ | apply pw_below_drewN | apply below_drew))⟩, by first | exact HB8 | exact ⟨HB8.out.below (by repeat (first | exact Below.refl _ _ | apply pw_below_drewN | apply below_drew))⟩⟩
        have ea : (x.f0 == 0) = false := beq_eq_false_iff_ne.mpr a0_
        by_cases a1_ : x.f0 = 1
        · have ea1 : (x.f0 == 1) = true := beq_iff_eq.mpr a1_
          obtain ⟨hre, hrs⟩ := HRt.out a1_
          rw [← hre] at hrs
          by_cases ez : dr.e = 0
          · rw [if_pos ez] at hrs
            have ez1 : (dr.e == 0) = true := beq_iff_eq.mpr ez
            have ez2 : (dr.e != 0) = false := bne_eq_false_iff_eq.mpr ez
            obtain ⟨T, hT⟩ := capS_last most (tellX (acOf x).path (acOf x).st (acOf x).sum) S HM.out.1
            have hge := capS_ge most (tellX (acOf x).path (acOf x).st (acOf x).sum) S HM.out.1 HI.out.2.2 HNS.out
            rw [← hrs] at hT hge
            have hmq1 : mq = T.length + 1 := by rw [← HMQ.out.2, hT]; simp
            have hle : mp ≤ mq := by have := HMP.out; rw [paths_len] at this; have := HMQ.out.2; omega
            obtain ⟨l1, hl1⟩ : ∃ l1, l1 = T.length := ⟨_, rfl⟩
            rw [← hl1] at hmq1
            have hsub : wrap64 ((mq : Int) - 1) = (l1 : Int) := by have := HRl.out; have := HM.out; have := HMQ.out.2; unfold wrap64; omega
            have hz0 : ((mq : Int) == 0) = false := beq_eq_false_iff_ne.mpr (by omega)
            have hz1 : decide ((mq : Int) < (mp : Int)) = false := decide_eq_false (by omega)
            have hz2 : decide (mq < mp) = false := decide_eq_false (by omega)
            have hn1 : (l1 < mq) = True := eq_true (by omega)
            have hn2 : ((l1 : Int) < (mq : Int)) = True := eq_true (by omega)
            have hn3 : (0 ≤ (l1 : Int)) = True := eq_true (by omega)
            have HCQ2 := HCQ7.out
            rw [HMQ.out.1] at HCQ2
            obtain ⟨aq, y, rfl, hy, hcell⟩ := str_at HCQ2 l1 (by have := HMQ.out; omega)
            have hyx : y = x.f1 := by
              rw [hT] at hy
              unfold paths at hy
              rw [List.map_append, List.getElem?_append_right (by rw [List.length_map]; omega), List.length_map, hl1, Nat.sub_self] at hy
              exact (Option.some.inj hy).symm
            subst hyx
            have hyy : (x.f1.toList == x.f1.toList) = true := by simp
            have hca : ∀ q, (w7.drewN q).cell? (aq.add l1) = some (.string x.f1) := fun q => hcell
            clear a0_ a1_ hre hrs hT hge hle hy HCQ2 ez hmq1 hl1
            have HL8 := HL7
            have HB8 := HB7
            go_wp2
            repeat (go_quiet (fail); try go_wp2)
            go_roundg (m - (i + 1))
            case measure => have := C1.out; omega
            case rel => exact ⟨i + 1, n + 1, v4, dr.S, rfl, by first | rfl | rw [haddi], ⟨by have := C1.out; have := HI.out; have := HRl.out; omega⟩, by first | exact HL8 | exact ⟨HL8.out.below (by repeat (first | exact Below.refl _ _ | apply pw_below_drewN | apply below_drew))⟩, by first | exact HB8 | exact ⟨HB8.out.below (by repeat (first | exact Below.refl _ _ | apply pw_below_drewN | apply below_drew))⟩⟩
          · rw [if_neg ez] at hrs
            have ez1 : (dr.e == 0) = false := beq_eq_false_iff_ne.mpr ez
            have ez2 : (dr.e != 0) = true := bne_iff_ne.mpr ez
            have HSS := Aside0.mk hrs
            clear a0_ a1_ hre hrs ez
            go_wp2_with fail
            refine (HTx.out (by exact HSS.out)).mono ?_
            rintro e w8 ⟨rfl, hd8⟩
            have HL8 := Aside0.mk (HL7.out.below hd8.below)
            have HB8 := Aside0.mk (HB7.out.below hd8.below)
            have HW8 := Aside0.mk (ld_step HW7.out hd8.below)
            clear hd8 d0 d1 d2 d3 d4 d5 d6 d7 d8 d9 d10 d11 d12
            obtain ⟨ad2, hadq, d0, d1, d2, d3, d4, d5, d6, d7, d8, d9, d10, d11, d12⟩ := act_cells (Kd.C_below HC.out HW8.out) i C1.out
            cases hadq
            rw [HRD.out] at d0 d1 d2 d3 d4 d5 d6 d7 d8 d9 d10 d11 d12
            go_wp2
            repeat (go_quiet (fail); try go_wp2)
            go_roundg (m - (i + 1))
            case measure => have := C1.out; omega
            case rel => exact ⟨i + 1, n + 1, v4, dr.S, rfl, by first | rfl | rw [haddi], ⟨by have := C1.out; have := HI.out; have := HRl.out; omega⟩, by first | exact HL8 | exact ⟨HL8.out.below (by repeat (first | exact Below.refl _ _ | apply pw_below_drewN | apply below_drew))⟩, by first | exact HB8 | exact ⟨HB8.out.below (by repeat (first | exact Below.refl _ _ | apply pw_below_drewN | apply below_drew))⟩⟩
        have ea1 : (x.f0 == 1) = false := beq_eq_false_iff_ne.mpr a1_
        clear a0_ a1_
        have HL8 := HL7
        have HB8 := HB7
        go_wp2
        repeat (go_quiet (fail); try go_wp2)
        go_roundg (m - (i + 1))
        case measure => have := C1.out; omega
        case rel => exact ⟨i + 1, n + 1, v4, dr.S, rfl, by first | rfl | rw [haddi], ⟨by have := C1.out; have := HI.out; have := HRl.out; omega⟩, by first | exact HL8 | exact ⟨HL8.out.below (by repeat (first | exact Below.refl _ _ | apply pw_below_drewN | apply below_drew))⟩, by first | exact HB8 | exact ⟨HB8.out.below (by repeat (first | exact Below.refl _ _ | apply pw_below_drewN | apply below_drew))⟩⟩
theorem remoralaw33_LedgerOnce.walk (P : remoralaw33_LedgerOnce.Pure) (a0 : Int) (a1 : Option Addr) (cap1 : Nat) (l1 : List S36) (w : World) (w0 : (Lit.int .u8 a0).wf = true) (hr1 : Kd.C k36 w a1 l1.length l1) (hc1 : l1.length ≤ cap1) (hm1 : l1.length ≤ maxLen) (y1 : l1.length * 128 ≤ 140737488351232) (hw1 : ∀ x ∈ l1, (((Lit.int .i64 x.f0).wf = true) ∧ (x.f1.size ≤ 140737488351232) ∧ ((((Lit.int .i64 x.f2.f0).wf = true) ∧ ((Lit.int .i64 x.f2.f1).wf = true) ∧ ((Lit.int .i64 x.f2.f2).wf = true) ∧ ((Lit.int .i64 x.f2.f3).wf = true) ∧ ((((Lit.int .i64 x.f2.f4.f0).wf = true) ∧ ((Lit.int .i64 x.f2.f4.f1).wf = true) ∧ ((Lit.int .i64 x.f2.f4.f2).wf = true) ∧ ((Lit.int .i64 x.f2.f4.f3).wf = true) ∧ ((Lit.int .i64 x.f2.f4.f4).wf = true))) ∧ (x.f2.f5.size ≤ 140737488351232))) ∧ (x.f3.size ≤ 140737488351232))) :
    Calls Try.prog 4 #[.int .u8 a0, .slice a1 l1.length cap1] w fun e w' => e = .returned (.bool true) ∧ Below w.heap.size w w' := by
  have ha : 0 ≤ a0 ∧ a0 ≤ 255 := by simp [Lit.wf, IntKind.min, IntKind.max, IntKind.signed, IntKind.bits] at w0; omega
  have hw : wrap64 a0 = a0 := by unfold wrap64; omega
  have ht : Int.tmod a0 6 = a0 % 6 := Int.tmod_eq_emod_of_nonneg ha.1
  exact once_main (1 + a0 % 6) (by omega) a0 (by rw [hw, ht]; unfold wrap64; omega) a1 cap1 l1 w hr1 hc1 (by omega)
end


end Go.Proofs.Ytniboafnkiijcaa.P
