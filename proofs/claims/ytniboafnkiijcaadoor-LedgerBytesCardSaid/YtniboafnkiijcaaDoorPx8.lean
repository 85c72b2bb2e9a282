-- Written by a program of the session (wip/tool/mk.py) out of the translation; Lean checks it.
import Derived.Test.YtniboafnkiijcaaDoorPx0
import Derived.Test.YtniboafnkiijcaaDoorPx1
import Derived.Test.YtniboafnkiijcaaDoorPx2
import Derived.Test.YtniboafnkiijcaaDoorPx3
import Derived.Test.YtniboafnkiijcaaDoorPx7
namespace Go.Proofs.YtniboafnkiijcaaDoor.P
open Go.RowKit Go.Proofs.YtniboafnkiijcaaDoorW.PrintWords Go.Proofs.YtniboafnkiijcaaDoorW.PrintLast Go.Proofs.YtniboafnkiijcaaDoorW.PrintMore
attribute [local go_sem] max2_int min2_int max_two min_two max_three min_three max_four min_four   -- for this text's walks alone
set_option linter.unusedVariables false
set_option linter.unusedSimpArgs false

/-! ### remoralaw33_LedgerPlays: function 4, a contract of my own -/
def remoralaw33_LedgerPlays.f (a0 : Int) (l1 : List S39) : Option Bool := some true
def remoralaw33_LedgerPlays.Pure : Prop := True
theorem cap_same (room : Int) (S : List Ln) (h : (S.length : Int) ≤ room) : ∀ x ∈ S, capS room (lastS x S) = lastS x S := fun x hx => by
  have h2 := lastS_len x S
  have h3 := outS_lt hx
  unfold capS
  rw [if_neg (by omega)]
set_option maxHeartbeats 16000000 in
set_option maxRecDepth 100000 in
theorem plays_main (room : Int) (A : Option Addr) (c : Nat) (l : List S39) (w : World) (hr : Kd.C k39 w A l.length l) (hc : l.length ≤ c) (hmx : l.length ≤ 2000000000000) :
    Calls Tryd.prog 4 #[.int .i64 room, .slice A l.length c] w fun e w' => e = .returned (.bool true) ∧ Below w.heap.size w w' := by
  obtain ⟨b, hb, hbs⟩ := small_f l hmx
  have HSm := Aside0.mk (remoraref33_Small.calls (l.length + 1) A c l b w hr hc hb)
  have HBS := Aside0.mk hbs
  have HC := Aside0.mk hr
  obtain ⟨m, hml⟩ : ∃ m, m = l.length := ⟨_, rfl⟩
  rw [← hml] at HC HSm ⊢
  have HML := Aside0.mk hml
  clear hr hc hb hbs hmx hml
  go_enter Tryd.func4, Tryd.ntmps4
  go_wp2_with fail
  refine HSm.out.mono ?_
  rintro e w1 ⟨rfl, hd⟩
  have HB1 := Aside0.mk hd.below
  clear hd HSm
  cases hbb : b with
  | false =>
    go_wp2_with fail
    refine (law_awake.at_ w1).mono ?_
    rintro e w3 ⟨rfl, hb3⟩
    have HB3 := Aside0.mk (ld_step HB1.out hb3)
    clear hb3
    go_wp2
    go_ret
    exact ⟨rfl, HB3.out⟩
  | true =>
  have HSZ := Aside0.mk (HBS.out hbb)
  clear HBS
  subst hbb
  cases hroom : (decide (room < 1) || decide (room > 4096)) with
  | true =>
    have HNb := Aside0.mk (led_New.bad room w1 hroom)
    have HRb := Aside0.mk (ref_New.bad room w1 hroom)
    clear hroom
    go_wp2_with fail
    refine HNb.out.mono ?_
    rintro e w2 ⟨rfl, rfl⟩
    go_wp2_with fail
    refine HRb.out.mono ?_
    rintro e w3 ⟨rfl, rfl⟩
    clear HNb HRb
    go_wp2
    go_loopg [10, 11, 12, 13, 14, 15, 16, 17, 18, 19, 20, 21, 22] m (fun g v10 v11 v12 v13 v14 v15 v16 v17 v18 v19 v20 v21 v22 w' => ∃ (i : Nat), g = m - i ∧ v10 = .int .i64 i ∧ Aside0 (i ≤ m) ∧ Aside0 (Below w.heap.size w w'))
    case atStart => exact ⟨0, rfl, rfl, ⟨Nat.zero_le _⟩, HB1⟩
    case round =>
      obtain ⟨i, rfl, rfl, HI, HW⟩ := hrel
      by_cases c1 : i < m
      rotate_left
      · have e1 : decide ((i : Int) < (m : Int)) = false := decide_eq_false (by omega)
        have e1' : decide (i < m) = false := decide_eq_false c1
        clear c1
        go_wp2_with fail
        refine (led_Len.nil wr).mono ?_
        rintro e w3 ⟨rfl, hb⟩
        have HW3 := Aside0.mk (ld_step HW.out hb)
        clear hb HW
        go_wp2_with fail
        refine (led_Paths.nil w3).mono ?_
        rintro e w4 ⟨rfl, hb⟩
        have HW4 := Aside0.mk (ld_step HW3.out hb)
        clear hb HW3
        go_wp2_with fail
        refine (led_Bytes.nil w4).mono ?_
        rintro e w5 ⟨rfl, hb⟩
        have HW5 := Aside0.mk (ld_step HW4.out hb)
        clear hb HW4
        go_wp2_with fail
        refine (law_awake.at_ w5).mono ?_
        rintro e w6 ⟨rfl, hb⟩
        have HW6 := Aside0.mk (ld_step HW5.out hb)
        clear hb HW5
        go_wp2
        go_ret
        exact ⟨rfl, HW6.out⟩
      have e1 : decide ((i : Int) < (m : Int)) = true := decide_eq_true (by omega)
      have e1' : decide (i < m) = true := decide_eq_true c1
      have e1n : (i < m) = True := eq_true c1
      have e1i : ((i : Int) < (m : Int)) = True := eq_true (by omega)
      have hi0 : (0 ≤ (i : Int)) = True := eq_true (by omega)
      have C1 := Aside0.mk c1
      have haddi : wrap64 ((i : Int) + 1) = ((i + 1 : Nat) : Int) := by have := HML.out; have := HSZ.out.1; unfold wrap64; omega
      clear c1
      obtain ⟨ad, rfl, d0, d1, d2, d3, d4, d5, d6, d7, d8, d9, d10, d11, d12⟩ := act_cells (Kd.C_below HC.out HW.out) i C1.out
      have HX := Aside0.mk (HSZ.out.2 i (by have := C1.out; have := HML.out; omega))
      generalize hrd : rd_T39 l (i : Int) = x at d0 d1 d2 d3 d4 d5 d6 d7 d8 d9 d10 d11 d12 HX
      have HRD := Aside0.mk hrd
      have hNil := law_Do.nil (acOf x) wr
      unfold acV acC acOf at hNil
      dsimp only at hNil
      have HNil := Aside0.mk hNil
      clear hrd hNil
      go_wp2_with fail
      refine HNil.out.mono ?_
      rintro e w2 ⟨rfl, hb⟩
      have HW2 := Aside0.mk (ld_step HW.out hb)
      clear hb HNil d0 d1 d2 d3 d4 d5 d6 d7 d8 d9 d10 d11 d12 HW
      obtain ⟨ad2, hadq2, d0, d1, d2, d3, d4, d5, d6, d7, d8, d9, d10, d11, d12⟩ := act_cells (Kd.C_below HC.out HW2.out) i C1.out
      cases hadq2
      rw [HRD.out] at d0 d1 d2 d3 d4 d5 d6 d7 d8 d9 d10 d11 d12
      have hne : (x.f0 == 1) = true ∧ nilE (acOf x) = 1 ∨ (x.f0 == 1) = false ∧ nilE (acOf x) = 0 := by
        by_cases k1 : x.f0 = 1
        · exact .inl ⟨beq_iff_eq.mpr k1, by unfold nilE acOf; rw [if_pos k1]⟩
        · exact .inr ⟨beq_eq_false_iff_ne.mpr k1, by unfold nilE acOf; rw [if_neg k1]⟩
      unfold acOf at hne
      rcases hne with ⟨k1, k2⟩ | ⟨k1, k2⟩
      all_goals
        rw [k2]
        have K2 := Aside0.mk k2
        clear k2
        go_wp2
        go_roundg (m - (i + 1))
        case measure => have := C1.out; omega
        case rel => exact ⟨i + 1, rfl, by first | rfl | rw [haddi], ⟨by have := C1.out; omega⟩, by first | exact HW2 | exact ⟨ld_step HW2.out (by repeat (first | exact Below.refl _ _ | apply pw_below_drewN | apply below_drew))⟩⟩
  | false =>
    have HRoom : Aside0 (1 ≤ room ∧ room ≤ 4096) := ⟨by
      obtain ⟨h1, h2⟩ := Bool.or_eq_false_iff.1 hroom
      have h1 := of_decide_eq_false h1
      have h2 := of_decide_eq_false h2
      omega⟩
    have HNb := Aside0.mk (led_New.at_ room w1 hroom)
    have HRb := Aside0.mk (fun w2 => ref_New.at_ room w2 hroom)
    clear hroom
    go_wp2_with fail
    refine HNb.out.mono ?_
    rintro e w2 ⟨p, mb, rfl, hL, hB⟩
    have HL2 := Aside0.mk hL
    have HB2 := Aside0.mk (ld_step HB1.out hB)
    clear hL hB
    go_wp2_with fail
    refine (HRb.out w2).mono ?_
    rintro e w3 ⟨q, rfl, hR, hB⟩
    have HL3 := Aside0.mk (HL2.out.below hB)
    have HR3 := Aside0.mk hR
    have HB3 := Aside0.mk (ld_step HB2.out hB)
    have HP0 : Aside0 (w.heap.size ≤ p ∧ w.heap.size ≤ mb ∧ w.heap.size ≤ q) := ⟨by have h1 := HL2.out.hp0; have h2 := HL2.out.hm0; have h3 := hR.hp0; have h4 := HB1.out.size; have h5 := HB2.out.size; exact ⟨by omega, by omega, by omega⟩⟩
    clear hR hB HNb HRb HL2
    obtain ⟨b1, hb1⟩ : ∃ b1, b1 = w1.heap.size := ⟨_, rfl⟩
    obtain ⟨b2, hb2⟩ : ∃ b2, b2 = w2.heap.size := ⟨_, rfl⟩
    rw [← hb1] at HL3
    rw [← hb2] at HR3
    clear hb1 hb2
    go_wp2
    go_loopg [10, 11, 12, 13, 14, 15, 16, 17, 18, 19, 20, 21, 22] m (fun g v10 v11 v12 v13 v14 v15 v16 v17 v18 v19 v20 v21 v22 w' => ∃ (i n : Nat) (v u : Value) (S : List Ln), g = m - i ∧ v10 = .int .i64 i ∧ Aside0 (i ≤ m ∧ n ≤ i ∧ (S.length : Int) ≤ room) ∧ Aside0 (Lg b1 p mb n room v S w') ∧ Aside0 (Rl b2 q room u S w') ∧ Aside0 (Below w.heap.size w w'))
    case atStart => exact ⟨0, 0, _, _, [], rfl, rfl, ⟨by have := HRoom.out; simp; omega⟩, HL3, HR3, HB3⟩
    case round =>
      obtain ⟨i, n, v, u, S, rfl, rfl, HI, HL, HR, HW⟩ := hrel
      by_cases c1 : i < m
      rotate_left
      · have e1 : decide ((i : Int) < (m : Int)) = false := decide_eq_false (by omega)
        have e1' : decide (i < m) = false := decide_eq_false c1
        clear c1
        go_wp2_with fail
        refine (led_Len.nil wr).mono ?_
        rintro e w3 ⟨rfl, hb⟩
        have HW3 := Aside0.mk (ld_step HW.out hb)
        clear hb HW
        go_wp2_with fail
        refine (led_Paths.nil w3).mono ?_
        rintro e w4 ⟨rfl, hb⟩
        have HW4 := Aside0.mk (ld_step HW3.out hb)
        clear hb HW3
        go_wp2_with fail
        refine (led_Bytes.nil w4).mono ?_
        rintro e w5 ⟨rfl, hb⟩
        have HW5 := Aside0.mk (ld_step HW4.out hb)
        clear hb HW4
        go_wp2_with fail
        refine (law_awake.at_ w5).mono ?_
        rintro e w6 ⟨rfl, hb⟩
        have HW6 := Aside0.mk (ld_step HW5.out hb)
        clear hb HW5
        go_wp2
        go_ret
        exact ⟨rfl, HW6.out⟩
      have e1 : decide ((i : Int) < (m : Int)) = true := decide_eq_true (by omega)
      have e1' : decide (i < m) = true := decide_eq_true c1
      have e1n : (i < m) = True := eq_true c1
      have e1i : ((i : Int) < (m : Int)) = True := eq_true (by omega)
      have hi0 : (0 ≤ (i : Int)) = True := eq_true (by omega)
      have C1 := Aside0.mk c1
      have haddi : wrap64 ((i : Int) + 1) = ((i + 1 : Nat) : Int) := by have := HML.out; have := HSZ.out.1; unfold wrap64; omega
      clear c1
      obtain ⟨ad, rfl, d0, d1, d2, d3, d4, d5, d6, d7, d8, d9, d10, d11, d12⟩ := act_cells (Kd.C_below HC.out HW.out) i C1.out
      have HX := Aside0.mk (HSZ.out.2 i (by have := C1.out; have := HML.out; omega))
      generalize hrd : rd_T39 l (i : Int) = x at d0 d1 d2 d3 d4 d5 d6 d7 d8 d9 d10 d11 d12 HX
      have HRD := Aside0.mk hrd
      have hNil := law_Do.nil (acOf x) wr
      unfold acV acC acOf at hNil
      dsimp only at hNil
      have HNil := Aside0.mk hNil
      clear hrd hNil
      go_wp2_with fail
      refine HNil.out.mono ?_
      rintro e w2 ⟨rfl, hb⟩
      have HW2 := Aside0.mk (ld_step HW.out hb)
      have HL2 := Aside0.mk (HL.out.below hb)
      have HR2 := Aside0.mk (HR.out.below hb)
      have hDo := law_Do.at_ b1 p mb n room v S (acOf x) w2 HL2.out (by have := HX.out; show x.f1.size ≤ 1000000; omega) (by have := HI.out; have := HRoom.out; omega) (by have := HI.out; have := HSZ.out.1; have := HML.out; omega)
      have hRl := doF_len room S (acOf x) HRoom.out.1 HI.out.2.2
      obtain ⟨dr, hdr⟩ : ∃ dr, doF room S (acOf x) = dr := ⟨_, rfl⟩
      rw [hdr] at hDo hRl
      unfold acV acC acOf at hDo
      dsimp only at hDo
      have HDo := Aside0.mk hDo
      have HRl := Aside0.mk hRl
      have HDR := Aside0.mk hdr
      have HNS := Aside0.mk HL2.out.hN
      have HZ := Aside0.mk HL2.out.hz
      clear hDo hRl hdr HL HR
      clear hb HNil d0 d1 d2 d3 d4 d5 d6 d7 d8 d9 d10 d11 d12 HW
      obtain ⟨ad2, hadq2, d0, d1, d2, d3, d4, d5, d6, d7, d8, d9, d10, d11, d12⟩ := act_cells (Kd.C_below HC.out HW2.out) i C1.out
      cases hadq2
      rw [HRD.out] at d0 d1 d2 d3 d4 d5 d6 d7 d8 d9 d10 d11 d12
      have hne : (x.f0 == 1) = true ∧ nilE (acOf x) = 1 ∨ (x.f0 == 1) = false ∧ nilE (acOf x) = 0 := by
        by_cases k1 : x.f0 = 1
        · exact .inl ⟨beq_iff_eq.mpr k1, by unfold nilE acOf; rw [if_pos k1]⟩
        · exact .inr ⟨beq_eq_false_iff_ne.mpr k1, by unfold nilE acOf; rw [if_neg k1]⟩
      unfold acOf at hne
      rcases hne with ⟨k1, k2⟩ | ⟨k1, k2⟩
      all_goals
        rw [k2]
        have K2 := Aside0.mk k2
        clear k2
        go_wp2_with fail
        refine HDo.out.mono ?_
        rintro e w3 ⟨rfl, v3, hL3, hB3⟩
        have HL4 := Aside0.mk hL3
        have HR4 := Aside0.mk (HR2.out.bm hB3 HL2.out)
        have HW3 := Aside0.mk (Bm.to hB3 HW2.out (Nat.le_refl _) HP0.out.1 HP0.out.2.1)
        clear hL3 hB3 HDo HL2 HR2 d0 d1 d2 d3 d4 d5 d6 d7 d8 d9 d10 d11 d12 HW2
        obtain ⟨ad3, hadq3, d0, d1, d2, d3, d4, d5, d6, d7, d8, d9, d10, d11, d12⟩ := act_cells (Kd.C_below HC.out HW3.out) i C1.out
        cases hadq3
        rw [HRD.out] at d0 d1 d2 d3 d4 d5 d6 d7 d8 d9 d10 d11 d12
        have hDr := ref_Do.at_ b2 q room u S (acOf x) w3 HR4.out (by have := HX.out; show x.f1.size ≤ 1000000; omega) (by have := HI.out; have := HRoom.out; omega) HNS.out HZ.out (cap_same room S HI.out.2.2)
        rw [HDR.out] at hDr
        unfold acV acC acOf at hDr
        dsimp only at hDr
        have HDr := Aside0.mk hDr
        clear hDr
        unfold reV at HDr ⊢
        go_wp2_with fail
        refine HDr.out.mono ?_
        rintro e w4 ⟨rfl, u4, hR4, hB4⟩
        have HR5 := Aside0.mk hR4
        have HL5 := Aside0.mk (HL4.out.bm hB4 HR4.out.hP)
        have HW4 := Aside0.mk (Bm.to hB4 HW3.out (Nat.le_refl _) HP0.out.2.2 HP0.out.2.2)
        clear hR4 hB4 HDr HL4 HR4 d0 d1 d2 d3 d4 d5 d6 d7 d8 d9 d10 d11 d12 HW3
        have hs1 : (dr.sum.toList == dr.sum.toList) = true := by simp
        have hs2 : (dr.sum.toList != dr.sum.toList) = false := by simp
        have hs3 : (dr.ok != dr.ok) = false := by simp
        have hs4 : (dr.e != dr.e) = false := by simp
        have hs5 : (dr.k != dr.k) = false := by simp
        obtain ⟨m5, hm5⟩ : ∃ m5, m5 = dr.S.length := ⟨_, rfl⟩
        have hs6 : ((m5 : Int) != (m5 : Int)) = false := by simp
        have HLen := Aside0.mk (led_Len.at_ b1 p mb (n + 1) room v3 dr.S w4 HL5.out)
        have HLen2 := Aside0.mk (ref_Len.at_ b2 q room u4 dr.S w4 HR5.out)
        rw [← hm5] at HLen HLen2
        have HM5 := Aside0.mk hm5
        clear hm5
        go_wp2_with fail
        refine HLen.out.mono ?_
        rintro e w5 ⟨rfl, rfl⟩
        go_wp2_with fail
        refine HLen2.out.mono ?_
        rintro e w6 ⟨rfl, rfl⟩
        clear HLen HLen2
        go_wp2_with fail
        refine (led_Paths.at_ b1 p mb (n + 1) room v3 dr.S w6 HL5.out).mono ?_
        rintro e w7 ⟨va, rfl, hRa, hb7⟩
        have HL7 := Aside0.mk (HL5.out.below hb7)
        have HR7 := Aside0.mk (HR5.out.below hb7)
        have HW7 := Aside0.mk (ld_step HW4.out hb7)
        have HRa := Aside0.mk hRa
        clear hRa hb7 HL5 HR5 HW4
        go_wp2_with fail
        refine (ref_Paths.at_ b2 q room u4 dr.S w7 HR7.out).mono ?_
        rintro e w8 ⟨vb, rfl, hRb, hb8⟩
        have HL8 := Aside0.mk (HL7.out.below hb8)
        have HR8 := Aside0.mk (HR7.out.below hb8)
        have HW8 := Aside0.mk (ld_step HW7.out hb8)
        have HRa8 := Aside0.mk (Kd.R_below HRa.out hb8)
        have HRb8 := Aside0.mk hRb
        clear hRb hb8 HL7 HR7 HW7 HRa
        obtain ⟨Aa, ca, rfl, hca, hCa⟩ := Kd.R_reads HRa8.out
        obtain ⟨Ab, cb, rfl, hcb, hCb⟩ := Kd.R_reads HRb8.out
        have HTx := Aside0.mk (remoraref17_Texts.calls _ Aa ca (paths dr.S) Ab cb (paths dr.S) true w8 hCa hca hCb hcb (texts_f (paths dr.S) (by have := HRl.out; have := HRoom.out; rw [paths_len]; omega)))
        clear hca hCa hcb hCb HRa8 HRb8
        go_wp2_with fail
        refine HTx.out.mono ?_
        rintro e w9 ⟨rfl, hd9⟩
        have HL9 := Aside0.mk (HL8.out.below hd9.below)
        have HR9 := Aside0.mk (HR8.out.below hd9.below)
        have HW9 := Aside0.mk (ld_step HW8.out hd9.below)
        clear hd9 HTx HL8 HR8 HW8
        go_wp2
        go_roundg (m - (i + 1))
        case measure => have := C1.out; omega
        case rel => exact ⟨i + 1, n + 1, v3, u4, dr.S, rfl, by first | rfl | rw [haddi], ⟨by have := C1.out; have := HI.out; have := HRl.out; omega⟩, HL9, HR9, HW9⟩
theorem remoralaw33_LedgerPlays.walk (P : remoralaw33_LedgerPlays.Pure) (a0 : Int) (a1 : Option Addr) (cap1 : Nat) (l1 : List S39) (w : World) (hG : GT w) (w0 : (Lit.int .i64 a0).wf = true) (hr1 : Kd.C k39 w a1 l1.length l1) (hc1 : l1.length ≤ cap1) (hm1 : l1.length ≤ maxLen) (y1 : l1.length * 128 ≤ 140737488351232) (hw1 : ∀ x ∈ l1, (((Lit.int .i64 x.f0).wf = true) ∧ (x.f1.size ≤ 140737488351232) ∧ ((((Lit.int .i64 x.f2.f0).wf = true) ∧ ((Lit.int .i64 x.f2.f1).wf = true) ∧ ((Lit.int .i64 x.f2.f2).wf = true) ∧ ((Lit.int .i64 x.f2.f3).wf = true) ∧ ((((Lit.int .i64 x.f2.f4.f0).wf = true) ∧ ((Lit.int .i64 x.f2.f4.f1).wf = true) ∧ ((Lit.int .i64 x.f2.f4.f2).wf = true) ∧ ((Lit.int .i64 x.f2.f4.f3).wf = true) ∧ ((Lit.int .i64 x.f2.f4.f4).wf = true))) ∧ (x.f2.f5.size ≤ 140737488351232))) ∧ (x.f3.size ≤ 140737488351232))) :
    Calls Tryd.prog 4 #[.int .i64 a0, .slice a1 l1.length cap1] w fun e w' => e = .returned (.bool true) ∧ Below w.heap.size w w' :=
  plays_main a0 a1 cap1 l1 w hr1 hc1 (by omega)


/-! ### remoraref02_Shift: function 63 -/
def remoraref02_Shift.l0 : Nat → Int → Int → Int → Option (Int)
  | 0, _, _, _ => none
  | k + 1, x0, x1, x5 => if x5 < x1 then (if (Int.tmod x0 2) = 1 then (remoraref02_Shift.l0 k (Go.bits .xor .u32 ((Int.tdiv x0 2) % 4294967296) 3988292384) x1 (wrap64 (x5 + 1))) else (remoraref02_Shift.l0 k ((Int.tdiv x0 2) % 4294967296) x1 (wrap64 (x5 + 1)))) else (some x0)
def remoraref02_Shift.f (k : Nat) (a0 : Int) (a1 : Int) : Option (Int) := remoraref02_Shift.l0 k a0 a1 0
theorem remoraref02_Shift.mono_l : ∀ k, (∀ y0 y1 y2, LeO (remoraref02_Shift.l0 k y0 y1 y2) (remoraref02_Shift.l0 (k + 1) y0 y1 y2))
  | 0 => fun _ _ _ r h => by simp [remoraref02_Shift.l0] at h
  | k + 1 => by
    have ih0 := remoraref02_Shift.mono_l k
    · intro y0 y1 y2
      unfold remoraref02_Shift.l0
      repeat' first
      | (with_reducible exact ih0 _ _ _)
      | (with_reducible exact LeO.refl _)
      | (with_reducible exact LeO.none _)
      | (with_reducible refine LeO.ite ?_ ?_)
      | (with_reducible refine LeO.bind ?_ (fun _ => ?_))
      | exact ih0 _ _ _
      | exact LeO.none _
      | refine LeO.ite ?_ ?_
      | refine LeO.bind ?_ (fun _ => ?_)
theorem remoraref02_Shift.mono : ∀ a0 a1 k, LeO (remoraref02_Shift.f k a0 a1) (remoraref02_Shift.f (k + 1) a0 a1) := by
  intro a0 a1 k
  have ih0 := remoraref02_Shift.mono_l k
  unfold remoraref02_Shift.f
  repeat' first
      | (with_reducible exact ih0 _ _ _)
      | (with_reducible exact LeO.refl _)
      | (with_reducible exact LeO.none _)
      | (with_reducible refine LeO.ite ?_ ?_)
      | (with_reducible refine LeO.bind ?_ (fun _ => ?_))
      | exact ih0 _ _ _
      | exact LeO.none _
      | refine LeO.ite ?_ ?_
      | refine LeO.bind ?_ (fun _ => ?_)
set_option maxHeartbeats 8000000 in
set_option maxRecDepth 100000 in
theorem remoraref02_Shift.calls (k : Nat) (a0 : Int) (a1 : Int) (r : Int) (w : World) (h : remoraref02_Shift.f k a0 a1 = some r) :
    Calls Tryd.prog 63 #[.int .u32 a0, .int .i64 a1] w fun e w' => e = .returned (.int .u32 r) ∧ Drawn0 w w' := by
  have H : (remoraref02_Shift.l0 k a0 a1 0) = some r := h
  clear h
  have H' := Aside0.mk H
  clear H
  go_enter Tryd.func63, Tryd.ntmps63
  go_wp2
  go_loopg [0, 5] k (fun kq v0 v5 w' => ∃ (x0_1 : Int) (x5_1 : Int), v0 = .int .u32 x0_1 ∧ v5 = .int .i64 x5_1 ∧ Aside0 (remoraref02_Shift.l0 kq x0_1 a1 x5_1 = some r) ∧ Aside0 (kq ≤ k) ∧ Drawn0 w w')
  case atStart => exact ⟨(a0), (0), (by first | rfl | (simp; done) | (simp [*]; done)), (by first | rfl | (simp; done) | (simp [*]; done)), H', ⟨Nat.le_refl _⟩, by repeat (first | exact Drawn0.refl _ | apply Drawn0.step)⟩
  case round =>
    clear H'
    try clear p2
    obtain ⟨x0_1, x5_1, rfl, rfl, HA, HK1, ⟨m1, rfl⟩⟩ := hrel
    cases gk with
    | zero => exact absurd HA.out (by simp [remoraref02_Shift.l0])
    | succ k1 =>
      have H := HA.out
      clear HA
      simp only [remoraref02_Shift.l0] at H
      by_cases c3 : x5_1 < a1
      · rw [if_pos c3] at H
        have c3b0 : decide (x5_1 < a1) = true := decide_eq_true c3
        clear c3
        by_cases c4 : (Int.tmod x0_1 2) = 1
        · rw [if_pos c4] at H
          have c4b0 : ((Int.tmod x0_1 2) == 1) = true := beq_iff_eq.mpr c4
          have c4b1 : ((Int.tmod x0_1 2) != 1) = false := bne_eq_false_iff_eq.mpr c4
          clear c4
          have H' := Aside0.mk H
          clear H
          go_wp2
          go_roundg k1
          case measure => have := HK1.out; omega
          case rel => exact ⟨(Go.bits .xor .u32 ((Int.tdiv x0_1 2) % 4294967296) 3988292384), (wrap64 (x5_1 + 1)), (by first | rfl | (simp; done) | (simp [*]; done)), (by first | rfl | (simp; done) | (simp [*]; done)), H', ⟨by have := HK1.out; omega⟩, by repeat (first | exact Drawn0.refl _ | apply Drawn0.step)⟩
        · rw [if_neg c4] at H
          have c4b0 : ((Int.tmod x0_1 2) == 1) = false := beq_eq_false_iff_ne.mpr c4
          have c4b1 : ((Int.tmod x0_1 2) != 1) = true := bne_iff_ne.mpr c4
          have H' := Aside0.mk H
          clear H
          go_wp2
          go_roundg k1
          case measure => have := HK1.out; omega
          case rel => exact ⟨((Int.tdiv x0_1 2) % 4294967296), (wrap64 (x5_1 + 1)), (by first | rfl | (simp; done) | (simp [*]; done)), (by first | rfl | (simp; done) | (simp [*]; done)), H', ⟨by have := HK1.out; omega⟩, by repeat (first | exact Drawn0.refl _ | apply Drawn0.step)⟩
      · rw [if_neg c3] at H
        have c3b0 : decide (x5_1 < a1) = false := decide_eq_false c3
        clear c3
        obtain rfl := Option.some.inj H
        go_wp2
        go_ret
        exact ⟨by first | rfl | (simp; done) | (simp [*]; done), by repeat (first | exact Drawn0.refl _ | apply Drawn0.step)⟩

/-! ### remoraref02_Of: function 37 -/
mutual
def remoraref02_Of.l0 : Nat → List (List Int) → Int → Int → Option (Int)
  | 0, _, _, _ => none
  | k + 1, x0, x3, x4 => if x4 < (x0.length : Int) then (remoraref02_Of.l1 k x0 x3 x4 0) else (some ((4294967295 - x3) % 4294967296))
def remoraref02_Of.l1 : Nat → List (List Int) → Int → Int → Int → Option (Int)
  | 0, _, _, _, _ => none
  | k + 1, x0, x3, x4, x5 => if 0 ≤ x4 then (if x4 < (x0.length : Int) then (if x5 < ((rd_L10 x0 x4).length : Int) then (if 0 ≤ x5 then ((remoraref02_Shift.f k (Go.bits .xor .u32 x3 ((rd (rd_L10 x0 x4) x5) % 4294967296)) 8).bind fun t188 => (remoraref02_Of.l1 k x0 t188 x4 (wrap64 (x5 + 1)))) else (none)) else (remoraref02_Of.l0 k x0 x3 (wrap64 (x4 + 1)))) else (none)) else (none)
end
def remoraref02_Of.f (k : Nat) (l0 : List (List Int)) : Option (Int) := remoraref02_Of.l0 k l0 4294967295 0
theorem remoraref02_Of.mono_l : ∀ k, (∀ y0 y1 y2, LeO (remoraref02_Of.l0 k y0 y1 y2) (remoraref02_Of.l0 (k + 1) y0 y1 y2)) ∧ (∀ y0 y1 y2 y3, LeO (remoraref02_Of.l1 k y0 y1 y2 y3) (remoraref02_Of.l1 (k + 1) y0 y1 y2 y3))
  | 0 => ⟨fun _ _ _ r h => by simp [remoraref02_Of.l0] at h, fun _ _ _ _ r h => by simp [remoraref02_Of.l1] at h⟩
  | k + 1 => by
    obtain ⟨ih0, ih1⟩ := remoraref02_Of.mono_l k
    refine ⟨?_, ?_⟩
    · intro y0 y1 y2
      unfold remoraref02_Of.l0
      repeat' first
      | (with_reducible exact ih0 _ _ _)
      | (with_reducible exact ih1 _ _ _ _)
      | (with_reducible exact remoraref02_Shift.mono _ _ _)
      | (with_reducible exact LeO.refl _)
      | (with_reducible exact LeO.none _)
      | (with_reducible refine LeO.ite ?_ ?_)
      | (with_reducible refine LeO.bind ?_ (fun _ => ?_))
      | exact ih0 _ _ _
      | exact ih1 _ _ _ _
      | exact remoraref02_Shift.mono _ _ _
      | exact LeO.none _
      | refine LeO.ite ?_ ?_
      | refine LeO.bind ?_ (fun _ => ?_)
    · intro y0 y1 y2 y3
      unfold remoraref02_Of.l1
      repeat' first
      | (with_reducible exact ih0 _ _ _)
      | (with_reducible exact ih1 _ _ _ _)
      | (with_reducible exact remoraref02_Shift.mono _ _ _)
      | (with_reducible exact LeO.refl _)
      | (with_reducible exact LeO.none _)
      | (with_reducible refine LeO.ite ?_ ?_)
      | (with_reducible refine LeO.bind ?_ (fun _ => ?_))
      | exact ih0 _ _ _
      | exact ih1 _ _ _ _
      | exact remoraref02_Shift.mono _ _ _
      | exact LeO.none _
      | refine LeO.ite ?_ ?_
      | refine LeO.bind ?_ (fun _ => ?_)
theorem remoraref02_Of.mono : ∀ a0 k, LeO (remoraref02_Of.f k a0) (remoraref02_Of.f (k + 1) a0) := by
  intro a0 k
  obtain ⟨ih0, ih1⟩ := remoraref02_Of.mono_l k
  unfold remoraref02_Of.f
  repeat' first
      | (with_reducible exact ih0 _ _ _)
      | (with_reducible exact ih1 _ _ _ _)
      | (with_reducible exact remoraref02_Shift.mono _ _ _)
      | (with_reducible exact LeO.refl _)
      | (with_reducible exact LeO.none _)
      | (with_reducible refine LeO.ite ?_ ?_)
      | (with_reducible refine LeO.bind ?_ (fun _ => ?_))
      | exact ih0 _ _ _
      | exact ih1 _ _ _ _
      | exact remoraref02_Shift.mono _ _ _
      | exact LeO.none _
      | refine LeO.ite ?_ ?_
      | refine LeO.bind ?_ (fun _ => ?_)
set_option maxHeartbeats 8000000 in
set_option maxRecDepth 100000 in
theorem remoraref02_Of.calls (k : Nat) (A0 : Option Addr) (c0 : Nat) (l0 : List (List Int)) (r : Int) (w : World) (hr0 : Kd.C (Kd.slice 5 (Kd.int .u8)) w A0 l0.length l0) (hc0 : l0.length ≤ c0) (h : remoraref02_Of.f k l0 = some r) :
    Calls Tryd.prog 37 #[.slice A0 l0.length c0] w fun e w' => e = .returned (.int .u32 r) ∧ Drawn0 w w' := by
  have HR0 := Aside0.mk hr0
  have HC0 := Aside0.mk hc0
  clear hr0 hc0
  have H : (remoraref02_Of.l0 k l0 4294967295 0) = some r := h
  clear h
  have H' := Aside0.mk H
  clear H
  go_enter Tryd.func37, Tryd.ntmps37
  go_wp2
  go_loopg [3, 4] k (fun kq v3 v4 w' => ∃ (x3_1 : Int) (x4_1 : Int), v3 = .int .u32 x3_1 ∧ v4 = .int .i64 x4_1 ∧ Aside0 (remoraref02_Of.l0 kq l0 x3_1 x4_1 = some r) ∧ Aside0 (kq ≤ k) ∧ Drawn0 w w')
  case atStart => exact ⟨(4294967295), (0), (by first | rfl | (simp; done) | (simp [*]; done)), (by first | rfl | (simp; done) | (simp [*]; done)), H', ⟨Nat.le_refl _⟩, by repeat (first | exact Drawn0.refl _ | apply Drawn0.step)⟩
  case round =>
    clear H'
    obtain ⟨x3_1, x4_1, rfl, rfl, HA, HK1, ⟨m1, rfl⟩⟩ := hrel
    cases gk with
    | zero => exact absurd HA.out (by simp [remoraref02_Of.l0])
    | succ k1 =>
      have H := HA.out
      clear HA
      simp only [remoraref02_Of.l0] at H
      by_cases c2 : x4_1 < (l0.length : Int)
      · rw [if_pos c2] at H
        have c2b0 : decide (x4_1 < (l0.length : Int)) = true := decide_eq_true c2
        clear c2
        have H' := Aside0.mk H
        clear H
        go_wp2
        go_loopg [3, 5] k1 (fun kq v3 v5 w' => ∃ (x3_2 : Int) (x5_2 : Int), v3 = .int .u32 x3_2 ∧ v5 = .int .i64 x5_2 ∧ Aside0 (remoraref02_Of.l1 kq l0 x3_2 x4_1 x5_2 = some r) ∧ Aside0 (kq ≤ k1) ∧ Drawn0 w w')
        case atStart => exact ⟨(x3_1), (0), (by first | rfl | (simp; done) | (simp [*]; done)), (by first | rfl | (simp; done) | (simp [*]; done)), H', ⟨Nat.le_refl _⟩, by repeat (first | exact Drawn0.refl _ | apply Drawn0.step)⟩
        case round =>
          clear H'
          try clear c2
          try clear c2b0
          try clear p2
          obtain ⟨x3_2, x5_2, rfl, rfl, HA, HK2, ⟨m2, rfl⟩⟩ := hrel
          cases gk with
          | zero => exact absurd HA.out (by simp [remoraref02_Of.l1])
          | succ k2 =>
            have H := HA.out
            clear HA
            simp only [remoraref02_Of.l1] at H
            by_cases c3 : 0 ≤ x4_1
            · rw [if_pos c3] at H
              have c3b0 : decide (0 ≤ x4_1) = true := decide_eq_true c3
              clear c3
              by_cases c4 : x4_1 < (l0.length : Int)
              · rw [if_pos c4] at H
                have c4b0 : decide (x4_1 < (l0.length : Int)) = true := decide_eq_true c4
                clear c4
                by_cases c5 : x5_2 < ((rd_L10 l0 x4_1).length : Int)
                · rw [if_pos c5] at H
                  have c5b0 : decide (x5_2 < ((rd_L10 l0 x4_1).length : Int)) = true := decide_eq_true c5
                  clear c5
                  by_cases c6 : 0 ≤ x5_2
                  · rw [if_pos c6] at H
                    have c6b0 : decide (0 ≤ x5_2) = true := decide_eq_true c6
                    clear c6
                    replace H := Option.bind_eq_some_iff.mp H
                    obtain ⟨t188, A70, H⟩ := H
                    replace H : (remoraref02_Of.l1 k2 l0 t188 x4_1 (wrap64 (x5_2 + 1))) = some r := H
                    have A7 := Aside0.mk A70
                    clear A70
                    have H' := Aside0.mk H
                    clear H
                    have p185 : 0 ≤ (x4_1 : Int) := of_decide_eq_true (by first | (with_reducible assumption) | assumption)
                    have q185 : x4_1 < (l0.length : Int) := of_decide_eq_true (by first | (with_reducible assumption) | assumption)
                    obtain ⟨ad185, A185_0, c185_0, e185, hx185_0, hl185_0, hi185_0⟩ := at_L10 HR0.out x4_1 p185 q185
                    cases e185
                    have HR185_0 := Aside0.mk hi185_0
                    have HC185_0 := Aside0.mk hl185_0
                    clear hi185_0 hl185_0
                    replace p185 := eq_true p185
                    replace q185 := eq_true q185
                    have p186 : 0 ≤ (x4_1 : Int) := of_decide_eq_true (by first | (with_reducible assumption) | assumption)
                    have q186 : x4_1 < (l0.length : Int) := of_decide_eq_true (by first | (with_reducible assumption) | assumption)
                    obtain ⟨ad186, A186_0, c186_0, e186, hx186_0, hl186_0, hi186_0⟩ := at_L10 HR0.out x4_1 p186 q186
                    obtain rfl : ad185 = ad186 := (by injection e186)
                    have HR186_0 := Aside0.mk hi186_0
                    have HC186_0 := Aside0.mk hl186_0
                    clear hi186_0 hl186_0
                    replace p186 := eq_true p186
                    replace q186 := eq_true q186
                    have ea_ := Option.some.inj (hx185_0.symm.trans hx186_0)
                    injection ea_ with ea_ en_ ec_
                    subst ea_
                    subst ec_
                    clear en_
                    have p187 : 0 ≤ (x5_2 : Int) := of_decide_eq_true (by first | (with_reducible assumption) | assumption)
                    have q187 : x5_2 < ((rd_L10 l0 x4_1).length : Int) := of_decide_eq_true (by first | (with_reducible assumption) | assumption)
                    obtain ⟨ad187, e187, hx187_0⟩ := Kd.at_int HR186_0.out x5_2 p187 q187
                    cases e187
                    replace p187 := eq_true p187
                    replace q187 := eq_true q187
                    go_wp2_with (first | ((with_reducible refine gate_callee (f := 63) rfl ?_); refine goesL_ (some 31) rfl rfl Tryd.func63 (by kernel_rfl) rfl #[.int .u32 (Go.bits .xor .u32 x3_2 ((rd (rd_L10 l0 x4_1) x5_2) % 4294967296)), .int .i64 8] rfl (by (try simp only [List.map_toArray, List.map_cons, List.map_nil]); first | done | rfl | (simp only [List.length_drop, List.length_take]; rfl) | (simp; done) | (simp; (repeat' apply And.intro) <;> rfl)) ?_; (with_reducible refine (remoraref02_Shift.calls k2 (Go.bits .xor .u32 x3_2 ((rd (rd_L10 l0 x4_1) x5_2) % 4294967296)) 8 t188 _ A7.out).mono ?_); rintro e w' ⟨rfl, ⟨nd, rfl⟩⟩; refine ⟨_, rfl, ?_⟩))
                    go_roundg k2
                    case measure => have := HK1.out; have := HK2.out; omega
                    case rel => exact ⟨(t188), (wrap64 (x5_2 + 1)), (by first | rfl | (simp; done) | (simp [*]; done)), (by first | rfl | (simp; done) | (simp [*]; done)), H', ⟨by have := HK1.out; have := HK2.out; omega⟩, by repeat (first | exact Drawn0.refl _ | apply Drawn0.step)⟩
                  · rw [if_neg c6] at H
                    exact absurd H (by simp)
                · rw [if_neg c5] at H
                  have c5b0 : decide (x5_2 < ((rd_L10 l0 x4_1).length : Int)) = false := decide_eq_false c5
                  clear c5
                  have H' := Aside0.mk H
                  clear H
                  have p185 : 0 ≤ (x4_1 : Int) := of_decide_eq_true (by first | (with_reducible assumption) | assumption)
                  have q185 : x4_1 < (l0.length : Int) := of_decide_eq_true (by first | (with_reducible assumption) | assumption)
                  obtain ⟨ad185, A185_0, c185_0, e185, hx185_0, hl185_0, hi185_0⟩ := at_L10 HR0.out x4_1 p185 q185
                  cases e185
                  have HR185_0 := Aside0.mk hi185_0
                  have HC185_0 := Aside0.mk hl185_0
                  clear hi185_0 hl185_0
                  replace p185 := eq_true p185
                  replace q185 := eq_true q185
                  go_wp2
                  go_roundg k2
                  case measure => have := HK1.out; have := HK2.out; omega
                  case rel => exact ⟨(x3_2), (wrap64 (x4_1 + 1)), (by first | rfl | (simp; done) | (simp [*]; done)), (by first | rfl | (simp; done) | (simp [*]; done)), H', ⟨by have := HK1.out; have := HK2.out; omega⟩, by repeat (first | exact Drawn0.refl _ | apply Drawn0.step)⟩
              · rw [if_neg c4] at H
                exact absurd H (by simp)
            · rw [if_neg c3] at H
              exact absurd H (by simp)
      · rw [if_neg c2] at H
        have c2b0 : decide (x4_1 < (l0.length : Int)) = false := decide_eq_false c2
        clear c2
        obtain rfl := Option.some.inj H
        go_wp2
        go_ret
        exact ⟨by first | rfl | (simp; done) | (simp [*]; done), by repeat (first | exact Drawn0.refl _ | apply Drawn0.step)⟩

/-! ### remoraref02_Seal: function 20 -/
def remoraref02_Seal.l0 : Nat → Int → List Int → Int → Option (List Int)
  | 0, _, _, _ => none
  | k + 1, x3, x4, x5 => if x5 < 4 then (if x4.length < 140737488355328 then (remoraref02_Seal.l0 k ((Int.tdiv x3 256) % 4294967296) (x4 ++ [(Int.tmod x3 256) % 256]) (wrap64 (x5 + 1))) else (none)) else (some x4)
def remoraref02_Seal.f (k : Nat) (l0 : List Int) : Option (List Int) := (remoraref02_Of.f k (([l0] : List (List Int)))).bind fun t192 => ((some (([] : List Int) : List Int)).bind fun y193 => (if y193.length + l0.length < 140737488355328 then (remoraref02_Seal.l0 k t192 (y193 ++ l0) 0) else (none)))
theorem remoraref02_Seal.mono_l : ∀ k, (∀ y0 y1 y2, LeO (remoraref02_Seal.l0 k y0 y1 y2) (remoraref02_Seal.l0 (k + 1) y0 y1 y2))
  | 0 => fun _ _ _ r h => by simp [remoraref02_Seal.l0] at h
  | k + 1 => by
    have ih0 := remoraref02_Seal.mono_l k
    · intro y0 y1 y2
      unfold remoraref02_Seal.l0
      repeat' first
      | (with_reducible exact ih0 _ _ _)
      | (with_reducible exact remoraref02_Of.mono _ _)
      | (with_reducible exact LeO.refl _)
      | (with_reducible exact LeO.none _)
      | (with_reducible refine LeO.ite ?_ ?_)
      | (with_reducible refine LeO.bind ?_ (fun _ => ?_))
      | exact ih0 _ _ _
      | exact remoraref02_Of.mono _ _
      | exact LeO.none _
      | refine LeO.ite ?_ ?_
      | refine LeO.bind ?_ (fun _ => ?_)
theorem remoraref02_Seal.mono : ∀ a0 k, LeO (remoraref02_Seal.f k a0) (remoraref02_Seal.f (k + 1) a0) := by
  intro a0 k
  have ih0 := remoraref02_Seal.mono_l k
  unfold remoraref02_Seal.f
  repeat' first
      | (with_reducible exact ih0 _ _ _)
      | (with_reducible exact remoraref02_Of.mono _ _)
      | (with_reducible exact LeO.refl _)
      | (with_reducible exact LeO.none _)
      | (with_reducible refine LeO.ite ?_ ?_)
      | (with_reducible refine LeO.bind ?_ (fun _ => ?_))
      | exact ih0 _ _ _
      | exact remoraref02_Of.mono _ _
      | exact LeO.none _
      | refine LeO.ite ?_ ?_
      | refine LeO.bind ?_ (fun _ => ?_)
set_option maxHeartbeats 8000000 in
set_option maxRecDepth 100000 in
theorem remoraref02_Seal.calls (k : Nat) (P0_ : Nat → Prop) (A0 : Option Addr) (c0 : Nat) (l0 : List Int) (r : List Int) (w : World) (hs0 : Kd.V (Kd.int .u8) 5 w w.heap.size (fun k_ => P0_ k_) (.slice A0 l0.length c0) l0) (h : remoraref02_Seal.f k l0 = some r) :
    Calls Tryd.prog 20 #[.slice A0 l0.length c0] w fun e w' => ∃ v0_ : Value, e = .returned (v0_) ∧ Kd.R (Kd.int .u8) 5 w' w.heap.size (fun k_ => (w.heap.size ≤ k_)) v0_ r ∧ Below w.heap.size w w' := by
  have HO0 := Aside0.mk (show Kd.V (Kd.int .u8) 5 w w.heap.size (fun k_ => (P0_ k_ ∨ w.heap.size ≤ k_)) (.slice A0 l0.length c0) l0 from Kd.V_mono hs0 (fun k_ hk => .inl hk))
  have HB := Aside0.mk (Below.refl w.heap.size w)
  have H : ((remoraref02_Of.f k (([l0] : List (List Int)))).bind fun t192 => ((some (([] : List Int) : List Int)).bind fun y193 => (if y193.length + l0.length < 140737488355328 then (remoraref02_Seal.l0 k t192 (y193 ++ l0) 0) else (none)))) = some r := h
  clear h
  obtain ⟨y189, hy189⟩ : ∃ y_ : List (List Int), y_ = (([l0] : List (List Int))) := ⟨_, rfl⟩
  replace H : ((remoraref02_Of.f k y189).bind fun t192 => ((some (([] : List Int) : List Int)).bind fun y193 => (if y193.length + l0.length < 140737488355328 then (remoraref02_Seal.l0 k t192 (y193 ++ l0) 0) else (none)))) = some r := by first | (rw [hy189]; with_reducible exact H) | (have H2_ := (Option.bind_some _ _).symm.trans H; rw [hy189]; with_reducible exact H2_) | (have H2_ := (Option.bind_some _ _).symm.trans H; with_reducible exact H2_) | with_reducible exact H | (rw [hy189]; exact H) | exact H
  have Ny189 := Aside0.mk hy189
  clear hy189
  replace H := Option.bind_eq_some_iff.mp H
  obtain ⟨t192, A20, H⟩ := H
  replace H : ((some (([] : List Int) : List Int)).bind fun y193 => (if y193.length + l0.length < 140737488355328 then (remoraref02_Seal.l0 k t192 (y193 ++ l0) 0) else (none))) = some r := H
  have A2 := Aside0.mk A20
  clear A20
  obtain ⟨y193, hy193⟩ : ∃ y_ : List Int, y_ = (([] : List Int)) := ⟨_, rfl⟩
  replace H : (if y193.length + l0.length < 140737488355328 then (remoraref02_Seal.l0 k t192 (y193 ++ l0) 0) else (none)) = some r := by first | (rw [hy193]; with_reducible exact H) | (have H2_ := (Option.bind_some _ _).symm.trans H; rw [hy193]; with_reducible exact H2_) | (have H2_ := (Option.bind_some _ _).symm.trans H; with_reducible exact H2_) | with_reducible exact H | (rw [hy193]; exact H) | exact H
  have Ny193 := Aside0.mk hy193
  clear hy193
  by_cases c3 : y193.length + l0.length < 140737488355328
  · rw [if_pos c3] at H
    have LMc3 := Aside0.mk c3
    clear c3
    obtain ⟨y196, hy196⟩ : ∃ y_ : List Int, y_ = (y193 ++ l0) := ⟨_, rfl⟩
    replace H : (remoraref02_Seal.l0 k t192 y196 0) = some r := by first | (rw [hy196]; with_reducible exact H) | (have H2_ := (Option.bind_some _ _).symm.trans H; rw [hy196]; with_reducible exact H2_) | (have H2_ := (Option.bind_some _ _).symm.trans H; with_reducible exact H2_) | with_reducible exact H | (rw [hy196]; exact H) | exact H
    have Ny196 := Aside0.mk hy196
    clear hy196
    have H' := Aside0.mk H
    clear H
    go_enter Tryd.func20, Tryd.ntmps20
    go_wp2_with (first | ((with_reducible refine gate_dst (N := 7) rfl ?_); refine Kd.N_lit (Kd.slice 5 (Kd.int .u8)) _ 41 ?hg (N' := 7) ?hd (xs := ([l0] : List (List Int))) (inner := [.slice A0 l0.length c0]) (ok := (fun k_ => (P0_ k_ ∨ w.heap.size ≤ k_))) (okp := (fun k_ => (P0_ k_ ∨ w.heap.size ≤ k_))) ?hr ?hp (fun _ hk => hk) ((show ∀ k_, w.heap.size ≤ k_ → (fun k_ => (P0_ k_ ∨ w.heap.size ≤ k_)) k_ from fun k_ hk => (.inr (Nat.le_trans (below_size (by repeat (first | (with_reducible first | exact HB.out | apply below_alloc | apply pw_below_drewN | apply below_drew1) | exact HB.out))) hk))) _ (Nat.le_refl _)) (Below.refl _ _) (Nat.le_refl _) (by simp) ?_; (case hd => rfl); (case hg => rfl); (case hr => first | (go_simp; done) | (go_simp; rfl)); (case hp => exact (Reps.one (show Kd.FK (Kd.slice 5 (Kd.int .u8)) _ _ l0 [.slice A0 l0.length c0] from (Kd.FK_slice_mk (Kd.V_reads' (Kd.V_mono (ok' := (fun k_ => (P0_ k_ ∨ w.heap.size ≤ k_))) (HO0.out) (fun k_ hk => hk))).2.1 (Kd.V_F (Kd.V_mono (ok' := (fun k_ => (P0_ k_ ∨ w.heap.size ≤ k_))) (HO0.out) (fun k_ hk => hk))))) (Reps.none _ _))); intro v190 w4 ho5 hb hg_ hnew_; clear hg_ hnew_; (first | rw [← Ny189.out] at ho5 | (simp only [Int.reduceToNat] at ho5; rw [← Ny189.out] at ho5)); have n0_ := Aside0.mk (Kd.V_elder' (by (with_reducible repeat (first | apply Kd.V_alloc | apply Kd.V_drewN | apply Kd.V_drew)); exact HO0.out) (Kd.N_base ho5) hb); have n1_ := Aside0.mk (Kd.N_lower ho5 (below_size (by repeat (first | (with_reducible first | exact HB.out | apply below_alloc | apply pw_below_drewN | apply below_drew1) | exact HB.out)))); have n2_ := Aside0.mk (below_step (by repeat (first | (with_reducible first | exact HB.out | apply below_alloc | apply pw_below_drewN | apply below_drew1) | exact HB.out)) hb); clear HO0; clear HB; have HO0 := n0_; have HO191 := n1_; have HB := n2_; clear n0_ n1_ n2_; clear hb ho5; obtain ⟨Ao6, co6, eo6⟩ := Kd.N_slice HO191.out; subst eo6) | ((with_reducible refine gate_callee (f := 37) rfl ?_); refine goesL_ (some 8) rfl rfl Tryd.func37 (by kernel_rfl) rfl #[.slice Ao6 y189.length co6] rfl (by (try simp only [List.map_toArray, List.map_cons, List.map_nil]); first | done | rfl | (simp only [List.length_drop, List.length_take]; rfl) | (simp; done) | (simp; (repeat' apply And.intro) <;> rfl)) ?_; (with_reducible refine (remoraref02_Of.calls k _ _ y189 t192 _ ?side1 ?side2 A2.out).mono ?_); (case side1 => repeat (first | exact (Kd.N_reads' HO191.out).2.2 | (with_reducible refine Kd.C_alloc ?_ _) | (with_reducible refine Kd.C_drewN ?_ _) | (with_reducible refine Kd.C_drew ?_))); (case side2 => exact (Kd.N_reads' HO191.out).2.1); rintro e w' ⟨rfl, ⟨nd, rfl⟩⟩; refine ⟨_, rfl, ?_⟩) | ((with_reducible refine gate_dst (N := 9) rfl ?_); refine Kd.R_lit (Kd.int .u8) _ 5 ?hg (N := 9) ?hd (xs := ([] : List Int)) (inner := []) (ok := fun _ => True) (okp := fun _ => True) ?hr ?hp (fun _ hk => hk) trivial (Below.refl _ _) (Nat.le_refl _) (by simp) ?_; (case hd => rfl); (case hg => rfl); (case hr => first | (go_simp; done) | (go_simp; rfl)); (case hp => exact (Reps.none _ _)); intro v194 w7 ho8 hb hg_ hnew_; clear hg_ hnew_; (first | rw [← Ny193.out] at ho8 | (simp only [Int.reduceToNat] at ho8; rw [← Ny193.out] at ho8)); have n0_ := Aside0.mk (Kd.V_elder' (by (with_reducible repeat (first | apply Kd.V_alloc | apply Kd.V_drewN | apply Kd.V_drew)); exact HO0.out) (Kd.R_base ho8) hb); have n1_ := Aside0.mk (Kd.N_elder' (by (with_reducible repeat (first | apply Kd.N_alloc | apply Kd.N_drewN | apply Kd.N_drew)); exact HO191.out) (Kd.R_base ho8) hb); have n2_ := Aside0.mk (Kd.R_lower (Kd.R_newM (M := fun k_ => (w.heap.size ≤ k_)) ho8 (below_size (by repeat (first | (with_reducible first | exact HB.out | apply below_alloc | apply pw_below_drewN | apply below_drew1) | exact HB.out))) (fun k_ h_ => h_)) (below_size (by repeat (first | (with_reducible first | exact HB.out | apply below_alloc | apply pw_below_drewN | apply below_drew1) | exact HB.out)))); have n3_ := Aside0.mk (below_step (by repeat (first | (with_reducible first | exact HB.out | apply below_alloc | apply pw_below_drewN | apply below_drew1) | exact HB.out)) hb); clear HO0; clear HO191; clear HB; have HO0 := n0_; have HO191 := n1_; have HO195 := n2_; have HB := n3_; clear n0_ n1_ n2_ n3_; clear hb ho8) | ((with_reducible refine gate_builtin (b := .append) (xs := #[.tmp 9, .tmp 10]) rfl ?_); at_builtin; refine Kd.R_append_rows (Kd.int .u8) (w0 := w) w.heap.size rfl (.tmp 9) (.tmp 10) 41 5 (.int .u8 0) 1 rfl Tryd.underlying41 info5 rfl (by decide) (by omega) v194 y193 l0 _ _ _ (fun k_ => (w.heap.size ≤ k_)) (fun _ => False) rfl rfl ?aO ?aR (fun _ _ h => h) (fun _ h => h.elim) ?aF ?aB ?aS ?aL ?_; (case aR => repeat (first | exact (Kd.V_reads' HO0.out).2.2 | (with_reducible refine Kd.C_alloc ?_ _) | (with_reducible refine Kd.C_drewN ?_ _) | (with_reducible refine Kd.C_drew ?_))); (case aB => exact (by repeat (first | (with_reducible first | exact HB.out | apply below_alloc | apply pw_below_drewN | apply below_drew1) | exact HB.out))); (case aF => exact (fun k_ hk => (Nat.le_trans (below_size (by repeat (first | (with_reducible first | exact HB.out | apply below_alloc | apply pw_below_drewN | apply below_drew1) | exact HB.out))) hk))); (case aO => exact (by (with_reducible repeat (first | apply Kd.R_alloc | apply Kd.R_drewN | apply Kd.R_drew)); exact Kd.R_mono HO195.out (fun _ hk => hk.1))); (case aS => exact (below_size (by repeat (first | (with_reducible first | exact HB.out | apply below_alloc | apply pw_below_drewN | apply below_drew1) | exact HB.out)))); (case aL => have := LMc3.out; omega); intro v197 w9 ho hb hg hat; rw [← Ny196.out] at ho; have n0_ := Aside0.mk (Kd.V_afterv (ok := (fun k_ => (P0_ k_ ∨ w.heap.size ≤ k_) ∧ some k_ ≠ (.slice Ao6 y189.length co6 : Value).ownBlock)) (by (with_reducible repeat (first | apply Kd.V_alloc | apply Kd.V_drewN | apply Kd.V_drew)); exact HO0.out) hg hat); have n1_ := Aside0.mk (Kd.N_afterv (ok := (fun k_ => (P0_ k_ ∨ w.heap.size ≤ k_))) (by (with_reducible repeat (first | apply Kd.N_alloc | apply Kd.N_drewN | apply Kd.N_drew)); exact HO191.out) hg hat); have n2_ := Aside0.mk (hb); have n3_ := Aside0.mk (ho); clear HO0; clear HO191; clear HB; clear HO195; have HO0 := n0_; have HO191 := n1_; have HB := n2_; have HO198 := n3_; clear n0_ n1_ n2_ n3_; clear ho hb hg hat))
    go_loopg [3, 4, 5] k (fun kq v3 v4 v5 w' => ∃ (x3_1 : Int) (x4_1 : List Int) (x5_1 : Int), v3 = .int .u32 x3_1 ∧ v5 = .int .i64 x5_1 ∧ Aside0 (remoraref02_Seal.l0 kq x3_1 x4_1 x5_1 = some r) ∧ Aside0 (kq ≤ k) ∧ Aside0 (Kd.R (Kd.int .u8) 5 w' w.heap.size (fun k_ => (w.heap.size ≤ k_)) v4 x4_1) ∧ Aside0 (Below w.heap.size w w'))
    case atStart => exact ⟨(t192), (y196), (0), (by first | rfl | (simp; done) | (simp [*]; done)), (by first | rfl | (simp; done) | (simp [*]; done)), H', ⟨Nat.le_refl _⟩, ⟨by (with_reducible repeat (first | apply Kd.R_alloc | apply Kd.R_drewN | apply Kd.R_drew)); exact HO198.out⟩, ⟨by repeat (first | (with_reducible first | exact HB.out | apply below_alloc | apply pw_below_drewN | apply below_drew1) | exact HB.out)⟩⟩
    case round =>
      clear H'
      try clear c2
      try clear p2
      try clear c3
      obtain ⟨x3_1, x4_1, x5_1, rfl, rfl, HA, HK1, HO_4, HB⟩ := hrel
      cases gk with
      | zero => exact absurd HA.out (by simp [remoraref02_Seal.l0])
      | succ k1 =>
        have H := HA.out
        clear HA
        simp only [remoraref02_Seal.l0] at H
        by_cases c10 : x5_1 < 4
        · rw [if_pos c10] at H
          have c10b0 : decide (x5_1 < 4) = true := decide_eq_true c10
          clear c10
          by_cases c11 : x4_1.length < 140737488355328
          · rw [if_pos c11] at H
            have LMc11 := Aside0.mk c11
            clear c11
            obtain ⟨y199, hy199⟩ : ∃ y_ : List Int, y_ = (x4_1 ++ [(Int.tmod x3_1 256) % 256]) := ⟨_, rfl⟩
            replace H : (remoraref02_Seal.l0 k1 ((Int.tdiv x3_1 256) % 4294967296) y199 (wrap64 (x5_1 + 1))) = some r := by first | (rw [hy199]; with_reducible exact H) | (have H2_ := (Option.bind_some _ _).symm.trans H; rw [hy199]; with_reducible exact H2_) | (have H2_ := (Option.bind_some _ _).symm.trans H; with_reducible exact H2_) | with_reducible exact H | (rw [hy199]; exact H) | exact H
            have Ny199 := Aside0.mk hy199
            clear hy199
            have H' := Aside0.mk H
            clear H
            go_wp2_with (first | ((with_reducible refine gate_builtin (b := .append) (xs := #[.tmp 16, .tmp 20]) rfl ?_); at_builtin; refine Kd.R_append (Kd.int .u8) (w0 := w) w.heap.size rfl (.tmp 16) (.tmp 20) 41 5 (.int .u8 0) 1 rfl Tryd.underlying41 info5 rfl (by decide) (by omega) u4 x4_1 ((Int.tmod x3_1 256) % 256) [.int .u8 ((Int.tmod x3_1 256) % 256)] (fun k_ => (w.heap.size ≤ k_)) (fun _ => False) rfl rfl ?aP (fun _ hk => hk.elim) ?aF ?aO ?aB ?aS ?aL ?_; (case aP => exact rfl); (case aB => exact (by repeat (first | (with_reducible first | exact HB.out | apply below_alloc | apply pw_below_drewN | apply below_drew1) | exact HB.out))); (case aF => exact (fun k_ hk => (Nat.le_trans (below_size (by repeat (first | (with_reducible first | exact HB.out | apply below_alloc | apply pw_below_drewN | apply below_drew1) | exact HB.out))) hk))); (case aO => exact (by (with_reducible repeat (first | apply Kd.R_alloc | apply Kd.R_drewN | apply Kd.R_drew)); exact HO_4.out)); (case aS => exact (below_size (by repeat (first | (with_reducible first | exact HB.out | apply below_alloc | apply pw_below_drewN | apply below_drew1) | exact HB.out)))); (case aL => have := LMc11.out; omega); intro v200 w12 ho hb hg hat; rw [← Ny199.out] at ho; have n0_ := Aside0.mk (hb); have n1_ := Aside0.mk (ho); clear HB; clear HO_4; have HB := n0_; have HO201 := n1_; clear n0_ n1_; clear ho hb hg hat))
            go_roundg k1
            case measure => have := HK1.out; omega
            case rel => exact ⟨((Int.tdiv x3_1 256) % 4294967296), (y199), (wrap64 (x5_1 + 1)), (by first | rfl | (simp; done) | (simp [*]; done)), (by first | rfl | (simp; done) | (simp [*]; done)), H', ⟨by have := HK1.out; omega⟩, ⟨by (with_reducible repeat (first | apply Kd.R_alloc | apply Kd.R_drewN | apply Kd.R_drew)); exact HO201.out⟩, ⟨by repeat (first | (with_reducible first | exact HB.out | apply below_alloc | apply pw_below_drewN | apply below_drew1) | exact HB.out)⟩⟩
          · rw [if_neg c11] at H
            exact absurd H (by simp)
        · rw [if_neg c10] at H
          have c10b0 : decide (x5_1 < 4) = false := decide_eq_false c10
          clear c10
          obtain rfl := Option.some.inj H
          go_wp2
          go_ret
          exact ⟨_, by first | rfl | (simp [errW_none, errW_some] <;> rfl) | (simp [*, errW_none, errW_some] <;> rfl), by (with_reducible repeat (first | apply Kd.R_alloc | apply Kd.R_drewN | apply Kd.R_drew)); exact HO_4.out, by repeat (first | (with_reducible first | exact HB.out | apply below_alloc | apply pw_below_drewN | apply below_drew1) | exact HB.out)⟩
  · rw [if_neg c3] at H
    exact absurd H (by simp)

/-! ### remoraref01_behind: function 60 -/
def remoraref01_behind.f (l0 : List Int) (l1 : List Int) : Option (List Int) := if ([] : List Int).length + l0.length < 140737488355328 then ((some (([] : List Int) ++ l0 : List Int)).bind fun y202 => (if y202.length + l1.length < 140737488355328 then (some (y202 ++ l1)) else (none))) else (none)
set_option maxHeartbeats 8000000 in
set_option maxRecDepth 100000 in
theorem remoraref01_behind.calls (A0 : Option Addr) (c0 : Nat) (l0 : List Int) (A1 : Option Addr) (c1 : Nat) (l1 : List Int) (r : List Int) (w : World) (hr0 : Kd.C (Kd.int .u8) w A0 l0.length l0) (hc0 : l0.length ≤ c0) (hr1 : Kd.C (Kd.int .u8) w A1 l1.length l1) (hc1 : l1.length ≤ c1) (h : remoraref01_behind.f l0 l1 = some r) :
    Calls Tryd.prog 60 #[.slice A0 l0.length c0, .slice A1 l1.length c1] w fun e w' => ∃ v0_ : Value, e = .returned (v0_) ∧ Kd.R (Kd.int .u8) 5 w' w.heap.size (fun _ => True) v0_ r ∧ Below w.heap.size w w' := by
  have HR0 := Aside0.mk hr0
  have HC0 := Aside0.mk hc0
  clear hr0 hc0
  have HR1 := Aside0.mk hr1
  have HC1 := Aside0.mk hc1
  clear hr1 hc1
  have HB := Aside0.mk (Below.refl w.heap.size w)
  have H : (if ([] : List Int).length + l0.length < 140737488355328 then ((some (([] : List Int) ++ l0 : List Int)).bind fun y202 => (if y202.length + l1.length < 140737488355328 then (some (y202 ++ l1)) else (none))) else (none)) = some r := h
  clear h
  by_cases c3 : ([] : List Int).length + l0.length < 140737488355328
  · rw [if_pos c3] at H
    have LMc3 := Aside0.mk c3
    clear c3
    obtain ⟨y202, hy202⟩ : ∃ y_ : List Int, y_ = (([] : List Int) ++ l0) := ⟨_, rfl⟩
    replace H : (if y202.length + l1.length < 140737488355328 then (some (y202 ++ l1)) else (none)) = some r := by first | (rw [hy202]; with_reducible exact H) | (have H2_ := (Option.bind_some _ _).symm.trans H; rw [hy202]; with_reducible exact H2_) | (have H2_ := (Option.bind_some _ _).symm.trans H; with_reducible exact H2_) | with_reducible exact H | (rw [hy202]; exact H) | exact H
    have Ny202 := Aside0.mk hy202
    clear hy202
    by_cases c4 : y202.length + l1.length < 140737488355328
    · rw [if_pos c4] at H
      have LMc4 := Aside0.mk c4
      clear c4
      obtain ⟨y205, hy205⟩ : ∃ y_ : List Int, y_ = (y202 ++ l1) := ⟨_, rfl⟩
      replace H : (some y205) = some r := by first | (rw [hy205]; with_reducible exact H) | (have H2_ := (Option.bind_some _ _).symm.trans H; rw [hy205]; with_reducible exact H2_) | (have H2_ := (Option.bind_some _ _).symm.trans H; with_reducible exact H2_) | with_reducible exact H | (rw [hy205]; exact H) | exact H
      have Ny205 := Aside0.mk hy205
      clear hy205
      obtain rfl := Option.some.inj H
      go_enter Tryd.func60, Tryd.ntmps60
      go_wp2_with (first | ((with_reducible refine gate_builtin (b := .append) (xs := #[.tmp 6, .tmp 7]) rfl ?_); at_builtin; refine Kd.R_append_rows (Kd.int .u8) (w0 := w) w.heap.size rfl (.tmp 6) (.tmp 7) 41 5 (.int .u8 0) 1 rfl Tryd.underlying41 info5 rfl (by decide) (by omega) (.slice none 0 0) ([] : List Int) l0 _ _ _ (fun _ => True) (fun _ => False) rfl rfl ?aO ?aR (fun _ _ h => h) (fun _ h => h.elim) ?aF ?aB ?aS ?aL ?_; (case aR => repeat (first | exact HR0.out | (with_reducible refine Kd.C_alloc ?_ _) | (with_reducible refine Kd.C_drewN ?_ _) | (with_reducible refine Kd.C_drew ?_))); (case aB => exact (by repeat (first | (with_reducible first | exact HB.out | apply below_alloc | apply pw_below_drewN | apply below_drew1) | exact HB.out))); (case aF => exact (fun _ _ => trivial)); (case aO => exact ((Kd.R_nil _ _ _ _ (fun _ => True)))); (case aS => exact (below_size (by repeat (first | (with_reducible first | exact HB.out | apply below_alloc | apply pw_below_drewN | apply below_drew1) | exact HB.out)))); (case aL => have := LMc3.out; omega); intro v203 w5 ho hb hg hat; rw [← Ny202.out] at ho; have n0_ := Aside0.mk (hb); have n1_ := Aside0.mk (ho); clear HB; have HB := n0_; have HO204 := n1_; clear n0_ n1_; clear ho hb hg hat) | ((with_reducible refine gate_builtin (b := .append) (xs := #[.tmp 9, .tmp 10]) rfl ?_); at_builtin; refine Kd.R_append_rows (Kd.int .u8) (w0 := w) w.heap.size rfl (.tmp 9) (.tmp 10) 41 5 (.int .u8 0) 1 rfl Tryd.underlying41 info5 rfl (by decide) (by omega) v203 y202 l1 _ _ _ (fun _ => True) (fun _ => False) rfl rfl ?aO ?aR (fun _ _ h => h) (fun _ h => h.elim) ?aF ?aB ?aS ?aL ?_; (case aR => repeat (first | exact (Kd.C_below HR1.out HB.out) | (with_reducible refine Kd.C_alloc ?_ _) | (with_reducible refine Kd.C_drewN ?_ _) | (with_reducible refine Kd.C_drew ?_))); (case aB => exact (by repeat (first | (with_reducible first | exact HB.out | apply below_alloc | apply pw_below_drewN | apply below_drew1) | exact HB.out))); (case aF => exact (fun _ _ => trivial)); (case aO => exact (by (with_reducible repeat (first | apply Kd.R_alloc | apply Kd.R_drewN | apply Kd.R_drew)); exact HO204.out)); (case aS => exact (below_size (by repeat (first | (with_reducible first | exact HB.out | apply below_alloc | apply pw_below_drewN | apply below_drew1) | exact HB.out)))); (case aL => have := LMc4.out; omega); intro v206 w6 ho hb hg hat; rw [← Ny205.out] at ho; have n0_ := Aside0.mk (hb); have n1_ := Aside0.mk (ho); clear HB; clear HO204; have HB := n0_; have HO207 := n1_; clear n0_ n1_; clear ho hb hg hat))
      go_ret
      exact ⟨_, by first | rfl | (simp [errW_none, errW_some] <;> rfl) | (simp [*, errW_none, errW_some] <;> rfl), by (with_reducible repeat (first | apply Kd.R_alloc | apply Kd.R_drewN | apply Kd.R_drew)); exact HO207.out, by repeat (first | (with_reducible first | exact HB.out | apply below_alloc | apply pw_below_drewN | apply below_drew1) | exact HB.out)⟩
    · rw [if_neg c4] at H
      exact absurd H (by simp)
  · rw [if_neg c3] at H
    exact absurd H (by simp)

/-! ### remoraref01_groups: function 61 -/
def remoraref01_groups.l0 : Nat → Int → List Int → Option (List Int)
  | 0, _, _ => none
  | k + 1, x0, x3 => if x0 > 127 then (if x3.length < 140737488355328 then (remoraref01_groups.l0 k (wrap64 (Int.tdiv x0 128)) (x3 ++ [(wrap64 (128 + (Int.tmod x0 128))) % 256])) else (none)) else (if x3.length < 140737488355328 then (some (x3 ++ [(x0) % 256])) else (none))
def remoraref01_groups.f (k : Nat) (a0 : Int) : Option (List Int) := remoraref01_groups.l0 k a0 ([] : List Int)
theorem remoraref01_groups.mono_l : ∀ k, (∀ y0 y1, LeO (remoraref01_groups.l0 k y0 y1) (remoraref01_groups.l0 (k + 1) y0 y1))
  | 0 => fun _ _ r h => by simp [remoraref01_groups.l0] at h
  | k + 1 => by
    have ih0 := remoraref01_groups.mono_l k
    · intro y0 y1
      unfold remoraref01_groups.l0
      repeat' first
      | (with_reducible exact ih0 _ _)
      | (with_reducible exact LeO.refl _)
      | (with_reducible exact LeO.none _)
      | (with_reducible refine LeO.ite ?_ ?_)
      | (with_reducible refine LeO.bind ?_ (fun _ => ?_))
      | exact ih0 _ _
      | exact LeO.none _
      | refine LeO.ite ?_ ?_
      | refine LeO.bind ?_ (fun _ => ?_)
theorem remoraref01_groups.mono : ∀ a0 k, LeO (remoraref01_groups.f k a0) (remoraref01_groups.f (k + 1) a0) := by
  intro a0 k
  have ih0 := remoraref01_groups.mono_l k
  unfold remoraref01_groups.f
  repeat' first
      | (with_reducible exact ih0 _ _)
      | (with_reducible exact LeO.refl _)
      | (with_reducible exact LeO.none _)
      | (with_reducible refine LeO.ite ?_ ?_)
      | (with_reducible refine LeO.bind ?_ (fun _ => ?_))
      | exact ih0 _ _
      | exact LeO.none _
      | refine LeO.ite ?_ ?_
      | refine LeO.bind ?_ (fun _ => ?_)
set_option maxHeartbeats 8000000 in
set_option maxRecDepth 100000 in
theorem remoraref01_groups.calls (k : Nat) (a0 : Int) (r : List Int) (w : World) (h : remoraref01_groups.f k a0 = some r) :
    Calls Tryd.prog 61 #[.int .i64 a0] w fun e w' => ∃ v0_ : Value, e = .returned (v0_) ∧ Kd.R (Kd.int .u8) 5 w' w.heap.size (fun _ => True) v0_ r ∧ Below w.heap.size w w' := by
  have HB := Aside0.mk (Below.refl w.heap.size w)
  have H : (remoraref01_groups.l0 k a0 ([] : List Int)) = some r := h
  clear h
  have H' := Aside0.mk H
  clear H
  go_enter Tryd.func61, Tryd.ntmps61
  go_wp2
  go_loopg [0, 3] k (fun kq v0 v3 w' => ∃ (x0_1 : Int) (x3_1 : List Int), v0 = .int .i64 x0_1 ∧ Aside0 (remoraref01_groups.l0 kq x0_1 x3_1 = some r) ∧ Aside0 (kq ≤ k) ∧ Aside0 (Kd.R (Kd.int .u8) 5 w' w.heap.size (fun _ => True) v3 x3_1) ∧ Aside0 (Below w.heap.size w w'))
  case atStart => exact ⟨(a0), (([] : List Int)), (by first | rfl | (simp; done) | (simp [*]; done)), H', ⟨Nat.le_refl _⟩, ⟨by first | exact Kd.R_nil _ _ _ _ _ | exact Kd.N_nil _ _ _ _ _ | exact Kd.V_nil _ _ _ _ _ | exact Kd.Q_nil _ _ _ _ _ | exact Kd.S_nil _ _ _ _ _⟩, ⟨by repeat (first | (with_reducible first | exact HB.out | apply below_alloc | apply pw_below_drewN | apply below_drew1) | exact HB.out)⟩⟩
  case round =>
    clear H'
    obtain ⟨x0_1, x3_1, rfl, HA, HK1, HO_3, HB⟩ := hrel
    cases gk with
    | zero => exact absurd HA.out (by simp [remoraref01_groups.l0])
    | succ k1 =>
      have H := HA.out
      clear HA
      simp only [remoraref01_groups.l0] at H
      by_cases c2 : x0_1 > 127
      · rw [if_pos c2] at H
        have c2b0 : decide (127 < x0_1) = true := decide_eq_true c2
        clear c2
        by_cases c3 : x3_1.length < 140737488355328
        · rw [if_pos c3] at H
          have LMc3 := Aside0.mk c3
          clear c3
          obtain ⟨y208, hy208⟩ : ∃ y_ : List Int, y_ = (x3_1 ++ [(wrap64 (128 + (Int.tmod x0_1 128))) % 256]) := ⟨_, rfl⟩
          replace H : (remoraref01_groups.l0 k1 (wrap64 (Int.tdiv x0_1 128)) y208) = some r := by first | (rw [hy208]; with_reducible exact H) | (have H2_ := (Option.bind_some _ _).symm.trans H; rw [hy208]; with_reducible exact H2_) | (have H2_ := (Option.bind_some _ _).symm.trans H; with_reducible exact H2_) | with_reducible exact H | (rw [hy208]; exact H) | exact H
          have Ny208 := Aside0.mk hy208
          clear hy208
          have H' := Aside0.mk H
          clear H
          go_wp2_with (first | ((with_reducible refine gate_builtin (b := .append) (xs := #[.tmp 6, .tmp 11]) rfl ?_); at_builtin; refine Kd.R_append (Kd.int .u8) (w0 := w) w.heap.size rfl (.tmp 6) (.tmp 11) 41 5 (.int .u8 0) 1 rfl Tryd.underlying41 info5 rfl (by decide) (by omega) u3 x3_1 ((wrap64 (128 + (Int.tmod x0_1 128))) % 256) [.int .u8 ((wrap64 (128 + (Int.tmod x0_1 128))) % 256)] (fun _ => True) (fun _ => False) rfl rfl ?aP (fun _ hk => hk.elim) ?aF ?aO ?aB ?aS ?aL ?_; (case aP => exact rfl); (case aB => exact (by repeat (first | (with_reducible first | exact HB.out | apply below_alloc | apply pw_below_drewN | apply below_drew1) | exact HB.out))); (case aF => exact (fun _ _ => trivial)); (case aO => exact (by (with_reducible repeat (first | apply Kd.R_alloc | apply Kd.R_drewN | apply Kd.R_drew)); exact HO_3.out)); (case aS => exact (below_size (by repeat (first | (with_reducible first | exact HB.out | apply below_alloc | apply pw_below_drewN | apply below_drew1) | exact HB.out)))); (case aL => have := LMc3.out; omega); intro v209 w4 ho hb hg hat; rw [← Ny208.out] at ho; have n0_ := Aside0.mk (hb); have n1_ := Aside0.mk (ho); clear HB; clear HO_3; have HB := n0_; have HO210 := n1_; clear n0_ n1_; clear ho hb hg hat))
          go_roundg k1
          case measure => have := HK1.out; omega
          case rel => exact ⟨(wrap64 (Int.tdiv x0_1 128)), (y208), (by first | rfl | (simp; done) | (simp [*]; done)), H', ⟨by have := HK1.out; omega⟩, ⟨by (with_reducible repeat (first | apply Kd.R_alloc | apply Kd.R_drewN | apply Kd.R_drew)); exact HO210.out⟩, ⟨by repeat (first | (with_reducible first | exact HB.out | apply below_alloc | apply pw_below_drewN | apply below_drew1) | exact HB.out)⟩⟩
        · rw [if_neg c3] at H
          exact absurd H (by simp)
      · rw [if_neg c2] at H
        have c2b0 : decide (127 < x0_1) = false := decide_eq_false c2
        clear c2
        by_cases c5 : x3_1.length < 140737488355328
        · rw [if_pos c5] at H
          have LMc5 := Aside0.mk c5
          clear c5
          obtain ⟨y211, hy211⟩ : ∃ y_ : List Int, y_ = (x3_1 ++ [(x0_1) % 256]) := ⟨_, rfl⟩
          replace H : (some y211) = some r := by first | (rw [hy211]; with_reducible exact H) | (have H2_ := (Option.bind_some _ _).symm.trans H; rw [hy211]; with_reducible exact H2_) | (have H2_ := (Option.bind_some _ _).symm.trans H; with_reducible exact H2_) | with_reducible exact H | (rw [hy211]; exact H) | exact H
          have Ny211 := Aside0.mk hy211
          clear hy211
          obtain rfl := Option.some.inj H
          go_wp2_with (first | ((with_reducible refine gate_builtin (b := .append) (xs := #[.tmp 15, .tmp 18]) rfl ?_); at_builtin; refine Kd.R_append (Kd.int .u8) (w0 := w) w.heap.size rfl (.tmp 15) (.tmp 18) 41 5 (.int .u8 0) 1 rfl Tryd.underlying41 info5 rfl (by decide) (by omega) u3 x3_1 ((x0_1) % 256) [.int .u8 ((x0_1) % 256)] (fun _ => True) (fun _ => False) rfl rfl ?aP (fun _ hk => hk.elim) ?aF ?aO ?aB ?aS ?aL ?_; (case aP => exact rfl); (case aB => exact (by repeat (first | (with_reducible first | exact HB.out | apply below_alloc | apply pw_below_drewN | apply below_drew1) | exact HB.out))); (case aF => exact (fun _ _ => trivial)); (case aO => exact (by (with_reducible repeat (first | apply Kd.R_alloc | apply Kd.R_drewN | apply Kd.R_drew)); exact HO_3.out)); (case aS => exact (below_size (by repeat (first | (with_reducible first | exact HB.out | apply below_alloc | apply pw_below_drewN | apply below_drew1) | exact HB.out)))); (case aL => have := LMc5.out; omega); intro v212 w6 ho hb hg hat; rw [← Ny211.out] at ho; have n0_ := Aside0.mk (hb); have n1_ := Aside0.mk (ho); clear HB; clear HO_3; have HB := n0_; have HO213 := n1_; clear n0_ n1_; clear ho hb hg hat))
          go_ret
          exact ⟨_, by first | rfl | (simp [errW_none, errW_some] <;> rfl) | (simp [*, errW_none, errW_some] <;> rfl), by (with_reducible repeat (first | apply Kd.R_alloc | apply Kd.R_drewN | apply Kd.R_drew)); exact HO213.out, by repeat (first | (with_reducible first | exact HB.out | apply below_alloc | apply pw_below_drewN | apply below_drew1) | exact HB.out)⟩
        · rw [if_neg c5] at H
          exact absurd H (by simp)

/-! ### remoraref01_held: function 62 -/
def remoraref01_held.f (a0 : Int) (a1 : Int) (a2 : Int) : Option (Int) := if a0 < a1 then (some a1) else (if a0 > a2 then (some a2) else (some a0))
set_option maxHeartbeats 8000000 in
set_option maxRecDepth 100000 in
theorem remoraref01_held.calls (a0 : Int) (a1 : Int) (a2 : Int) (r : Int) (w : World) (h : remoraref01_held.f a0 a1 a2 = some r) :
    Calls Tryd.prog 62 #[.int .i64 a0, .int .i64 a1, .int .i64 a2] w fun e w' => e = .returned (.int .i64 r) ∧ Drawn0 w w' := by
  have H : (if a0 < a1 then (some a1) else (if a0 > a2 then (some a2) else (some a0))) = some r := h
  clear h
  by_cases c4 : a0 < a1
  · rw [if_pos c4] at H
    have c4b0 : decide (a0 < a1) = true := decide_eq_true c4
    clear c4
    obtain rfl := Option.some.inj H
    go_enter Tryd.func62, Tryd.ntmps62
    go_wp2
    go_ret
    exact ⟨by first | rfl | (simp; done) | (simp [*]; done), by repeat (first | exact Drawn0.refl _ | apply Drawn0.step)⟩
  · rw [if_neg c4] at H
    have c4b0 : decide (a0 < a1) = false := decide_eq_false c4
    clear c4
    by_cases c5 : a0 > a2
    · rw [if_pos c5] at H
      have c5b0 : decide (a2 < a0) = true := decide_eq_true c5
      clear c5
      obtain rfl := Option.some.inj H
      go_enter Tryd.func62, Tryd.ntmps62
      go_wp2
      go_ret
      exact ⟨by first | rfl | (simp; done) | (simp [*]; done), by repeat (first | exact Drawn0.refl _ | apply Drawn0.step)⟩
    · rw [if_neg c5] at H
      have c5b0 : decide (a2 < a0) = false := decide_eq_false c5
      clear c5
      obtain rfl := Option.some.inj H
      go_enter Tryd.func62, Tryd.ntmps62
      go_wp2
      go_ret
      exact ⟨by first | rfl | (simp; done) | (simp [*]; done), by repeat (first | exact Drawn0.refl _ | apply Drawn0.step)⟩

/-! ### remoraref01_Put: function 34 -/
def remoraref01_Put.f (k : Nat) (l0 : List Int) (a1 : Int) : Option (List Int) := (remoraref01_held.f a1 0 4611686018427387903).bind fun t214 => ((remoraref01_groups.f k t214).bind fun t215 => ((remoraref01_behind.f l0 t215).bind fun t218 => (some t218)))
theorem remoraref01_Put.mono : ∀ a0 a1 k, LeO (remoraref01_Put.f k a0 a1) (remoraref01_Put.f (k + 1) a0 a1) := by
  intro a0 a1 k
  unfold remoraref01_Put.f
  repeat' first
      | (with_reducible exact remoraref01_groups.mono _ _)
      | (with_reducible exact LeO.refl _)
      | (with_reducible exact LeO.none _)
      | (with_reducible refine LeO.ite ?_ ?_)
      | (with_reducible refine LeO.bind ?_ (fun _ => ?_))
      | exact remoraref01_groups.mono _ _
      | exact LeO.none _
      | refine LeO.ite ?_ ?_
      | refine LeO.bind ?_ (fun _ => ?_)
set_option maxHeartbeats 8000000 in
set_option maxRecDepth 100000 in
theorem remoraref01_Put.calls (k : Nat) (A0 : Option Addr) (c0 : Nat) (l0 : List Int) (a1 : Int) (r : List Int) (w : World) (hr0 : Kd.C (Kd.int .u8) w A0 l0.length l0) (hc0 : l0.length ≤ c0) (h : remoraref01_Put.f k l0 a1 = some r) :
    Calls Tryd.prog 34 #[.slice A0 l0.length c0, .int .i64 a1] w fun e w' => ∃ v0_ : Value, e = .returned (v0_) ∧ Kd.R (Kd.int .u8) 5 w' w.heap.size (fun _ => True) v0_ r ∧ Below w.heap.size w w' := by
  have HR0 := Aside0.mk hr0
  have HC0 := Aside0.mk hc0
  clear hr0 hc0
  have HB := Aside0.mk (Below.refl w.heap.size w)
  have H : ((remoraref01_held.f a1 0 4611686018427387903).bind fun t214 => ((remoraref01_groups.f k t214).bind fun t215 => ((remoraref01_behind.f l0 t215).bind fun t218 => (some t218)))) = some r := h
  clear h
  replace H := Option.bind_eq_some_iff.mp H
  obtain ⟨t214, A30, H⟩ := H
  replace H : ((remoraref01_groups.f k t214).bind fun t215 => ((remoraref01_behind.f l0 t215).bind fun t218 => (some t218))) = some r := H
  have A3 := Aside0.mk A30
  clear A30
  replace H := Option.bind_eq_some_iff.mp H
  obtain ⟨t215, A40, H⟩ := H
  replace H : ((remoraref01_behind.f l0 t215).bind fun t218 => (some t218)) = some r := H
  have A4 := Aside0.mk A40
  clear A40
  replace H := Option.bind_eq_some_iff.mp H
  obtain ⟨t218, A50, H⟩ := H
  replace H : (some t218) = some r := H
  have A5 := Aside0.mk A50
  clear A50
  obtain rfl := Option.some.inj H
  go_enter Tryd.func34, Tryd.ntmps34
  go_wp2_with (first | ((with_reducible refine gate_callee (f := 62) rfl ?_); refine goesL_ (some 7) rfl rfl Tryd.func62 (by kernel_rfl) rfl #[.int .i64 a1, .int .i64 0, .int .i64 4611686018427387903] rfl (by (try simp only [List.map_toArray, List.map_cons, List.map_nil]); first | done | rfl | (simp only [List.length_drop, List.length_take]; rfl) | (simp; done) | (simp; (repeat' apply And.intro) <;> rfl)) ?_; (with_reducible refine (remoraref01_held.calls a1 0 4611686018427387903 t214 _ A3.out).mono ?_); rintro e w' ⟨rfl, ⟨nd, rfl⟩⟩; refine ⟨_, rfl, ?_⟩) | ((with_reducible refine gate_callee (f := 61) rfl ?_); refine goesL_ (some 8) rfl rfl Tryd.func61 (by kernel_rfl) rfl #[.int .i64 t214] rfl (by (try simp only [List.map_toArray, List.map_cons, List.map_nil]); first | done | rfl | (simp only [List.length_drop, List.length_take]; rfl) | (simp; done) | (simp; (repeat' apply And.intro) <;> rfl)) ?_; (with_reducible refine (remoraref01_groups.calls k t214 t215 _ A4.out).mono ?_); rintro e w6 ⟨v216, rfl, ho0, hb⟩; refine ⟨_, rfl, ?_⟩; have n0_ := Aside0.mk (Kd.R_lower ho0 (below_size (by repeat (first | (with_reducible first | exact HB.out | apply below_alloc | apply pw_below_drewN | apply below_drew1) | exact HB.out)))); have n1_ := Aside0.mk (below_step (by repeat (first | (with_reducible first | exact HB.out | apply below_alloc | apply pw_below_drewN | apply below_drew1) | exact HB.out)) hb); clear HB; have HO217 := n0_; have HB := n1_; clear n0_ n1_; (try clear hb); (try clear hb2); (try clear hk); (try clear hi); (try clear ho0); obtain ⟨Ao7, co7, eo7⟩ := Kd.R_slice HO217.out; subst eo7) | ((with_reducible refine gate_callee (f := 60) rfl ?_); refine goesL_ (some 9) rfl rfl Tryd.func60 (by kernel_rfl) rfl #[.slice A0 l0.length c0, .slice Ao7 t215.length co7] rfl (by (try simp only [List.map_toArray, List.map_cons, List.map_nil]); first | done | rfl | (simp only [List.length_drop, List.length_take]; rfl) | (simp; done) | (simp; (repeat' apply And.intro) <;> rfl)) ?_; (with_reducible refine (remoraref01_behind.calls _ _ l0 _ _ t215 t218 _ ?side1 ?side2 ?side3 ?side4 A5.out).mono ?_); (case side1 => repeat (first | exact (Kd.C_below HR0.out HB.out) | (with_reducible refine Kd.C_alloc ?_ _) | (with_reducible refine Kd.C_drewN ?_ _) | (with_reducible refine Kd.C_drew ?_))); (case side2 => exact HC0.out); (case side3 => repeat (first | exact (Kd.R_reads' HO217.out).2.2 | (with_reducible refine Kd.C_alloc ?_ _) | (with_reducible refine Kd.C_drewN ?_ _) | (with_reducible refine Kd.C_drew ?_))); (case side4 => exact (Kd.R_reads' HO217.out).2.1); rintro e w8 ⟨v219, rfl, ho0, hb⟩; refine ⟨_, rfl, ?_⟩; have n0_ := Aside0.mk (Kd.R_elder' (by (with_reducible repeat (first | apply Kd.R_alloc | apply Kd.R_drewN | apply Kd.R_drew)); exact HO217.out) (Kd.R_base ho0) hb); have n1_ := Aside0.mk (Kd.R_lower (Kd.R_new' ho0 (Kd.R_lt (by (with_reducible repeat (first | apply Kd.R_alloc | apply Kd.R_drewN | apply Kd.R_drew)); exact HO217.out))) (below_size (by repeat (first | (with_reducible first | exact HB.out | apply below_alloc | apply pw_below_drewN | apply below_drew1) | exact HB.out)))); have n2_ := Aside0.mk (below_step (by repeat (first | (with_reducible first | exact HB.out | apply below_alloc | apply pw_below_drewN | apply below_drew1) | exact HB.out)) hb); clear HO217; clear HB; have HO217 := n0_; have HO220 := n1_; have HB := n2_; clear n0_ n1_ n2_; (try clear hb); (try clear hb2); (try clear hk); (try clear hi); (try clear ho0)))
  go_ret
  exact ⟨_, by first | rfl | (simp [errW_none, errW_some] <;> rfl) | (simp [*, errW_none, errW_some] <;> rfl), by (with_reducible repeat (first | apply Kd.R_alloc | apply Kd.R_drewN | apply Kd.R_drew)); exact Kd.R_mono HO220.out (fun _ hk => trivial), by repeat (first | (with_reducible first | exact HB.out | apply below_alloc | apply pw_below_drewN | apply below_drew1) | exact HB.out)⟩

/-! ### remoraref01_PutText: function 35, a contract of my own -/
def remoraref01_PutText.f (k : Nat) (l0 : List Int) (a1 : ByteArray) : Option (List Int) :=
  if a1.size ≤ 140737488351232 then (remoraref01_Put.f k l0 (a1.size : Int)).bind fun t => remoraref01_behind.f t (bytesOf a1) else none
theorem remoraref01_PutText.mono : ∀ a0 a1 k, LeO (remoraref01_PutText.f k a0 a1) (remoraref01_PutText.f (k + 1) a0 a1) := by
  intro a0 a1 k
  unfold remoraref01_PutText.f
  refine LeO.ite ?_ (LeO.refl _)
  exact LeO.bind (remoraref01_Put.mono _ _ k) (fun _ => LeO.refl _)
set_option maxHeartbeats 1000000 in
theorem remoraref01_PutText.calls (k : Nat) (A0 : Option Addr) (c0 : Nat) (l0 : List Int) (a1 : ByteArray) (r : List Int) (w : World) (hr0 : Kd.C (Kd.int .u8) w A0 l0.length l0) (hc0 : l0.length ≤ c0) (h : remoraref01_PutText.f k l0 a1 = some r) :
    Calls Tryd.prog 35 #[.slice A0 l0.length c0, .string a1] w fun e w' => ∃ v0_ : Value, e = .returned (v0_) ∧ Kd.R (Kd.int .u8) 5 w' w.heap.size (fun _ => True) v0_ r ∧ Below w.heap.size w w' := by
  have HR0 := Aside0.mk hr0
  have HC0 := Aside0.mk hc0
  clear hr0 hc0
  unfold remoraref01_PutText.f at h
  by_cases hs : a1.size ≤ 140737488351232
  · rw [if_pos hs] at h
    obtain ⟨t, hp, h⟩ := Option.bind_eq_some_iff.mp h
    have HP := Aside0.mk hp
    have HH := Aside0.mk h
    have HS := Aside0.mk hs
    clear hp h hs
    have kb := fun W => print_bytes (P := Tryd.prog) 9 41 5 Tryd.underlying9 Tryd.underlying41 Tryd.underlying5 a1 W
    go_enter Tryd.func35, Tryd.ntmps35
    go_wp2_with fail
    refine (remoraref01_Put.calls k _ _ l0 _ t _ HR0.out HC0.out HP.out).mono ?_
    rintro e w1 ⟨v1, rfl, ho, hb⟩
    obtain ⟨A1, c1, e1⟩ := Kd.R_slice ho
    subst e1
    have HO := Aside0.mk ho
    have HB := Aside0.mk hb
    clear ho hb
    go_wp2_with fail
    have hB := Kd.C_bytes_u8 w1 5 a1 (by have := HS.out; omega)
    have hb2 : Below w1.heap.size w1 (Lib.bytesWorld w1 5 a1) := bytes_below (Below.refl _ _) (Nat.le_refl _) _ _
    have hcall := remoraref01_behind.calls A1 c1 t (some ⟨w1.heap.size, 0, none⟩) (grownCap w1 a1.size 0 5) (bytesOf a1) r (Lib.bytesWorld w1 5 a1) (Kd.C_below (Kd.R_reads' HO.out).2.2 hb2) (Kd.R_reads' HO.out).2.1 hB (by rw [bytesOf_length]; exact grownCap_ge _ _ _ _) HH.out
    rw [bytesOf_length] at hcall
    refine hcall.mono ?_
    rintro e w2 ⟨v2, rfl, ho2, hb3⟩
    have HB2 := Aside0.mk (below_step (below_step HB.out hb2) hb3)
    have HO2 := Aside0.mk (Kd.R_lower ho2 (below_size (below_step HB.out hb2)))
    clear ho2 hb3 hB hb2 hcall kb
    go_wp2
    go_ret
    exact ⟨_, rfl, HO2.out, HB2.out⟩
  · rw [if_neg hs] at h
    cases h


end Go.Proofs.YtniboafnkiijcaaDoor.P
