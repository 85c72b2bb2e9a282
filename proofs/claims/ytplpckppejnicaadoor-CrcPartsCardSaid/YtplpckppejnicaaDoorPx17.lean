-- Written by a program of the session (wip/tool/mk.py) out of the translation; Lean checks it.
import Derived.Test.YtplpckppejnicaaDoorPx0
import Derived.Test.YtplpckppejnicaaDoorPx1
import Derived.Test.YtplpckppejnicaaDoorPx13
namespace Go.Proofs.YtplpckppejnicaaDoor.P
open Go.RowKit Go.Proofs.YtplpckppejnicaaDoorW.PrintWords Go.Proofs.YtplpckppejnicaaDoorW.PrintLast Go.Proofs.YtplpckppejnicaaDoorW.PrintMore
attribute [local go_sem] max2_int min2_int max_two min_two max_three min_three max_four min_four   -- for this text's walks alone
set_option linter.unusedVariables false
set_option linter.unusedSimpArgs false

/-! ### remoralaw02_CrcParts: function 9, a contract of my own -/
def crc_Of3.f (l0 l1 l2 : List Int) : Option Int := some (crcSum (l0 ++ l1 ++ l2))
theorem crc_Of.threeV (g : Nat) (n1 c1 : Nat) (A1 : Option Addr) (L1 : List Int) (n2 c2 : Nat) (A2 : Option Addr) (L2 : List Int) (n3 c3 : Nat) (A3 : Option Addr) (L3 : List Int) (t : Int) (w : World) (hG : GT w)
    (hc : w.cell? ⟨g, 0, none⟩ = some (.slice A1 n1 c1) ∧ w.cell? ⟨g, 1, none⟩ = some (.slice A2 n2 c2) ∧ w.cell? ⟨g, 2, none⟩ = some (.slice A3 n3 c3))
    (h1 : Kd.C (Kd.int .u8) w A1 n1 L1) (h2 : Kd.C (Kd.int .u8) w A2 n2 L2) (h3 : Kd.C (Kd.int .u8) w A3 n3 L3) (hc1 : n1 ≤ c1) (hc2 : n2 ≤ c2) (hc3 : n3 ≤ c3) (hn1 : L1.length = n1) (hn2 : L2.length = n2) (hn3 : L3.length = n3) (ht : crcSum (L1 ++ L2 ++ L3) = t) :
    Calls Tryd.prog 11 #[.slice (some ⟨g, 0, none⟩) 3 3] w fun e w' => e = .returned (.int .u32 t) ∧ w' = w := by
  subst hn1 hn2 hn3 ht
  have e : crcOfPs 4294967295 [(A1, c1, L1), (A2, c2, L2), (A3, c3, L3)] = crcFold 4294967295 (L1 ++ L2 ++ L3) := by
    simp [crcOfPs, crcFold, List.foldl_append]
  unfold crcSum
  rw [← e]
  refine crc_Of.walked (some ⟨g, 0, none⟩) 3 [(A1, c1, L1), (A2, c2, L2), (A3, c3, L3)] w hG ?_ (by simp)
  intro i hi
  have : i = 0 ∨ i = 1 ∨ i = 2 := by have : i < 3 := hi; omega
  rcases this with rfl | rfl | rfl
  · exact ⟨⟨_, rfl, by rw [add_plain]; exact hc.1⟩, h1, hc1, h1.2.1⟩
  · exact ⟨⟨_, rfl, by rw [add_plain]; exact hc.2.1⟩, h2, hc2, h2.2.1⟩
  · exact ⟨⟨_, rfl, by rw [add_plain]; exact hc.2.2⟩, h3, hc3, h3.2.1⟩
/-! ### remoralaw02_CrcParts: function 9 -/
def remoralaw02_CrcParts.f (l0 : List Int) (a1 : Int) (a2 : Int) : Option (Bool) := if (l0.length : Int) > 600 then ((remoralaw02_awake.f).bind fun t107 => (some t107)) else (if (wrap64 ((l0.length : Int) + 1)) = 0 then (none) else (if (wrap64 ((wrap64 ((l0.length : Int) - (Int.tmod (wrap64 (a1)) (wrap64 ((l0.length : Int) + 1))))) + 1)) = 0 then (none) else (if 0 ≤ (Int.tmod (wrap64 (a1)) (wrap64 ((l0.length : Int) + 1))) then (if (Int.tmod (wrap64 (a1)) (wrap64 ((l0.length : Int) + 1))) ≤ (l0.length : Int) then ((crc_Of1.f (l0.take ((Int.tmod (wrap64 (a1)) (wrap64 ((l0.length : Int) + 1))) : Int).toNat)).bind fun t109 => (if (Int.tmod (wrap64 (a1)) (wrap64 ((l0.length : Int) + 1))) ≤ (wrap64 ((Int.tmod (wrap64 (a1)) (wrap64 ((l0.length : Int) + 1))) + (Int.tmod (wrap64 (a2)) (wrap64 ((wrap64 ((l0.length : Int) - (Int.tmod (wrap64 (a1)) (wrap64 ((l0.length : Int) + 1))))) + 1))))) then (if (wrap64 ((Int.tmod (wrap64 (a1)) (wrap64 ((l0.length : Int) + 1))) + (Int.tmod (wrap64 (a2)) (wrap64 ((wrap64 ((l0.length : Int) - (Int.tmod (wrap64 (a1)) (wrap64 ((l0.length : Int) + 1))))) + 1))))) ≤ (l0.length : Int) then ((crc_Of1.f ((l0.take ((wrap64 ((Int.tmod (wrap64 (a1)) (wrap64 ((l0.length : Int) + 1))) + (Int.tmod (wrap64 (a2)) (wrap64 ((wrap64 ((l0.length : Int) - (Int.tmod (wrap64 (a1)) (wrap64 ((l0.length : Int) + 1))))) + 1))))) : Int).toNat).drop ((Int.tmod (wrap64 (a1)) (wrap64 ((l0.length : Int) + 1))) : Int).toNat)).bind fun t111 => (if 0 ≤ (wrap64 ((Int.tmod (wrap64 (a1)) (wrap64 ((l0.length : Int) + 1))) + (Int.tmod (wrap64 (a2)) (wrap64 ((wrap64 ((l0.length : Int) - (Int.tmod (wrap64 (a1)) (wrap64 ((l0.length : Int) + 1))))) + 1))))) then ((crc_Of1.f (l0.drop ((wrap64 ((Int.tmod (wrap64 (a1)) (wrap64 ((l0.length : Int) + 1))) + (Int.tmod (wrap64 (a2)) (wrap64 ((wrap64 ((l0.length : Int) - (Int.tmod (wrap64 (a1)) (wrap64 ((l0.length : Int) + 1))))) + 1))))) : Int).toNat)).bind fun t113 => ((crc_Join.f t109 t111 (wrap64 ((wrap64 ((Int.tmod (wrap64 (a1)) (wrap64 ((l0.length : Int) + 1))) + (Int.tmod (wrap64 (a2)) (wrap64 ((wrap64 ((l0.length : Int) - (Int.tmod (wrap64 (a1)) (wrap64 ((l0.length : Int) + 1))))) + 1))))) - (Int.tmod (wrap64 (a1)) (wrap64 ((l0.length : Int) + 1)))))).bind fun t114 => ((crc_Join.f t114 t113 (wrap64 ((l0.length : Int) - (wrap64 ((Int.tmod (wrap64 (a1)) (wrap64 ((l0.length : Int) + 1))) + (Int.tmod (wrap64 (a2)) (wrap64 ((wrap64 ((l0.length : Int) - (Int.tmod (wrap64 (a1)) (wrap64 ((l0.length : Int) + 1))))) + 1)))))))).bind fun t115 => ((crc_Join.f t111 t113 (wrap64 ((l0.length : Int) - (wrap64 ((Int.tmod (wrap64 (a1)) (wrap64 ((l0.length : Int) + 1))) + (Int.tmod (wrap64 (a2)) (wrap64 ((wrap64 ((l0.length : Int) - (Int.tmod (wrap64 (a1)) (wrap64 ((l0.length : Int) + 1))))) + 1)))))))).bind fun t116 => ((crc_Join.f t109 t116 (wrap64 ((l0.length : Int) - (Int.tmod (wrap64 (a1)) (wrap64 ((l0.length : Int) + 1)))))).bind fun t117 => ((crc_Of1.f l0).bind fun t118 => (if t115 = t118 then (if t117 = t115 then ((crc_Of3.f (l0.take ((Int.tmod (wrap64 (a1)) (wrap64 ((l0.length : Int) + 1))) : Int).toNat) ((l0.take ((wrap64 ((Int.tmod (wrap64 (a1)) (wrap64 ((l0.length : Int) + 1))) + (Int.tmod (wrap64 (a2)) (wrap64 ((wrap64 ((l0.length : Int) - (Int.tmod (wrap64 (a1)) (wrap64 ((l0.length : Int) + 1))))) + 1))))) : Int).toNat).drop ((Int.tmod (wrap64 (a1)) (wrap64 ((l0.length : Int) + 1))) : Int).toNat) (l0.drop ((wrap64 ((Int.tmod (wrap64 (a1)) (wrap64 ((l0.length : Int) + 1))) + (Int.tmod (wrap64 (a2)) (wrap64 ((wrap64 ((l0.length : Int) - (Int.tmod (wrap64 (a1)) (wrap64 ((l0.length : Int) + 1))))) + 1))))) : Int).toNat)).bind fun t122 => (if t122 = t115 then ((remoralaw02_awake.f).bind fun t123 => (some t123)) else (some false))) else (some false)) else (some false)))))))) else (none))) else (none)) else (none))) else (none)) else (none))))
def remoralaw02_CrcParts.T5 : Bool × List (List Nat × List Nat) := (true, [([], []), ([], []), ([0, 1], [0, 1]), ([2], [2]), ([3], [3]), ([], []), ([], []), ([], []), ([5, 6, 7], [5, 6, 7]), ([8], [8]), ([9, 4], [9]), ([], []), ([], []), ([11, 12], [11, 12]), ([13], [13]), ([14, 10], [14]), ([4, 15, 0, 1, 2, 3, 4], [4]), ([10, 16, 0, 1, 2, 3, 4, 5, 6, 7, 8, 9, 10, 16], [10]), ([15, 17, 0, 1, 2, 3, 4, 5, 6, 7, 8, 9, 10, 11, 12, 13, 14, 15, 16, 17], [15])])
def remoralaw02_CrcParts.B5 : List Nat := [0, 0, 3, 7, 15, 0, 0, 0, 224, 480, 1023, 0, 0, 6144, 14336, 32767, 65535, 131071, 262143]
theorem remoralaw02_CrcParts.tab5 : rtab .any (opsOf Tryd.f9 5) = remoralaw02_CrcParts.T5 := by kernel_rfl
theorem remoralaw02_CrcParts.bits5 : waitsOk remoralaw02_CrcParts.T5.2 remoralaw02_CrcParts.B5 = true := by kernel_rfl
def remoralaw02_CrcParts.T8 : Bool × List (List Nat × List Nat) := (true, [([], []), ([], []), ([1], [1]), ([2], [2]), ([0, 3], [0, 3]), ([4, 3], [4]), ([5], [5]), ([5], [5]), ([6, 7, 5], [5, 6, 7]), ([5, 8], [5, 8]), ([9, 5], [9]), ([10], [10]), ([10], [10]), ([11, 12, 10], [10, 11, 12]), ([10], [10]), ([10], [10]), ([10], [10]), ([14, 15, 16, 10], [10, 14, 15, 16]), ([10], [10]), ([10], [10]), ([18, 19, 10], [10, 18, 19]), ([13, 17, 20, 10], [10, 13, 17, 20]), ([21, 10, 10], [10, 21]), ([10], [10]), ([22, 23, 10], [10, 22, 23]), ([10, 24], [10, 24]), ([25, 22], [25]), ([26, 26], [26]), ([26, 27], [26, 27]), ([28, 27, 0, 1, 2, 3, 4, 5, 6, 7, 8, 9, 10, 11, 12, 13, 14, 15, 16, 17, 18, 19, 20, 21, 22, 23, 24, 25, 26, 27, 28], [28])])
def remoralaw02_CrcParts.B8 : List Nat := [0, 0, 2, 6, 15, 31, 63, 63, 255, 511, 1023, 2047, 2047, 8191, 2047, 2047, 2047, 116735, 2047, 2047, 788479, 2097151, 4194303, 2047, 16777215, 33554431, 67108863, 134217727, 268435455, 536870911]
theorem remoralaw02_CrcParts.tab8 : rtab .any (opsOf Tryd.f9 8) = remoralaw02_CrcParts.T8 := by kernel_rfl
theorem remoralaw02_CrcParts.bits8 : waitsOk remoralaw02_CrcParts.T8.2 remoralaw02_CrcParts.B8 = true := by kernel_rfl
set_option maxHeartbeats 8000000 in
set_option maxRecDepth 100000 in
theorem remoralaw02_CrcParts.calls (A0 : Option Addr) (c0 : Nat) (l0 : List Int) (a1 : Int) (a2 : Int) (r : Bool) (w : World) (hG : GT w) (hr0 : Kd.C (Kd.int .u8) w A0 l0.length l0) (hc0 : l0.length ≤ c0) (h : remoralaw02_CrcParts.f l0 a1 a2 = some r) :
  Calls Tryd.prog 9 #[.slice A0 l0.length c0, .int .u16 a1, .int .u16 a2] w fun e w' => e = .returned (.bool r) ∧ Below w.heap.size w w' := by
 have HR0 := Aside0.mk hr0
 have HC0 := Aside0.mk hc0
 clear hr0 hc0
 have HG := Aside0.mk hG
 clear hG
 have HB := Aside0.mk (Below.refl w.heap.size w)
 have H : (if (l0.length : Int) > 600 then ((remoralaw02_awake.f).bind fun t107 => (some t107)) else (if (wrap64 ((l0.length : Int) + 1)) = 0 then (none) else (if (wrap64 ((wrap64 ((l0.length : Int) - (Int.tmod (wrap64 (a1)) (wrap64 ((l0.length : Int) + 1))))) + 1)) = 0 then (none) else (if 0 ≤ (Int.tmod (wrap64 (a1)) (wrap64 ((l0.length : Int) + 1))) then (if (Int.tmod (wrap64 (a1)) (wrap64 ((l0.length : Int) + 1))) ≤ (l0.length : Int) then ((crc_Of1.f (l0.take ((Int.tmod (wrap64 (a1)) (wrap64 ((l0.length : Int) + 1))) : Int).toNat)).bind fun t109 => (if (Int.tmod (wrap64 (a1)) (wrap64 ((l0.length : Int) + 1))) ≤ (wrap64 ((Int.tmod (wrap64 (a1)) (wrap64 ((l0.length : Int) + 1))) + (Int.tmod (wrap64 (a2)) (wrap64 ((wrap64 ((l0.length : Int) - (Int.tmod (wrap64 (a1)) (wrap64 ((l0.length : Int) + 1))))) + 1))))) then (if (wrap64 ((Int.tmod (wrap64 (a1)) (wrap64 ((l0.length : Int) + 1))) + (Int.tmod (wrap64 (a2)) (wrap64 ((wrap64 ((l0.length : Int) - (Int.tmod (wrap64 (a1)) (wrap64 ((l0.length : Int) + 1))))) + 1))))) ≤ (l0.length : Int) then ((crc_Of1.f ((l0.take ((wrap64 ((Int.tmod (wrap64 (a1)) (wrap64 ((l0.length : Int) + 1))) + (Int.tmod (wrap64 (a2)) (wrap64 ((wrap64 ((l0.length : Int) - (Int.tmod (wrap64 (a1)) (wrap64 ((l0.length : Int) + 1))))) + 1))))) : Int).toNat).drop ((Int.tmod (wrap64 (a1)) (wrap64 ((l0.length : Int) + 1))) : Int).toNat)).bind fun t111 => (if 0 ≤ (wrap64 ((Int.tmod (wrap64 (a1)) (wrap64 ((l0.length : Int) + 1))) + (Int.tmod (wrap64 (a2)) (wrap64 ((wrap64 ((l0.length : Int) - (Int.tmod (wrap64 (a1)) (wrap64 ((l0.length : Int) + 1))))) + 1))))) then ((crc_Of1.f (l0.drop ((wrap64 ((Int.tmod (wrap64 (a1)) (wrap64 ((l0.length : Int) + 1))) + (Int.tmod (wrap64 (a2)) (wrap64 ((wrap64 ((l0.length : Int) - (Int.tmod (wrap64 (a1)) (wrap64 ((l0.length : Int) + 1))))) + 1))))) : Int).toNat)).bind fun t113 => ((crc_Join.f t109 t111 (wrap64 ((wrap64 ((Int.tmod (wrap64 (a1)) (wrap64 ((l0.length : Int) + 1))) + (Int.tmod (wrap64 (a2)) (wrap64 ((wrap64 ((l0.length : Int) - (Int.tmod (wrap64 (a1)) (wrap64 ((l0.length : Int) + 1))))) + 1))))) - (Int.tmod (wrap64 (a1)) (wrap64 ((l0.length : Int) + 1)))))).bind fun t114 => ((crc_Join.f t114 t113 (wrap64 ((l0.length : Int) - (wrap64 ((Int.tmod (wrap64 (a1)) (wrap64 ((l0.length : Int) + 1))) + (Int.tmod (wrap64 (a2)) (wrap64 ((wrap64 ((l0.length : Int) - (Int.tmod (wrap64 (a1)) (wrap64 ((l0.length : Int) + 1))))) + 1)))))))).bind fun t115 => ((crc_Join.f t111 t113 (wrap64 ((l0.length : Int) - (wrap64 ((Int.tmod (wrap64 (a1)) (wrap64 ((l0.length : Int) + 1))) + (Int.tmod (wrap64 (a2)) (wrap64 ((wrap64 ((l0.length : Int) - (Int.tmod (wrap64 (a1)) (wrap64 ((l0.length : Int) + 1))))) + 1)))))))).bind fun t116 => ((crc_Join.f t109 t116 (wrap64 ((l0.length : Int) - (Int.tmod (wrap64 (a1)) (wrap64 ((l0.length : Int) + 1)))))).bind fun t117 => ((crc_Of1.f l0).bind fun t118 => (if t115 = t118 then (if t117 = t115 then ((crc_Of3.f (l0.take ((Int.tmod (wrap64 (a1)) (wrap64 ((l0.length : Int) + 1))) : Int).toNat) ((l0.take ((wrap64 ((Int.tmod (wrap64 (a1)) (wrap64 ((l0.length : Int) + 1))) + (Int.tmod (wrap64 (a2)) (wrap64 ((wrap64 ((l0.length : Int) - (Int.tmod (wrap64 (a1)) (wrap64 ((l0.length : Int) + 1))))) + 1))))) : Int).toNat).drop ((Int.tmod (wrap64 (a1)) (wrap64 ((l0.length : Int) + 1))) : Int).toNat) (l0.drop ((wrap64 ((Int.tmod (wrap64 (a1)) (wrap64 ((l0.length : Int) + 1))) + (Int.tmod (wrap64 (a2)) (wrap64 ((wrap64 ((l0.length : Int) - (Int.tmod (wrap64 (a1)) (wrap64 ((l0.length : Int) + 1))))) + 1))))) : Int).toNat)).bind fun t122 => (if t122 = t115 then ((remoralaw02_awake.f).bind fun t123 => (some t123)) else (some false))) else (some false)) else (some false)))))))) else (none))) else (none)) else (none))) else (none)) else (none))))) = some r := h
 clear h
 by_cases c4 : (l0.length : Int) > 600
 ·rw [if_pos c4] at H
  have c4b0 : decide (600 < (l0.length : Int)) = true := decide_eq_true c4
  have c4b1 : decide (600 < l0.length) = true := decide_eq_true (by omega)
  clear c4
  replace H := Option.bind_eq_some_iff.mp H
  obtain ⟨t107, A50, H⟩ := H
  replace H : (some t107) = some r := H
  have A5 := Aside0.mk A50
  clear A50
  obtain rfl := Option.some.inj H
  go_enter Tryd.func9, Tryd.ntmps9
  go_wp2_with (first | ((with_reducible refine gate_callee (f := 10) rfl ?_); refine goesL_ (some 17) rfl rfl Tryd.func10 (by kernel_rfl) rfl #[] rfl (by (try simp only [List.map_toArray, List.map_cons, List.map_nil]); first | done | rfl | (simp only [List.length_drop, List.length_take]; rfl) | (simp; done) | (simp; (repeat' apply And.intro) <;> rfl)) ?_; (with_reducible refine (remoralaw02_awake.calls  t107 _ ?side1 A5.out).mono ?_); (case side1 => first | exact HG.out | exact GT.below HG.out (by repeat (first | (with_reducible first | exact HB.out | apply below_alloc | apply pw_below_drewN | apply below_drew1) | exact HB.out))); rintro e w6 ⟨rfl, hb⟩; refine ⟨_, rfl, ?_⟩; have n0_ := Aside0.mk (below_step (by repeat (first | (with_reducible first | exact HB.out | apply below_alloc | apply pw_below_drewN | apply below_drew1) | exact HB.out)) hb); clear HB; have HB := n0_; clear n0_; (try clear hb); (try clear hb2); (try clear hk); (try clear hi)))
  go_ret
  exact ⟨by first | rfl | (simp [errW_none, errW_some] <;> rfl) | (simp [*, errW_none, errW_some] <;> rfl), by repeat (first | (with_reducible first | exact HB.out | apply below_alloc | apply pw_below_drewN | apply below_drew1) | exact HB.out)⟩
 ·rw [if_neg c4] at H
  have c4b0 : decide (600 < (l0.length : Int)) = false := decide_eq_false c4
  have c4b1 : decide (600 < l0.length) = false := decide_eq_false (by omega)
  clear c4
  by_cases c7 : (wrap64 ((l0.length : Int) + 1)) = 0
  ·rw [if_pos c7] at H
   exact absurd H (by simp)
  ·rw [if_neg c7] at H
   have c7b0 : ((wrap64 ((l0.length : Int) + 1)) == 0) = false := beq_eq_false_iff_ne.mpr c7
   have c7b1 : ((wrap64 ((l0.length : Int) + 1)) != 0) = true := bne_iff_ne.mpr c7
   by_cases c8 : (wrap64 ((wrap64 ((l0.length : Int) - (Int.tmod (wrap64 (a1)) (wrap64 ((l0.length : Int) + 1))))) + 1)) = 0
   ·rw [if_pos c8] at H
    exact absurd H (by simp)
   ·rw [if_neg c8] at H
    have c8b0 : ((wrap64 ((wrap64 ((l0.length : Int) - (Int.tmod (wrap64 (a1)) (wrap64 ((l0.length : Int) + 1))))) + 1)) == 0) = false := beq_eq_false_iff_ne.mpr c8
    have c8b1 : ((wrap64 ((wrap64 ((l0.length : Int) - (Int.tmod (wrap64 (a1)) (wrap64 ((l0.length : Int) + 1))))) + 1)) != 0) = true := bne_iff_ne.mpr c8
    obtain ⟨ji9, hji9⟩ : ∃ j_ : Int, (Int.tmod (wrap64 (a1)) (wrap64 ((l0.length : Int) + 1))) = j_ := ⟨_, rfl⟩
    replace H : (if 0 ≤ (ji9) then (if (ji9) ≤ (l0.length : Int) then ((crc_Of1.f (l0.take ((ji9) : Int).toNat)).bind fun t109 => (if (ji9) ≤ (wrap64 ((ji9) + (Int.tmod (wrap64 (a2)) (wrap64 ((wrap64 ((l0.length : Int) - (ji9))) + 1))))) then (if (wrap64 ((ji9) + (Int.tmod (wrap64 (a2)) (wrap64 ((wrap64 ((l0.length : Int) - (ji9))) + 1))))) ≤ (l0.length : Int) then ((crc_Of1.f ((l0.take ((wrap64 ((ji9) + (Int.tmod (wrap64 (a2)) (wrap64 ((wrap64 ((l0.length : Int) - (ji9))) + 1))))) : Int).toNat).drop ((ji9) : Int).toNat)).bind fun t111 => (if 0 ≤ (wrap64 ((ji9) + (Int.tmod (wrap64 (a2)) (wrap64 ((wrap64 ((l0.length : Int) - (ji9))) + 1))))) then ((crc_Of1.f (l0.drop ((wrap64 ((ji9) + (Int.tmod (wrap64 (a2)) (wrap64 ((wrap64 ((l0.length : Int) - (ji9))) + 1))))) : Int).toNat)).bind fun t113 => ((crc_Join.f t109 t111 (wrap64 ((wrap64 ((ji9) + (Int.tmod (wrap64 (a2)) (wrap64 ((wrap64 ((l0.length : Int) - (ji9))) + 1))))) - (ji9)))).bind fun t114 => ((crc_Join.f t114 t113 (wrap64 ((l0.length : Int) - (wrap64 ((ji9) + (Int.tmod (wrap64 (a2)) (wrap64 ((wrap64 ((l0.length : Int) - (ji9))) + 1)))))))).bind fun t115 => ((crc_Join.f t111 t113 (wrap64 ((l0.length : Int) - (wrap64 ((ji9) + (Int.tmod (wrap64 (a2)) (wrap64 ((wrap64 ((l0.length : Int) - (ji9))) + 1)))))))).bind fun t116 => ((crc_Join.f t109 t116 (wrap64 ((l0.length : Int) - (ji9)))).bind fun t117 => ((crc_Of1.f l0).bind fun t118 => (if t115 = t118 then (if t117 = t115 then ((crc_Of3.f (l0.take ((ji9) : Int).toNat) ((l0.take ((wrap64 ((ji9) + (Int.tmod (wrap64 (a2)) (wrap64 ((wrap64 ((l0.length : Int) - (ji9))) + 1))))) : Int).toNat).drop ((ji9) : Int).toNat) (l0.drop ((wrap64 ((ji9) + (Int.tmod (wrap64 (a2)) (wrap64 ((wrap64 ((l0.length : Int) - (ji9))) + 1))))) : Int).toNat)).bind fun t122 => (if t122 = t115 then ((remoralaw02_awake.f).bind fun t123 => (some t123)) else (some false))) else (some false)) else (some false)))))))) else (none))) else (none)) else (none))) else (none)) else (none)) = some r := by first | (rw [hji9] at H; exact H) | (simp only [hji9] at H ⊢; exact H)
    (try rw [hji9] at c8b0)
    (try rw [hji9] at c8b1)
    by_cases c10 : 0 ≤ (ji9)
    ·rw [if_pos c10] at H
     have c10b0 := eq_true c10
     have c10b1 : decide (0 ≤ (ji9)) = true := decide_eq_true c10
     clear c10
     by_cases c11 : (ji9) ≤ (l0.length : Int)
     ·rw [if_pos c11] at H
      have c11b0 := eq_true c11
      have c11b1 : decide ((ji9) ≤ (l0.length : Int)) = true := decide_eq_true c11
      clear c11
      replace H := Option.bind_eq_some_iff.mp H
      obtain ⟨t109, A120, H⟩ := H
      replace H : (if (ji9) ≤ (wrap64 ((ji9) + (Int.tmod (wrap64 (a2)) (wrap64 ((wrap64 ((l0.length : Int) - (ji9))) + 1))))) then (if (wrap64 ((ji9) + (Int.tmod (wrap64 (a2)) (wrap64 ((wrap64 ((l0.length : Int) - (ji9))) + 1))))) ≤ (l0.length : Int) then ((crc_Of1.f ((l0.take ((wrap64 ((ji9) + (Int.tmod (wrap64 (a2)) (wrap64 ((wrap64 ((l0.length : Int) - (ji9))) + 1))))) : Int).toNat).drop ((ji9) : Int).toNat)).bind fun t111 => (if 0 ≤ (wrap64 ((ji9) + (Int.tmod (wrap64 (a2)) (wrap64 ((wrap64 ((l0.length : Int) - (ji9))) + 1))))) then ((crc_Of1.f (l0.drop ((wrap64 ((ji9) + (Int.tmod (wrap64 (a2)) (wrap64 ((wrap64 ((l0.length : Int) - (ji9))) + 1))))) : Int).toNat)).bind fun t113 => ((crc_Join.f t109 t111 (wrap64 ((wrap64 ((ji9) + (Int.tmod (wrap64 (a2)) (wrap64 ((wrap64 ((l0.length : Int) - (ji9))) + 1))))) - (ji9)))).bind fun t114 => ((crc_Join.f t114 t113 (wrap64 ((l0.length : Int) - (wrap64 ((ji9) + (Int.tmod (wrap64 (a2)) (wrap64 ((wrap64 ((l0.length : Int) - (ji9))) + 1)))))))).bind fun t115 => ((crc_Join.f t111 t113 (wrap64 ((l0.length : Int) - (wrap64 ((ji9) + (Int.tmod (wrap64 (a2)) (wrap64 ((wrap64 ((l0.length : Int) - (ji9))) + 1)))))))).bind fun t116 => ((crc_Join.f t109 t116 (wrap64 ((l0.length : Int) - (ji9)))).bind fun t117 => ((crc_Of1.f l0).bind fun t118 => (if t115 = t118 then (if t117 = t115 then ((crc_Of3.f (l0.take ((ji9) : Int).toNat) ((l0.take ((wrap64 ((ji9) + (Int.tmod (wrap64 (a2)) (wrap64 ((wrap64 ((l0.length : Int) - (ji9))) + 1))))) : Int).toNat).drop ((ji9) : Int).toNat) (l0.drop ((wrap64 ((ji9) + (Int.tmod (wrap64 (a2)) (wrap64 ((wrap64 ((l0.length : Int) - (ji9))) + 1))))) : Int).toNat)).bind fun t122 => (if t122 = t115 then ((remoralaw02_awake.f).bind fun t123 => (some t123)) else (some false))) else (some false)) else (some false)))))))) else (none))) else (none)) else (none)) = some r := H
      have A12 := Aside0.mk A120
      clear A120
      have c13b0 := eq_true (of_decide_eq_true (by first | (with_reducible assumption) | assumption) : 0 ≤ (ji9))
      by_cases c14 : (ji9) ≤ (wrap64 ((ji9) + (Int.tmod (wrap64 (a2)) (wrap64 ((wrap64 ((l0.length : Int) - (ji9))) + 1)))))
      ·rw [if_pos c14] at H
       have c14b0 := eq_true c14
       have c14b1 : decide ((ji9) ≤ (wrap64 ((ji9) + (Int.tmod (wrap64 (a2)) (wrap64 ((wrap64 ((l0.length : Int) - (ji9))) + 1)))))) = true := decide_eq_true c14
       by_cases c15 : (wrap64 ((ji9) + (Int.tmod (wrap64 (a2)) (wrap64 ((wrap64 ((l0.length : Int) - (ji9))) + 1))))) ≤ (l0.length : Int)
       ·rw [if_pos c15] at H
        have c15b0 := eq_true c15
        have c15b1 : decide ((wrap64 ((ji9) + (Int.tmod (wrap64 (a2)) (wrap64 ((wrap64 ((l0.length : Int) - (ji9))) + 1))))) ≤ (l0.length : Int)) = true := decide_eq_true c15
        replace H := Option.bind_eq_some_iff.mp H
        obtain ⟨t111, A160, H⟩ := H
        replace H : (if 0 ≤ (wrap64 ((ji9) + (Int.tmod (wrap64 (a2)) (wrap64 ((wrap64 ((l0.length : Int) - (ji9))) + 1))))) then ((crc_Of1.f (l0.drop ((wrap64 ((ji9) + (Int.tmod (wrap64 (a2)) (wrap64 ((wrap64 ((l0.length : Int) - (ji9))) + 1))))) : Int).toNat)).bind fun t113 => ((crc_Join.f t109 t111 (wrap64 ((wrap64 ((ji9) + (Int.tmod (wrap64 (a2)) (wrap64 ((wrap64 ((l0.length : Int) - (ji9))) + 1))))) - (ji9)))).bind fun t114 => ((crc_Join.f t114 t113 (wrap64 ((l0.length : Int) - (wrap64 ((ji9) + (Int.tmod (wrap64 (a2)) (wrap64 ((wrap64 ((l0.length : Int) - (ji9))) + 1)))))))).bind fun t115 => ((crc_Join.f t111 t113 (wrap64 ((l0.length : Int) - (wrap64 ((ji9) + (Int.tmod (wrap64 (a2)) (wrap64 ((wrap64 ((l0.length : Int) - (ji9))) + 1)))))))).bind fun t116 => ((crc_Join.f t109 t116 (wrap64 ((l0.length : Int) - (ji9)))).bind fun t117 => ((crc_Of1.f l0).bind fun t118 => (if t115 = t118 then (if t117 = t115 then ((crc_Of3.f (l0.take ((ji9) : Int).toNat) ((l0.take ((wrap64 ((ji9) + (Int.tmod (wrap64 (a2)) (wrap64 ((wrap64 ((l0.length : Int) - (ji9))) + 1))))) : Int).toNat).drop ((ji9) : Int).toNat) (l0.drop ((wrap64 ((ji9) + (Int.tmod (wrap64 (a2)) (wrap64 ((wrap64 ((l0.length : Int) - (ji9))) + 1))))) : Int).toNat)).bind fun t122 => (if t122 = t115 then ((remoralaw02_awake.f).bind fun t123 => (some t123)) else (some false))) else (some false)) else (some false)))))))) else (none)) = some r := H
        have A16 := Aside0.mk A160
        clear A160
        obtain ⟨ji17, hji17⟩ : ∃ j_ : Int, (wrap64 ((ji9) + (Int.tmod (wrap64 (a2)) (wrap64 ((wrap64 ((l0.length : Int) - (ji9))) + 1))))) = j_ := ⟨_, rfl⟩
        replace H : (if 0 ≤ (ji17) then ((crc_Of1.f (l0.drop ((ji17) : Int).toNat)).bind fun t113 => ((crc_Join.f t109 t111 (wrap64 ((ji17) - (ji9)))).bind fun t114 => ((crc_Join.f t114 t113 (wrap64 ((l0.length : Int) - (ji17)))).bind fun t115 => ((crc_Join.f t111 t113 (wrap64 ((l0.length : Int) - (ji17)))).bind fun t116 => ((crc_Join.f t109 t116 (wrap64 ((l0.length : Int) - (ji9)))).bind fun t117 => ((crc_Of1.f l0).bind fun t118 => (if t115 = t118 then (if t117 = t115 then ((crc_Of3.f (l0.take ((ji9) : Int).toNat) ((l0.take ((ji17) : Int).toNat).drop ((ji9) : Int).toNat) (l0.drop ((ji17) : Int).toNat)).bind fun t122 => (if t122 = t115 then ((remoralaw02_awake.f).bind fun t123 => (some t123)) else (some false))) else (some false)) else (some false)))))))) else (none)) = some r := by first | (rw [hji17] at H; exact H) | (simp only [hji17] at H ⊢; exact H)
        (try rw [hji17] at c14b0)
        (try rw [hji17] at c14b1)
        (try rw [hji17] at c14)
        (try rw [hji17] at c15b0)
        (try rw [hji17] at c15b1)
        (try rw [hji17] at c15)
        (try rw [hji17] at A12)
        (try rw [hji17] at A16)
        have hji17w : (IntKind.i64.wrap ((ji9) + (Int.tmod (wrap64 (a2)) (wrap64 ((wrap64 ((l0.length : Int) - (ji9))) + 1))))) = ji17 := (i64_w _).trans hji17
        by_cases c18 : 0 ≤ (ji17)
        ·rw [if_pos c18] at H
         have c18b0 := eq_true c18
         have c18b1 : decide (0 ≤ (ji17)) = true := decide_eq_true c18
         clear c18
         have c19b0 := eq_true (of_decide_eq_true (by first | (with_reducible assumption) | assumption) : (ji17) ≤ (l0.length : Int))
         replace H := Option.bind_eq_some_iff.mp H
         obtain ⟨t113, A200, H⟩ := H
         replace H : ((crc_Join.f t109 t111 (wrap64 ((ji17) - (ji9)))).bind fun t114 => ((crc_Join.f t114 t113 (wrap64 ((l0.length : Int) - (ji17)))).bind fun t115 => ((crc_Join.f t111 t113 (wrap64 ((l0.length : Int) - (ji17)))).bind fun t116 => ((crc_Join.f t109 t116 (wrap64 ((l0.length : Int) - (ji9)))).bind fun t117 => ((crc_Of1.f l0).bind fun t118 => (if t115 = t118 then (if t117 = t115 then ((crc_Of3.f (l0.take ((ji9) : Int).toNat) ((l0.take ((ji17) : Int).toNat).drop ((ji9) : Int).toNat) (l0.drop ((ji17) : Int).toNat)).bind fun t122 => (if t122 = t115 then ((remoralaw02_awake.f).bind fun t123 => (some t123)) else (some false))) else (some false)) else (some false))))))) = some r := H
         have A20 := Aside0.mk A200
         clear A200
         replace H := Option.bind_eq_some_iff.mp H
         obtain ⟨t114, A210, H⟩ := H
         replace H : ((crc_Join.f t114 t113 (wrap64 ((l0.length : Int) - (ji17)))).bind fun t115 => ((crc_Join.f t111 t113 (wrap64 ((l0.length : Int) - (ji17)))).bind fun t116 => ((crc_Join.f t109 t116 (wrap64 ((l0.length : Int) - (ji9)))).bind fun t117 => ((crc_Of1.f l0).bind fun t118 => (if t115 = t118 then (if t117 = t115 then ((crc_Of3.f (l0.take ((ji9) : Int).toNat) ((l0.take ((ji17) : Int).toNat).drop ((ji9) : Int).toNat) (l0.drop ((ji17) : Int).toNat)).bind fun t122 => (if t122 = t115 then ((remoralaw02_awake.f).bind fun t123 => (some t123)) else (some false))) else (some false)) else (some false)))))) = some r := H
         have A21 := Aside0.mk A210
         clear A210
         replace H := Option.bind_eq_some_iff.mp H
         obtain ⟨t115, A220, H⟩ := H
         replace H : ((crc_Join.f t111 t113 (wrap64 ((l0.length : Int) - (ji17)))).bind fun t116 => ((crc_Join.f t109 t116 (wrap64 ((l0.length : Int) - (ji9)))).bind fun t117 => ((crc_Of1.f l0).bind fun t118 => (if t115 = t118 then (if t117 = t115 then ((crc_Of3.f (l0.take ((ji9) : Int).toNat) ((l0.take ((ji17) : Int).toNat).drop ((ji9) : Int).toNat) (l0.drop ((ji17) : Int).toNat)).bind fun t122 => (if t122 = t115 then ((remoralaw02_awake.f).bind fun t123 => (some t123)) else (some false))) else (some false)) else (some false))))) = some r := H
         have A22 := Aside0.mk A220
         clear A220
         replace H := Option.bind_eq_some_iff.mp H
         obtain ⟨t116, A230, H⟩ := H
         replace H : ((crc_Join.f t109 t116 (wrap64 ((l0.length : Int) - (ji9)))).bind fun t117 => ((crc_Of1.f l0).bind fun t118 => (if t115 = t118 then (if t117 = t115 then ((crc_Of3.f (l0.take ((ji9) : Int).toNat) ((l0.take ((ji17) : Int).toNat).drop ((ji9) : Int).toNat) (l0.drop ((ji17) : Int).toNat)).bind fun t122 => (if t122 = t115 then ((remoralaw02_awake.f).bind fun t123 => (some t123)) else (some false))) else (some false)) else (some false)))) = some r := H
         have A23 := Aside0.mk A230
         clear A230
         replace H := Option.bind_eq_some_iff.mp H
         obtain ⟨t117, A240, H⟩ := H
         replace H : ((crc_Of1.f l0).bind fun t118 => (if t115 = t118 then (if t117 = t115 then ((crc_Of3.f (l0.take ((ji9) : Int).toNat) ((l0.take ((ji17) : Int).toNat).drop ((ji9) : Int).toNat) (l0.drop ((ji17) : Int).toNat)).bind fun t122 => (if t122 = t115 then ((remoralaw02_awake.f).bind fun t123 => (some t123)) else (some false))) else (some false)) else (some false))) = some r := H
         have A24 := Aside0.mk A240
         clear A240
         replace H := Option.bind_eq_some_iff.mp H
         obtain ⟨t118, A250, H⟩ := H
         replace H : (if t115 = t118 then (if t117 = t115 then ((crc_Of3.f (l0.take ((ji9) : Int).toNat) ((l0.take ((ji17) : Int).toNat).drop ((ji9) : Int).toNat) (l0.drop ((ji17) : Int).toNat)).bind fun t122 => (if t122 = t115 then ((remoralaw02_awake.f).bind fun t123 => (some t123)) else (some false))) else (some false)) else (some false)) = some r := H
         have A25 := Aside0.mk A250
         clear A250
         by_cases c26 : t115 = t118
         ·rw [if_pos c26] at H
          have c26b0 : (t115 == t118) = true := beq_iff_eq.mpr c26
          have c26b1 : (t115 != t118) = false := bne_eq_false_iff_eq.mpr c26
          clear c26
          by_cases c27 : t117 = t115
          ·rw [if_pos c27] at H
           have c27b0 : (t117 == t115) = true := beq_iff_eq.mpr c27
           have c27b1 : (t117 != t115) = false := bne_eq_false_iff_eq.mpr c27
           clear c27
           have c28b0 := eq_true (of_decide_eq_true (by first | (with_reducible assumption) | assumption) : 0 ≤ (ji9))
           have c29b0 := eq_true (of_decide_eq_true (by first | (with_reducible assumption) | assumption) : (ji9) ≤ (l0.length : Int))
           have c30b0 := eq_true (of_decide_eq_true (by first | (with_reducible assumption) | assumption) : 0 ≤ (ji9))
           have c31b0 := eq_true (of_decide_eq_true (by first | (with_reducible assumption) | assumption) : (ji9) ≤ (ji17))
           have c32b0 := eq_true (of_decide_eq_true (by first | (with_reducible assumption) | assumption) : (ji17) ≤ (l0.length : Int))
           have c33b0 := eq_true (of_decide_eq_true (by first | (with_reducible assumption) | assumption) : 0 ≤ (ji17))
           have c34b0 := eq_true (of_decide_eq_true (by first | (with_reducible assumption) | assumption) : (ji17) ≤ (l0.length : Int))
           replace H := Option.bind_eq_some_iff.mp H
           obtain ⟨t122, A350, H⟩ := H
           replace H : (if t122 = t115 then ((remoralaw02_awake.f).bind fun t123 => (some t123)) else (some false)) = some r := H
           have A35 := Aside0.mk A350
           clear A350
           by_cases c36 : t122 = t115
           ·rw [if_pos c36] at H
            have c36b0 : (t122 == t115) = true := beq_iff_eq.mpr c36
            have c36b1 : (t122 != t115) = false := bne_eq_false_iff_eq.mpr c36
            clear c36
            replace H := Option.bind_eq_some_iff.mp H
            obtain ⟨t123, A370, H⟩ := H
            replace H : (some t123) = some r := H
            have A37 := Aside0.mk A370
            clear A370
            obtain rfl := Option.some.inj H
            have c8n := beq_eq_false_iff_ne.mp c8b0
            go_enter Tryd.func9, Tryd.ntmps9
            try go_wp2
            have n0_ := Aside0.mk (below_drew1 HB.out)
            clear HB
            have HB := n0_
            clear n0_
            obtain ⟨i039, hi039, _, hsz39, _⟩ := info_parts info5
            obtain ⟨hcut39, hA39, hC39⟩ := print_take_of (P := Tryd.prog) (Value.int .u8) 0 24 5 .i64 Tryd.underlying24 hi039 hsz39 A0 c0 l0 (ji9) (of_decide_eq_true (by first | (with_reducible assumption) | assumption)) (of_decide_eq_true (by first | (with_reducible assumption) | assumption)) HC0.out
            have HR108 := Aside0.mk (Kd.C_of_reads (h1 := fun _ => rfl) (hA39 _ (Kd.reads_of_C HR0.out)))
            have HC108 := Aside0.mk hC39
            clear hA39 hC39 hi039 hsz39
            obtain ⟨i040, hi040, _, hsz40, _⟩ := info_parts info5
            obtain ⟨A40, hcut40, hA40, hC40⟩ := print_mid_of (P := Tryd.prog) (Value.int .u8) 0 24 5 .i64 .i64 Tryd.underlying24 hi040 hsz40 A0 c0 l0 (ji9) (ji17) (of_decide_eq_true (by first | (with_reducible assumption) | assumption)) (by first | omega | exact of_decide_eq_true (by first | (with_reducible assumption) | assumption)) (of_decide_eq_true (by first | (with_reducible assumption) | assumption)) HC0.out
            have HR110 := Aside0.mk (Kd.C_of_reads (h1 := fun _ => rfl) (hA40 _ (Kd.reads_of_C HR0.out)))
            have HC110 := Aside0.mk hC40
            clear hA40 hC40 hi040 hsz40
            obtain ⟨i041, hi041, _, hsz41, _⟩ := info_parts info5
            obtain ⟨A41, hcut41, hA41, hC41⟩ := print_drop_of (P := Tryd.prog) (Value.int .u8) 0 24 5 .i64 Tryd.underlying24 hi041 hsz41 A0 c0 l0 (ji17) (of_decide_eq_true (by first | (with_reducible assumption) | assumption)) (of_decide_eq_true (by first | (with_reducible assumption) | assumption)) HC0.out
            have HR112 := Aside0.mk (Kd.C_of_reads (h1 := fun _ => rfl) (hA41 _ (Kd.reads_of_C HR0.out)))
            have HC112 := Aside0.mk hC41
            clear hA41 hC41 hi041 hsz41
            obtain ⟨N1_, hN1_⟩ : ∃ n_ : Nat, (l0.take (ji9 : Int).toNat).length = n_ := ⟨_, rfl⟩
            rw [hN1_] at hcut39 HR108 HC108
            have HN1 := Aside0.mk hN1_
            clear hN1_
            obtain ⟨N2_, hN2_⟩ : ∃ n_ : Nat, ((l0.take (ji17 : Int).toNat).drop (ji9 : Int).toNat).length = n_ := ⟨_, rfl⟩
            rw [hN2_] at hcut40 HR110 HC110
            have HN2 := Aside0.mk hN2_
            clear hN2_
            obtain ⟨N3_, hN3_⟩ : ∃ n_ : Nat, (l0.drop (ji17 : Int).toNat).length = n_ := ⟨_, rfl⟩
            rw [hN3_] at hcut41 HR112 HC112
            have HN3 := Aside0.mk hN3_
            clear hN3_
            obtain ⟨P2_, hP2_⟩ : ∃ n_ : Nat, c0 - (ji9 : Int).toNat = n_ := ⟨_, rfl⟩
            rw [hP2_] at hcut40 HC110
            clear hP2_
            obtain ⟨P3_, hP3_⟩ : ∃ n_ : Nat, c0 - (ji17 : Int).toNat = n_ := ⟨_, rfl⟩
            rw [hP3_] at hcut41 HC112
            clear hP3_
            have K1 := Aside0.mk (Option.some.inj A12.out)
            have K2 := Aside0.mk (Option.some.inj A16.out)
            have K3 := Aside0.mk (Option.some.inj A20.out)
            have K0 := Aside0.mk (Option.some.inj A25.out)
            have CN15 := Aside0.mk (show Kd.C (Kd.int .u8) (w.drew) A0 N1_ (l0.take (ji9 : Int).toNat) from Kd.C_below HR108.out HB.out)
            have CN25 := Aside0.mk (show Kd.C (Kd.int .u8) (w.drew) A40 N2_ ((l0.take (ji17 : Int).toNat).drop (ji9 : Int).toNat) from Kd.C_below HR110.out HB.out)
            have CN35 := Aside0.mk (show Kd.C (Kd.int .u8) (w.drew) A41 N3_ (l0.drop (ji17 : Int).toNat) from Kd.C_below HR112.out HB.out)
            have WG5 := Aside0.mk (GT.below HG.out HB.out)
            refine start_ (n := 19) (S := fun w' => True) (ds := []) #[F_,F_,F_,F_,F_,F_,F_,F_,F_,F_,F_,F_,F_,F_,F_,F_,F_,F_,F_] (by kernel_rfl) rfl rfl trivial (fun hHeld => ?_)
            have HBW := True.intro
            refine with_tabW remoralaw02_CrcParts.tab5 remoralaw02_CrcParts.bits5 (fun HT_ HW_ => ?_)
            generalize w.drew = w38 at HB CN15 CN25 CN35 WG5 hHeld ⊢
            refine pure_ (i := 0) (N := some 34) (v := ?_) (a' := ?_) #[T_,F_,F_,F_,F_,F_,F_,F_,F_,F_,F_,F_,F_,F_,F_,F_,F_,F_,F_] rfl rfl (any_of HT_.out (by kernel_rfl)) (fun _ _ _ h => h) (Or.inl ⟨by rfl, ?_⟩) ?_ ?_
            rotate_left
            ·intro w'
             go_simp
             with_reducible rfl
            rotate_left
            ·simp only [Act.put, List.setIfInBounds_toArray, List.set_cons_zero, List.set_cons_succ, i64_w, i32_w]
             rfl
            refine pure_ (i := 1) (N := some 35) (v := ?_) (a' := ?_) #[T_,T_,F_,F_,F_,F_,F_,F_,F_,F_,F_,F_,F_,F_,F_,F_,F_,F_,F_] rfl rfl (any_of HT_.out (by kernel_rfl)) (fun _ _ _ h => h) (Or.inl ⟨by rfl, ?_⟩) ?_ ?_
            rotate_left
            ·intro w'
             go_simp
             with_reducible rfl
            rotate_left
            ·simp only [Act.put, List.setIfInBounds_toArray, List.set_cons_zero, List.set_cons_succ, i64_w, i32_w]
             rfl
            refine pure_ (i := 2) (N := some 36) (v := ?_) (a' := ?_) #[T_,T_,T_,F_,F_,F_,F_,F_,F_,F_,F_,F_,F_,F_,F_,F_,F_,F_,F_] rfl rfl (any_of HT_.out (by kernel_rfl)) (fun _ _ _ h => h) (Or.inl ⟨by rfl, ?_⟩) ?_ ?_
            rotate_left
            ·intro w'
             go_simp
             with_reducible rfl
            rotate_left
            ·simp only [Act.put, List.setIfInBounds_toArray, List.set_cons_zero, List.set_cons_succ, i64_w, i32_w]
             rfl
            refine pure_ (i := 5) (N := some 39) (v := ?_) (a' := ?_) #[T_,T_,T_,F_,F_,T_,F_,F_,F_,F_,F_,F_,F_,F_,F_,F_,F_,F_,F_] rfl rfl (any_of HT_.out (by kernel_rfl)) (fun _ _ _ h => h) (Or.inl ⟨by rfl, ?_⟩) ?_ ?_
            rotate_left
            ·intro w'
             go_simp
             with_reducible rfl
            rotate_left
            ·simp only [Act.put, List.setIfInBounds_toArray, List.set_cons_zero, List.set_cons_succ, i64_w, i32_w]
             rfl
            refine pure_ (i := 6) (N := some 40) (v := ?_) (a' := ?_) #[T_,T_,T_,F_,F_,T_,T_,F_,F_,F_,F_,F_,F_,F_,F_,F_,F_,F_,F_] rfl rfl (any_of HT_.out (by kernel_rfl)) (fun _ _ _ h => h) (Or.inl ⟨by rfl, ?_⟩) ?_ ?_
            rotate_left
            ·intro w'
             go_simp
             with_reducible rfl
            rotate_left
            ·simp only [Act.put, List.setIfInBounds_toArray, List.set_cons_zero, List.set_cons_succ, i64_w, i32_w]
             rfl
            refine pure_ (i := 7) (N := some 41) (v := ?_) (a' := ?_) #[T_,T_,T_,F_,F_,T_,T_,T_,F_,F_,F_,F_,F_,F_,F_,F_,F_,F_,F_] rfl rfl (any_of HT_.out (by kernel_rfl)) (fun _ _ _ h => h) (Or.inl ⟨by rfl, ?_⟩) ?_ ?_
            rotate_left
            ·intro w'
             go_simp
             with_reducible rfl
            rotate_left
            ·simp only [Act.put, List.setIfInBounds_toArray, List.set_cons_zero, List.set_cons_succ, i64_w, i32_w]
             rfl
            refine pure_ (i := 8) (N := some 42) (v := ?_) (a' := ?_) #[T_,T_,T_,F_,F_,T_,T_,T_,T_,F_,F_,F_,F_,F_,F_,F_,F_,F_,F_] rfl rfl (any_of HT_.out (by kernel_rfl)) (fun _ _ _ h => h) (Or.inl ⟨by rfl, ?_⟩) ?_ ?_
            rotate_left
            ·intro w'
             go_simp
             with_reducible rfl
            rotate_left
            ·simp only [Act.put, List.setIfInBounds_toArray, List.set_cons_zero, List.set_cons_succ, i64_w, i32_w]
             rfl
            refine pure_ (i := 11) (N := some 45) (v := ?_) (a' := ?_) #[T_,T_,T_,F_,F_,T_,T_,T_,T_,F_,F_,T_,F_,F_,F_,F_,F_,F_,F_] rfl rfl (any_of HT_.out (by kernel_rfl)) (fun _ _ _ h => h) (Or.inl ⟨by rfl, ?_⟩) ?_ ?_
            rotate_left
            ·intro w'
             go_simp
             with_reducible rfl
            rotate_left
            ·simp only [Act.put, List.setIfInBounds_toArray, List.set_cons_zero, List.set_cons_succ, i64_w, i32_w]
             rfl
            refine pure_ (i := 12) (N := some 46) (v := ?_) (a' := ?_) #[T_,T_,T_,F_,F_,T_,T_,T_,T_,F_,F_,T_,T_,F_,F_,F_,F_,F_,F_] rfl rfl (any_of HT_.out (by kernel_rfl)) (fun _ _ _ h => h) (Or.inl ⟨by rfl, ?_⟩) ?_ ?_
            rotate_left
            ·intro w'
             go_simp
             with_reducible rfl
            rotate_left
            ·simp only [Act.put, List.setIfInBounds_toArray, List.set_cons_zero, List.set_cons_succ, i64_w, i32_w]
             rfl
            refine pure_ (i := 13) (N := some 47) (v := ?_) (a' := ?_) #[T_,T_,T_,F_,F_,T_,T_,T_,T_,F_,F_,T_,T_,T_,F_,F_,F_,F_,F_] rfl rfl (any_of HT_.out (by kernel_rfl)) (fun _ _ _ h => h) (Or.inl ⟨by rfl, ?_⟩) ?_ ?_
            rotate_left
            ·intro w'
             go_simp
             with_reducible rfl
            rotate_left
            ·simp only [Act.put, List.setIfInBounds_toArray, List.set_cons_zero, List.set_cons_succ, i64_w, i32_w]
             rfl
            refine inv_at [3, 4, 9, 10, 14, 15, 16, 17, 18] (fun a0_ b a w' => ∃ (gb3 : Nat) (gb9 : Nat) (gb14 : Nat) (m3_ : Value) (m9_ : Value) (m14_ : Value), a = putSel a0_ b [(3, 37, m3_), (4, 38, .int .u32 t109), (9, 43, m9_), (10, 44, .int .u32 t111), (14, 48, m14_), (15, 49, .int .u32 t113), (16, 9, .int .u32 t109), (17, 10, .int .u32 t111), (18, 11, .int .u32 t113)] ∧ (Below w38.heap.size w38 w') ∧ (b 3 = true → w'.cell? ⟨gb3, 0, none⟩ = some (.slice A0 N1_ c0)) ∧ (b 9 = true → w'.cell? ⟨gb9, 0, none⟩ = some (.slice A40 N2_ P2_)) ∧ (b 14 = true → w'.cell? ⟨gb14, 0, none⟩ = some (.slice A41 N3_ P3_)) ∧ (b 3 = true → (m3_ : Value) = .slice (some ⟨gb3, 0, none⟩) 1 1) ∧ (b 9 = true → (m9_ : Value) = .slice (some ⟨gb9, 0, none⟩) 1 1) ∧ (b 14 = true → (m14_ : Value) = .slice (some ⟨gb14, 0, none⟩) 1 1)) HT_.out HW_.out (by kernel_rfl) (by kernel_rfl) ?_ ?_ ?_
            ·exact ⟨0, 0, 0, .bool false, .bool false, .bool false, by simp only [putSel, Bool.false_eq_true, if_false], Below.refl _ _, fun h_ => absurd h_ (by decide), fun h_ => absurd h_ (by decide), fun h_ => absurd h_ (by decide), fun h_ => absurd h_ (by decide), fun h_ => absurd h_ (by decide), fun h_ => absurd h_ (by decide)⟩
            ·skip
             clear HBW
             refine steps_cons ?_ ?_
             ·rintro b a w' ⟨gb3, gb9, gb14, m3_, m9_, m14_, ha, Q_HBW, Q_HL3, Q_HL9, Q_HL14, Q_X3_, Q_X9_, Q_X14_⟩ hb_ hon hoff
              refine ⟨_, rfl, fun K hK => ?_⟩
              have e36 : a.tmps[36]? = some (.slice A0 N1_ c0) := by rw [ha]; exact (putSel_off rfl).trans rfl
              replace ha := Aside0.mk ha
              have HBW := Aside0.mk Q_HBW
              refine value_ (w1 := w'.alloc (.cells #[.slice A0 N1_ c0] 24 (0, 0))) (v := .slice (some ⟨w'.heap.size, 0, none⟩) 1 1) (by rfl) rfl ?_ ?_
              ·go_simp
               try rfl
              refine hK.out _ _ ⟨w'.heap.size, gb9, gb14, (.slice (some ⟨w'.heap.size, 0, none⟩) 1 1), m9_, m14_, (by rw [ha.out]; exact putSel_upk 0 hb_ rfl rfl rfl), below_alloc HBW.out _, fun _ => by simp, fun h0_ => pw_cell_below (below_alloc (Below.refl _ _) _) (Q_HL9 h0_), fun h0_ => pw_cell_below (below_alloc (Below.refl _ _) _) (Q_HL14 h0_), fun _ => rfl, Q_X9_, Q_X14_⟩
             refine steps_cons ?_ ?_
             ·rintro b a w' ⟨gb3, gb9, gb14, m3_, m9_, m14_, ha, Q_HBW, Q_HL3, Q_HL9, Q_HL14, Q_X3_, Q_X9_, Q_X14_⟩ hb_ hon hoff
              refine ⟨_, rfl, fun K hK => ?_⟩
              have e37 : a.tmps[37]? = some (m3_) := by rw [ha]; exact putSel_on (e := (3, 37, m3_)) 0 rfl rfl (hon 3 (by kernel_rfl)) rfl
              rw [Q_X3_ (hon 3 (by kernel_rfl))] at e37
              replace ha := Aside0.mk ha
              have HBW := Aside0.mk Q_HBW
              have HL3 := Aside0.mk (Q_HL3 (hon 3 (by kernel_rfl)))
              refine goes_ Tryd.func11 (by kernel_rfl) rfl #[.slice (some ⟨gb3, 0, none⟩) 1 1] (by rfl) rfl rfl (by first | (simp only [List.map_toArray, List.map_cons, List.map_nil, Act.eval, Array.getD_eq_getD_getElem?, Option.getD_some, e37]; done) | (simp only [List.map_toArray, List.map_cons, List.map_nil, Act.eval, Array.getD_eq_getD_getElem?, Option.getD_some, e37]; rfl)) ?_
              with_reducible refine (crc_Of.oneV ⟨gb3, 0, none⟩ N1_ c0 A0 (l0.take (ji9 : Int).toNat) t109 w' (GT.below WG5.out HBW.out) HL3.out (Kd.C_below CN15.out HBW.out) HC108.out HN1.out K1.out).mono ?_
              rintro e w3_ ⟨rfl, hw_⟩
              subst hw_
              refine ⟨_, rfl, ?_⟩
              refine hK.out _ _ ⟨gb3, gb9, gb14, m3_, m9_, m14_, (by rw [ha.out]; exact putSel_upk 1 hb_ rfl rfl rfl), HBW.out, fun _ => HL3.out, fun h0_ => (Q_HL9 h0_), fun h0_ => (Q_HL14 h0_), Q_X3_, Q_X9_, Q_X14_⟩
             refine steps_cons ?_ ?_
             ·rintro b a w' ⟨gb3, gb9, gb14, m3_, m9_, m14_, ha, Q_HBW, Q_HL3, Q_HL9, Q_HL14, Q_X3_, Q_X9_, Q_X14_⟩ hb_ hon hoff
              refine ⟨_, rfl, fun K hK => ?_⟩
              have e42 : a.tmps[42]? = some (.slice A40 N2_ P2_) := by rw [ha]; exact (putSel_off rfl).trans rfl
              replace ha := Aside0.mk ha
              have HBW := Aside0.mk Q_HBW
              refine value_ (w1 := w'.alloc (.cells #[.slice A40 N2_ P2_] 24 (0, 0))) (v := .slice (some ⟨w'.heap.size, 0, none⟩) 1 1) (by rfl) rfl ?_ ?_
              ·go_simp
               try rfl
              refine hK.out _ _ ⟨gb3, w'.heap.size, gb14, m3_, (.slice (some ⟨w'.heap.size, 0, none⟩) 1 1), m14_, (by rw [ha.out]; exact putSel_upk 2 hb_ rfl rfl rfl), below_alloc HBW.out _, fun h0_ => pw_cell_below (below_alloc (Below.refl _ _) _) (Q_HL3 h0_), fun _ => by simp, fun h0_ => pw_cell_below (below_alloc (Below.refl _ _) _) (Q_HL14 h0_), Q_X3_, fun _ => rfl, Q_X14_⟩
             refine steps_cons ?_ ?_
             ·rintro b a w' ⟨gb3, gb9, gb14, m3_, m9_, m14_, ha, Q_HBW, Q_HL3, Q_HL9, Q_HL14, Q_X3_, Q_X9_, Q_X14_⟩ hb_ hon hoff
              refine ⟨_, rfl, fun K hK => ?_⟩
              have e43 : a.tmps[43]? = some (m9_) := by rw [ha]; exact putSel_on (e := (9, 43, m9_)) 2 rfl rfl (hon 9 (by kernel_rfl)) rfl
              rw [Q_X9_ (hon 9 (by kernel_rfl))] at e43
              replace ha := Aside0.mk ha
              have HBW := Aside0.mk Q_HBW
              have HL3 := Aside0.mk (Q_HL3 (hon 3 (by kernel_rfl)))
              have HL9 := Aside0.mk (Q_HL9 (hon 9 (by kernel_rfl)))
              refine goes_ Tryd.func11 (by kernel_rfl) rfl #[.slice (some ⟨gb9, 0, none⟩) 1 1] (by rfl) rfl rfl (by first | (simp only [List.map_toArray, List.map_cons, List.map_nil, Act.eval, Array.getD_eq_getD_getElem?, Option.getD_some, e43]; done) | (simp only [List.map_toArray, List.map_cons, List.map_nil, Act.eval, Array.getD_eq_getD_getElem?, Option.getD_some, e43]; rfl)) ?_
              with_reducible refine (crc_Of.oneV ⟨gb9, 0, none⟩ N2_ P2_ A40 ((l0.take (ji17 : Int).toNat).drop (ji9 : Int).toNat) t111 w' (GT.below WG5.out HBW.out) HL9.out (Kd.C_below CN25.out HBW.out) HC110.out HN2.out K2.out).mono ?_
              rintro e w3_ ⟨rfl, hw_⟩
              subst hw_
              refine ⟨_, rfl, ?_⟩
              refine hK.out _ _ ⟨gb3, gb9, gb14, m3_, m9_, m14_, (by rw [ha.out]; exact putSel_upk 3 hb_ rfl rfl rfl), HBW.out, fun _ => HL3.out, fun _ => HL9.out, fun h0_ => (Q_HL14 h0_), Q_X3_, Q_X9_, Q_X14_⟩
             refine steps_cons ?_ ?_
             ·rintro b a w' ⟨gb3, gb9, gb14, m3_, m9_, m14_, ha, Q_HBW, Q_HL3, Q_HL9, Q_HL14, Q_X3_, Q_X9_, Q_X14_⟩ hb_ hon hoff
              refine ⟨_, rfl, fun K hK => ?_⟩
              have e47 : a.tmps[47]? = some (.slice A41 N3_ P3_) := by rw [ha]; exact (putSel_off rfl).trans rfl
              replace ha := Aside0.mk ha
              have HBW := Aside0.mk Q_HBW
              refine value_ (w1 := w'.alloc (.cells #[.slice A41 N3_ P3_] 24 (0, 0))) (v := .slice (some ⟨w'.heap.size, 0, none⟩) 1 1) (by rfl) rfl ?_ ?_
              ·go_simp
               try rfl
              refine hK.out _ _ ⟨gb3, gb9, w'.heap.size, m3_, m9_, (.slice (some ⟨w'.heap.size, 0, none⟩) 1 1), (by rw [ha.out]; exact putSel_upk 4 hb_ rfl rfl rfl), below_alloc HBW.out _, fun h0_ => pw_cell_below (below_alloc (Below.refl _ _) _) (Q_HL3 h0_), fun h0_ => pw_cell_below (below_alloc (Below.refl _ _) _) (Q_HL9 h0_), fun _ => by simp, Q_X3_, Q_X9_, fun _ => rfl⟩
             refine steps_cons ?_ ?_
             ·rintro b a w' ⟨gb3, gb9, gb14, m3_, m9_, m14_, ha, Q_HBW, Q_HL3, Q_HL9, Q_HL14, Q_X3_, Q_X9_, Q_X14_⟩ hb_ hon hoff
              refine ⟨_, rfl, fun K hK => ?_⟩
              have e48 : a.tmps[48]? = some (m14_) := by rw [ha]; exact putSel_on (e := (14, 48, m14_)) 4 rfl rfl (hon 14 (by kernel_rfl)) rfl
              rw [Q_X14_ (hon 14 (by kernel_rfl))] at e48
              replace ha := Aside0.mk ha
              have HBW := Aside0.mk Q_HBW
              have HL3 := Aside0.mk (Q_HL3 (hon 3 (by kernel_rfl)))
              have HL9 := Aside0.mk (Q_HL9 (hon 9 (by kernel_rfl)))
              have HL14 := Aside0.mk (Q_HL14 (hon 14 (by kernel_rfl)))
              refine goes_ Tryd.func11 (by kernel_rfl) rfl #[.slice (some ⟨gb14, 0, none⟩) 1 1] (by rfl) rfl rfl (by first | (simp only [List.map_toArray, List.map_cons, List.map_nil, Act.eval, Array.getD_eq_getD_getElem?, Option.getD_some, e48]; done) | (simp only [List.map_toArray, List.map_cons, List.map_nil, Act.eval, Array.getD_eq_getD_getElem?, Option.getD_some, e48]; rfl)) ?_
              with_reducible refine (crc_Of.oneV ⟨gb14, 0, none⟩ N3_ P3_ A41 (l0.drop (ji17 : Int).toNat) t113 w' (GT.below WG5.out HBW.out) HL14.out (Kd.C_below CN35.out HBW.out) HC112.out HN3.out K3.out).mono ?_
              rintro e w3_ ⟨rfl, hw_⟩
              subst hw_
              refine ⟨_, rfl, ?_⟩
              refine hK.out _ _ ⟨gb3, gb9, gb14, m3_, m9_, m14_, (by rw [ha.out]; exact putSel_upk 5 hb_ rfl rfl rfl), HBW.out, fun _ => HL3.out, fun _ => HL9.out, fun _ => HL14.out, Q_X3_, Q_X9_, Q_X14_⟩
             refine steps_cons ?_ ?_
             ·rintro b a w' ⟨gb3, gb9, gb14, m3_, m9_, m14_, ha, Q_HBW, Q_HL3, Q_HL9, Q_HL14, Q_X3_, Q_X9_, Q_X14_⟩ hb_ hon hoff
              refine ⟨_, rfl, fun K hK => ?_⟩
              have e38 : a.tmps[38]? = some (.int .u32 t109) := by rw [ha]; exact putSel_on (e := (4, 38, .int .u32 t109)) 1 rfl rfl (hon 4 (by kernel_rfl)) rfl
              replace ha := Aside0.mk ha
              have HBW := Aside0.mk Q_HBW
              have HL3 := Aside0.mk (Q_HL3 (hon 3 (by kernel_rfl)))
              have HL9 := Aside0.mk (Q_HL9 (hon 9 (by kernel_rfl)))
              have HL14 := Aside0.mk (Q_HL14 (hon 14 (by kernel_rfl)))
              refine value_ (w1 := w') (v := .int .u32 t109) (by rfl) rfl ?_ ?_
              ·go_simp
               (try simp only [i64_w])
               try rfl
              refine hK.out _ _ ⟨gb3, gb9, gb14, m3_, m9_, m14_, (by rw [ha.out]; exact putSel_upk 6 hb_ rfl rfl rfl), Q_HBW, Q_HL3, Q_HL9, Q_HL14, Q_X3_, Q_X9_, Q_X14_⟩
             refine steps_cons ?_ ?_
             ·rintro b a w' ⟨gb3, gb9, gb14, m3_, m9_, m14_, ha, Q_HBW, Q_HL3, Q_HL9, Q_HL14, Q_X3_, Q_X9_, Q_X14_⟩ hb_ hon hoff
              refine ⟨_, rfl, fun K hK => ?_⟩
              have e44 : a.tmps[44]? = some (.int .u32 t111) := by rw [ha]; exact putSel_on (e := (10, 44, .int .u32 t111)) 3 rfl rfl (hon 10 (by kernel_rfl)) rfl
              replace ha := Aside0.mk ha
              have HBW := Aside0.mk Q_HBW
              have HL3 := Aside0.mk (Q_HL3 (hon 3 (by kernel_rfl)))
              have HL9 := Aside0.mk (Q_HL9 (hon 9 (by kernel_rfl)))
              have HL14 := Aside0.mk (Q_HL14 (hon 14 (by kernel_rfl)))
              refine value_ (w1 := w') (v := .int .u32 t111) (by rfl) rfl ?_ ?_
              ·go_simp
               (try simp only [i64_w])
               try rfl
              refine hK.out _ _ ⟨gb3, gb9, gb14, m3_, m9_, m14_, (by rw [ha.out]; exact putSel_upk 7 hb_ rfl rfl rfl), Q_HBW, Q_HL3, Q_HL9, Q_HL14, Q_X3_, Q_X9_, Q_X14_⟩
             refine steps_cons ?_ ?_
             ·rintro b a w' ⟨gb3, gb9, gb14, m3_, m9_, m14_, ha, Q_HBW, Q_HL3, Q_HL9, Q_HL14, Q_X3_, Q_X9_, Q_X14_⟩ hb_ hon hoff
              refine ⟨_, rfl, fun K hK => ?_⟩
              have e49 : a.tmps[49]? = some (.int .u32 t113) := by rw [ha]; exact putSel_on (e := (15, 49, .int .u32 t113)) 5 rfl rfl (hon 15 (by kernel_rfl)) rfl
              replace ha := Aside0.mk ha
              have HBW := Aside0.mk Q_HBW
              have HL3 := Aside0.mk (Q_HL3 (hon 3 (by kernel_rfl)))
              have HL9 := Aside0.mk (Q_HL9 (hon 9 (by kernel_rfl)))
              have HL14 := Aside0.mk (Q_HL14 (hon 14 (by kernel_rfl)))
              refine value_ (w1 := w') (v := .int .u32 t113) (by rfl) rfl ?_ ?_
              ·go_simp
               (try simp only [i64_w])
               try rfl
              refine hK.out _ _ ⟨gb3, gb9, gb14, m3_, m9_, m14_, (by rw [ha.out]; exact putSel_upk 8 hb_ rfl rfl rfl), Q_HBW, Q_HL3, Q_HL9, Q_HL14, Q_X3_, Q_X9_, Q_X14_⟩
             exact steps_nil
            ·rintro b a w' hall ⟨gb3, gb9, gb14, m3_, m9_, m14_, ha, Q_HBW, Q_HL3, Q_HL9, Q_HL14, Q_X3_, Q_X9_, Q_X14_⟩
             clear HBW
             have hb3_ := hall 3 (by kernel_rfl)
             have hb4_ := hall 4 (by kernel_rfl)
             have hb9_ := hall 9 (by kernel_rfl)
             have hb10_ := hall 10 (by kernel_rfl)
             have hb14_ := hall 14 (by kernel_rfl)
             have hb15_ := hall 15 (by kernel_rfl)
             have hb16_ := hall 16 (by kernel_rfl)
             have hb17_ := hall 17 (by kernel_rfl)
             have hb18_ := hall 18 (by kernel_rfl)
             subst ha
             obtain rfl := Q_X3_ hb3_
             obtain rfl := Q_X9_ hb9_
             obtain rfl := Q_X14_ hb14_
             simp only [putSel, hb3_, hb4_, hb9_, hb10_, hb14_, hb15_, hb16_, hb17_, hb18_, if_true, Act.put, List.setIfInBounds_toArray, List.set_cons_zero, List.set_cons_succ]
             have HBW := Aside0.mk Q_HBW
             clear Q_HBW
             have HL3 := Aside0.mk (Q_HL3 hb3_)
             clear Q_HL3
             have HL9 := Aside0.mk (Q_HL9 hb9_)
             clear Q_HL9
             have HL14 := Aside0.mk (Q_HL14 hb14_)
             clear Q_HL14
             clear hall hb3_ hb4_ hb9_ hb10_ hb14_ hb15_ hb16_ hb17_ hb18_
             have n0_ := Aside0.mk (below_step HB.out HBW.out)
             clear HB
             clear HBW
             have HB := n0_
             clear n0_
             try go_wp2_with (first | ((with_reducible refine gate_callee (f := 17) rfl ?_); refine goesL_ (some 55) rfl rfl Tryd.func17 (by kernel_rfl) rfl #[.int .u32 t109, .int .u32 t111, .int .i64 (wrap64 ((ji17) - (ji9)))] rfl (by (try simp only [List.map_toArray, List.map_cons, List.map_nil]); first | done | (simp only [hji17, hji9]; rfl) | rfl | (simp only [List.length_drop, List.length_take]; rfl) | (simp; done) | (simp; (repeat' apply And.intro) <;> rfl)) ?_; (with_reducible refine (crc_Join.calls t109 t111 (wrap64 ((ji17) - (ji9))) t114 _ A21.out).mono ?_); rintro e w45 ⟨rfl, hb⟩; refine ⟨_, rfl, ?_⟩; have n0_ := Aside0.mk (below_step (by repeat (first | (with_reducible first | exact HB.out | apply below_alloc | apply pw_below_drewN | apply below_drew1) | exact HB.out)) hb); clear HB; have HB := n0_; clear n0_; (try clear hb); (try clear hb2); (try clear hk); (try clear hi)) | ((with_reducible refine gate_callee (f := 17) rfl ?_); refine goesL_ (some 61) rfl rfl Tryd.func17 (by kernel_rfl) rfl #[.int .u32 t114, .int .u32 t113, .int .i64 (wrap64 ((l0.length : Int) - (ji17)))] rfl (by (try simp only [List.map_toArray, List.map_cons, List.map_nil]); first | done | (simp only [hji17]; rfl) | rfl | (simp only [List.length_drop, List.length_take]; rfl) | (simp; done) | (simp; (repeat' apply And.intro) <;> rfl)) ?_; (with_reducible refine (crc_Join.calls t114 t113 (wrap64 ((l0.length : Int) - (ji17))) t115 _ A22.out).mono ?_); rintro e w46 ⟨rfl, hb⟩; refine ⟨_, rfl, ?_⟩; have n0_ := Aside0.mk (below_step (by repeat (first | (with_reducible first | exact HB.out | apply below_alloc | apply pw_below_drewN | apply below_drew1) | exact HB.out)) hb); clear HB; have HB := n0_; clear n0_; (try clear hb); (try clear hb2); (try clear hk); (try clear hi)) | ((with_reducible refine gate_callee (f := 17) rfl ?_); refine goesL_ (some 69) rfl rfl Tryd.func17 (by kernel_rfl) rfl #[.int .u32 t111, .int .u32 t113, .int .i64 (wrap64 ((l0.length : Int) - (ji17)))] rfl (by (try simp only [List.map_toArray, List.map_cons, List.map_nil]); first | done | (simp only [hji17]; rfl) | rfl | (simp only [List.length_drop, List.length_take]; rfl) | (simp; done) | (simp; (repeat' apply And.intro) <;> rfl)) ?_; (with_reducible refine (crc_Join.calls t111 t113 (wrap64 ((l0.length : Int) - (ji17))) t116 _ A23.out).mono ?_); rintro e w47 ⟨rfl, hb⟩; refine ⟨_, rfl, ?_⟩; have n0_ := Aside0.mk (below_step (by repeat (first | (with_reducible first | exact HB.out | apply below_alloc | apply pw_below_drewN | apply below_drew1) | exact HB.out)) hb); clear HB; have HB := n0_; clear n0_; (try clear hb); (try clear hb2); (try clear hk); (try clear hi)) | ((with_reducible refine gate_callee (f := 17) rfl ?_); refine goesL_ (some 74) rfl rfl Tryd.func17 (by kernel_rfl) rfl #[.int .u32 t109, .int .u32 t116, .int .i64 (wrap64 ((l0.length : Int) - (ji9)))] rfl (by (try simp only [List.map_toArray, List.map_cons, List.map_nil]); first | done | (simp only [hji9]; rfl) | rfl | (simp only [List.length_drop, List.length_take]; rfl) | (simp; done) | (simp; (repeat' apply And.intro) <;> rfl)) ?_; (with_reducible refine (crc_Join.calls t109 t116 (wrap64 ((l0.length : Int) - (ji9))) t117 _ A24.out).mono ?_); rintro e w48 ⟨rfl, hb⟩; refine ⟨_, rfl, ?_⟩; have n0_ := Aside0.mk (below_step (by repeat (first | (with_reducible first | exact HB.out | apply below_alloc | apply pw_below_drewN | apply below_drew1) | exact HB.out)) hb); clear HB; have HB := n0_; clear n0_; (try clear hb); (try clear hb2); (try clear hk); (try clear hi)))
             have n0_ := Aside0.mk (below_drew1 HB.out)
             clear HB
             have HB := n0_
             clear n0_
             have CN18 := Aside0.mk (show Kd.C (Kd.int .u8) (w48.drew) A0 N1_ (l0.take (ji9 : Int).toNat) from Kd.C_below HR108.out HB.out)
             have CN28 := Aside0.mk (show Kd.C (Kd.int .u8) (w48.drew) A40 N2_ ((l0.take (ji17 : Int).toNat).drop (ji9 : Int).toNat) from Kd.C_below HR110.out HB.out)
             have CN38 := Aside0.mk (show Kd.C (Kd.int .u8) (w48.drew) A41 N3_ (l0.drop (ji17 : Int).toNat) from Kd.C_below HR112.out HB.out)
             have CN08 := Aside0.mk (show Kd.C (Kd.int .u8) (w48.drew) A0 l0.length l0 from Kd.C_below HR0.out HB.out)
             have HN0 : Aside0 (l0.length = l0.length) := ⟨rfl⟩
             have WG8 := Aside0.mk (GT.below HG.out HB.out)
             have K4 := Aside0.mk (Option.some.inj A35.out)
             refine start_ (n := 30) (S := fun w' => True) (ds := []) #[F_,F_,F_,F_,F_,F_,F_,F_,F_,F_,F_,F_,F_,F_,F_,F_,F_,F_,F_,F_,F_,F_,F_,F_,F_,F_,F_,F_,F_,F_] (by kernel_rfl) rfl rfl trivial (fun hHeld => ?_)
             have HBW := True.intro
             refine with_tabW remoralaw02_CrcParts.tab8 remoralaw02_CrcParts.bits8 (fun HT_ HW_ => ?_)
             generalize w48.drew = w49 at HB CN08 CN18 CN28 CN38 WG8 hHeld ⊢
             refine pure_ (i := 0) (N := some 75) (v := ?_) (a' := ?_) #[T_,F_,F_,F_,F_,F_,F_,F_,F_,F_,F_,F_,F_,F_,F_,F_,F_,F_,F_,F_,F_,F_,F_,F_,F_,F_,F_,F_,F_,F_] rfl rfl (any_of HT_.out (by kernel_rfl)) (fun _ _ _ h => h) (Or.inl ⟨by rfl, ?_⟩) ?_ ?_
             rotate_left
             ·intro w'
              go_simp
              with_reducible rfl
             rotate_left
             ·simp only [Act.put, List.setIfInBounds_toArray, List.set_cons_zero, List.set_cons_succ, i64_w, i32_w]
              rfl
             refine pure_ (i := 1) (N := some 76) (v := ?_) (a' := ?_) #[T_,T_,F_,F_,F_,F_,F_,F_,F_,F_,F_,F_,F_,F_,F_,F_,F_,F_,F_,F_,F_,F_,F_,F_,F_,F_,F_,F_,F_,F_] rfl rfl (any_of HT_.out (by kernel_rfl)) (fun _ _ _ h => h) (Or.inl ⟨by rfl, ?_⟩) ?_ ?_
             rotate_left
             ·intro w'
              go_simp
              with_reducible rfl
             rotate_left
             ·simp only [Act.put, List.setIfInBounds_toArray, List.set_cons_zero, List.set_cons_succ, i64_w, i32_w]
              rfl
             refine inv_at [2, 3, 4, 5, 6, 7, 8, 9, 10, 11, 12, 13, 14, 15, 16, 17, 18, 19, 20, 21, 22, 23, 24, 25, 26, 27, 28, 29] (fun a0_ b a w' => ∃ (gb2 : Nat) (gb21 : Nat) (m2_ : Value) (m21_ : Value), a = putSel a0_ b [(2, 77, m2_), (3, 78, .int .u32 t118), (4, 79, .bool true), (5, 80, .bool true), (6, 81, .int .u32 t117), (7, 82, .int .u32 t115), (8, 83, .bool true), (9, 84, .bool true), (10, 85, .bool true), (11, 86, .slice A0 l0.length c0), (12, 87, .int .i64 ji9), (13, 88, .slice A0 N1_ c0), (14, 89, .slice A0 l0.length c0), (15, 90, .int .i64 ji9), (16, 91, .int .i64 ji17), (17, 92, .slice A40 N2_ P2_), (18, 93, .slice A0 l0.length c0), (19, 94, .int .i64 ji17), (20, 95, .slice A41 N3_ P3_), (21, 96, m21_), (22, 97, .int .u32 t122), (23, 98, .int .u32 t115), (24, 99, .bool true), (25, 100, .bool true), (26, 101, .bool true), (27, 102, .bool t123), (28, 103, .bool t123), (29, 6, .bool t123)] ∧ (Below w49.heap.size w49 w') ∧ (b 2 = true → w'.cell? ⟨gb2, 0, none⟩ = some (.slice A0 l0.length c0)) ∧ (b 21 = true → w'.cell? ⟨gb21, 0, none⟩ = some (.slice A0 N1_ c0) ∧ w'.cell? ⟨gb21, 1, none⟩ = some (.slice A40 N2_ P2_) ∧ w'.cell? ⟨gb21, 2, none⟩ = some (.slice A41 N3_ P3_)) ∧ (b 2 = true → (m2_ : Value) = .slice (some ⟨gb2, 0, none⟩) 1 1) ∧ (b 21 = true → (m21_ : Value) = .slice (some ⟨gb21, 0, none⟩) 3 3)) HT_.out HW_.out (by kernel_rfl) (by kernel_rfl) ?_ ?_ ?_
             ·exact ⟨0, 0, .bool false, .bool false, by simp only [putSel, Bool.false_eq_true, if_false], Below.refl _ _, fun h_ => absurd h_ (by decide), fun h_ => absurd h_ (by decide), fun h_ => absurd h_ (by decide), fun h_ => absurd h_ (by decide)⟩
             ·skip
              clear HBW
              refine steps_cons ?_ ?_
              ·rintro b a w' ⟨gb2, gb21, m2_, m21_, ha, Q_HBW, Q_HL2, Q_HL21, Q_X2_, Q_X21_⟩ hb_ hon hoff
               refine ⟨_, rfl, fun K hK => ?_⟩
               have e76 : a.tmps[76]? = some (.slice A0 l0.length c0) := by rw [ha]; exact (putSel_off rfl).trans rfl
               replace ha := Aside0.mk ha
               have HBW := Aside0.mk Q_HBW
               refine value_ (w1 := w'.alloc (.cells #[.slice A0 l0.length c0] 24 (0, 0))) (v := .slice (some ⟨w'.heap.size, 0, none⟩) 1 1) (by rfl) rfl ?_ ?_
               ·go_simp
                try rfl
               refine hK.out _ _ ⟨w'.heap.size, gb21, (.slice (some ⟨w'.heap.size, 0, none⟩) 1 1), m21_, (by rw [ha.out]; exact putSel_upk 0 hb_ rfl rfl rfl), below_alloc HBW.out _, fun _ => by simp, fun h0_ => absurd ((hoff 21 (by kernel_rfl)).symm.trans h0_) (by decide), fun _ => rfl, fun h0_ => absurd ((hoff 21 (by kernel_rfl)).symm.trans h0_) (by decide)⟩
              refine steps_cons ?_ ?_
              ·rintro b a w' ⟨gb2, gb21, m2_, m21_, ha, Q_HBW, Q_HL2, Q_HL21, Q_X2_, Q_X21_⟩ hb_ hon hoff
               refine ⟨_, rfl, fun K hK => ?_⟩
               have e77 : a.tmps[77]? = some (m2_) := by rw [ha]; exact putSel_on (e := (2, 77, m2_)) 0 rfl rfl (hon 2 (by kernel_rfl)) rfl
               rw [Q_X2_ (hon 2 (by kernel_rfl))] at e77
               replace ha := Aside0.mk ha
               have HBW := Aside0.mk Q_HBW
               have HL2 := Aside0.mk (Q_HL2 (hon 2 (by kernel_rfl)))
               refine goes_ Tryd.func11 (by kernel_rfl) rfl #[.slice (some ⟨gb2, 0, none⟩) 1 1] (by rfl) rfl rfl (by first | (simp only [List.map_toArray, List.map_cons, List.map_nil, Act.eval, Array.getD_eq_getD_getElem?, Option.getD_some, e77]; done) | (simp only [List.map_toArray, List.map_cons, List.map_nil, Act.eval, Array.getD_eq_getD_getElem?, Option.getD_some, e77]; rfl)) ?_
               with_reducible refine (crc_Of.oneV ⟨gb2, 0, none⟩ l0.length c0 A0 l0 t118 w' (GT.below WG8.out HBW.out) HL2.out (Kd.C_below CN08.out HBW.out) HC0.out HN0.out K0.out).mono ?_
               rintro e w3_ ⟨rfl, hw_⟩
               subst hw_
               refine ⟨_, rfl, ?_⟩
               refine hK.out _ _ ⟨gb2, gb21, m2_, m21_, (by rw [ha.out]; exact putSel_upk 1 hb_ rfl rfl rfl), HBW.out, fun _ => HL2.out, fun h0_ => absurd ((hoff 21 (by kernel_rfl)).symm.trans h0_) (by decide), Q_X2_, fun h0_ => absurd ((hoff 21 (by kernel_rfl)).symm.trans h0_) (by decide)⟩
              refine steps_cons ?_ ?_
              ·rintro b a w' ⟨gb2, gb21, m2_, m21_, ha, Q_HBW, Q_HL2, Q_HL21, Q_X2_, Q_X21_⟩ hb_ hon hoff
               refine ⟨_, rfl, fun K hK => ?_⟩
               have e75 : a.tmps[75]? = some (.int .u32 t115) := by rw [ha]; exact (putSel_off rfl).trans rfl
               have e78 : a.tmps[78]? = some (.int .u32 t118) := by rw [ha]; exact putSel_on (e := (3, 78, .int .u32 t118)) 1 rfl rfl (hon 3 (by kernel_rfl)) rfl
               replace ha := Aside0.mk ha
               have HBW := Aside0.mk Q_HBW
               have HL2 := Aside0.mk (Q_HL2 (hon 2 (by kernel_rfl)))
               refine value_ (w1 := w') (v := .bool true) (by rfl) rfl ?_ ?_
               ·go_simp
                (try simp only [i64_w])
                try rfl
               refine hK.out _ _ ⟨gb2, gb21, m2_, m21_, (by rw [ha.out]; exact putSel_upk 2 hb_ rfl rfl rfl), Q_HBW, Q_HL2, fun h0_ => absurd ((hoff 21 (by kernel_rfl)).symm.trans h0_) (by decide), Q_X2_, fun h0_ => absurd ((hoff 21 (by kernel_rfl)).symm.trans h0_) (by decide)⟩
              refine steps_cons ?_ ?_
              ·rintro b a w' ⟨gb2, gb21, m2_, m21_, ha, Q_HBW, Q_HL2, Q_HL21, Q_X2_, Q_X21_⟩ hb_ hon hoff
               refine ⟨_, rfl, fun K hK => ?_⟩
               have e79 : a.tmps[79]? = some (.bool true) := by rw [ha]; exact putSel_on (e := (4, 79, .bool true)) 2 rfl rfl (hon 4 (by kernel_rfl)) rfl
               replace ha := Aside0.mk ha
               have HBW := Aside0.mk Q_HBW
               have HL2 := Aside0.mk (Q_HL2 (hon 2 (by kernel_rfl)))
               refine value_ (w1 := w') (v := .bool true) (by rfl) rfl ?_ ?_
               ·go_simp
                (try simp only [i64_w])
                try rfl
               refine hK.out _ _ ⟨gb2, gb21, m2_, m21_, (by rw [ha.out]; exact putSel_upk 3 hb_ rfl rfl rfl), Q_HBW, Q_HL2, fun h0_ => absurd ((hoff 21 (by kernel_rfl)).symm.trans h0_) (by decide), Q_X2_, fun h0_ => absurd ((hoff 21 (by kernel_rfl)).symm.trans h0_) (by decide)⟩
              refine steps_cons ?_ ?_
              ·rintro b a w' ⟨gb2, gb21, m2_, m21_, ha, Q_HBW, Q_HL2, Q_HL21, Q_X2_, Q_X21_⟩ hb_ hon hoff
               refine ⟨_, rfl, fun K hK => ?_⟩
               have e13 : a.tmps[13]? = some (.int .u32 t117) := by rw [ha]; exact (putSel_off rfl).trans rfl
               have e80 : a.tmps[80]? = some (.bool true) := by rw [ha]; exact putSel_on (e := (5, 80, .bool true)) 3 rfl rfl (hon 5 (by kernel_rfl)) rfl
               replace ha := Aside0.mk ha
               have HBW := Aside0.mk Q_HBW
               have HL2 := Aside0.mk (Q_HL2 (hon 2 (by kernel_rfl)))
               refine value_ (w1 := w') (v := .int .u32 t117) (wanted_on rfl rfl rfl (e80.trans (by first | rfl | (simp [*]; done)))) rfl ?_ ?_
               ·go_simp
                (try simp only [i64_w])
                try rfl
               refine hK.out _ _ ⟨gb2, gb21, m2_, m21_, (by rw [ha.out]; exact putSel_upk 4 hb_ rfl rfl rfl), Q_HBW, Q_HL2, fun h0_ => absurd ((hoff 21 (by kernel_rfl)).symm.trans h0_) (by decide), Q_X2_, fun h0_ => absurd ((hoff 21 (by kernel_rfl)).symm.trans h0_) (by decide)⟩
              refine steps_cons ?_ ?_
              ·rintro b a w' ⟨gb2, gb21, m2_, m21_, ha, Q_HBW, Q_HL2, Q_HL21, Q_X2_, Q_X21_⟩ hb_ hon hoff
               refine ⟨_, rfl, fun K hK => ?_⟩
               have e12 : a.tmps[12]? = some (.int .u32 t115) := by rw [ha]; exact (putSel_off rfl).trans rfl
               have e80 : a.tmps[80]? = some (.bool true) := by rw [ha]; exact putSel_on (e := (5, 80, .bool true)) 3 rfl rfl (hon 5 (by kernel_rfl)) rfl
               replace ha := Aside0.mk ha
               have HBW := Aside0.mk Q_HBW
               have HL2 := Aside0.mk (Q_HL2 (hon 2 (by kernel_rfl)))
               refine value_ (w1 := w') (v := .int .u32 t115) (wanted_on rfl rfl rfl (e80.trans (by first | rfl | (simp [*]; done)))) rfl ?_ ?_
               ·go_simp
                (try simp only [i64_w])
                try rfl
               refine hK.out _ _ ⟨gb2, gb21, m2_, m21_, (by rw [ha.out]; exact putSel_upk 5 hb_ rfl rfl rfl), Q_HBW, Q_HL2, fun h0_ => absurd ((hoff 21 (by kernel_rfl)).symm.trans h0_) (by decide), Q_X2_, fun h0_ => absurd ((hoff 21 (by kernel_rfl)).symm.trans h0_) (by decide)⟩
              refine steps_cons ?_ ?_
              ·rintro b a w' ⟨gb2, gb21, m2_, m21_, ha, Q_HBW, Q_HL2, Q_HL21, Q_X2_, Q_X21_⟩ hb_ hon hoff
               refine ⟨_, rfl, fun K hK => ?_⟩
               have e81 : a.tmps[81]? = some (.int .u32 t117) := by rw [ha]; exact putSel_on (e := (6, 81, .int .u32 t117)) 4 rfl rfl (hon 6 (by kernel_rfl)) rfl
               have e82 : a.tmps[82]? = some (.int .u32 t115) := by rw [ha]; exact putSel_on (e := (7, 82, .int .u32 t115)) 5 rfl rfl (hon 7 (by kernel_rfl)) rfl
               have e80 : a.tmps[80]? = some (.bool true) := by rw [ha]; exact putSel_on (e := (5, 80, .bool true)) 3 rfl rfl (hon 5 (by kernel_rfl)) rfl
               replace ha := Aside0.mk ha
               have HBW := Aside0.mk Q_HBW
               have HL2 := Aside0.mk (Q_HL2 (hon 2 (by kernel_rfl)))
               refine value_ (w1 := w') (v := .bool true) (wanted_on rfl rfl rfl (e80.trans (by first | rfl | (simp [*]; done)))) rfl ?_ ?_
               ·go_simp
                (try simp only [i64_w])
                try rfl
               refine hK.out _ _ ⟨gb2, gb21, m2_, m21_, (by rw [ha.out]; exact putSel_upk 6 hb_ rfl rfl rfl), Q_HBW, Q_HL2, fun h0_ => absurd ((hoff 21 (by kernel_rfl)).symm.trans h0_) (by decide), Q_X2_, fun h0_ => absurd ((hoff 21 (by kernel_rfl)).symm.trans h0_) (by decide)⟩
              refine steps_cons ?_ ?_
              ·rintro b a w' ⟨gb2, gb21, m2_, m21_, ha, Q_HBW, Q_HL2, Q_HL21, Q_X2_, Q_X21_⟩ hb_ hon hoff
               refine ⟨_, rfl, fun K hK => ?_⟩
               have e80 : a.tmps[80]? = some (.bool true) := by rw [ha]; exact putSel_on (e := (5, 80, .bool true)) 3 rfl rfl (hon 5 (by kernel_rfl)) rfl
               have e83 : a.tmps[83]? = some (.bool true) := by rw [ha]; exact putSel_on (e := (8, 83, .bool true)) 6 rfl rfl (hon 8 (by kernel_rfl)) rfl
               replace ha := Aside0.mk ha
               have HBW := Aside0.mk Q_HBW
               have HL2 := Aside0.mk (Q_HL2 (hon 2 (by kernel_rfl)))
               refine value_ (w1 := w') (v := .bool true) (by rfl) rfl ?_ ?_
               ·go_simp
                (try simp only [i64_w])
                try rfl
               refine hK.out _ _ ⟨gb2, gb21, m2_, m21_, (by rw [ha.out]; exact putSel_upk 7 hb_ rfl rfl rfl), Q_HBW, Q_HL2, fun h0_ => absurd ((hoff 21 (by kernel_rfl)).symm.trans h0_) (by decide), Q_X2_, fun h0_ => absurd ((hoff 21 (by kernel_rfl)).symm.trans h0_) (by decide)⟩
              refine steps_cons ?_ ?_
              ·rintro b a w' ⟨gb2, gb21, m2_, m21_, ha, Q_HBW, Q_HL2, Q_HL21, Q_X2_, Q_X21_⟩ hb_ hon hoff
               refine ⟨_, rfl, fun K hK => ?_⟩
               have e84 : a.tmps[84]? = some (.bool true) := by rw [ha]; exact putSel_on (e := (9, 84, .bool true)) 7 rfl rfl (hon 9 (by kernel_rfl)) rfl
               replace ha := Aside0.mk ha
               have HBW := Aside0.mk Q_HBW
               have HL2 := Aside0.mk (Q_HL2 (hon 2 (by kernel_rfl)))
               refine value_ (w1 := w') (v := .bool true) (by rfl) rfl ?_ ?_
               ·go_simp
                (try simp only [i64_w])
                try rfl
               refine hK.out _ _ ⟨gb2, gb21, m2_, m21_, (by rw [ha.out]; exact putSel_upk 8 hb_ rfl rfl rfl), Q_HBW, Q_HL2, fun h0_ => absurd ((hoff 21 (by kernel_rfl)).symm.trans h0_) (by decide), Q_X2_, fun h0_ => absurd ((hoff 21 (by kernel_rfl)).symm.trans h0_) (by decide)⟩
              refine steps_cons ?_ ?_
              ·rintro b a w' ⟨gb2, gb21, m2_, m21_, ha, Q_HBW, Q_HL2, Q_HL21, Q_X2_, Q_X21_⟩ hb_ hon hoff
               refine ⟨_, rfl, fun K hK => ?_⟩
               have e0 : a.tmps[0]? = some (.slice A0 l0.length c0) := by rw [ha]; exact (putSel_off rfl).trans rfl
               have e85 : a.tmps[85]? = some (.bool true) := by rw [ha]; exact putSel_on (e := (10, 85, .bool true)) 8 rfl rfl (hon 10 (by kernel_rfl)) rfl
               replace ha := Aside0.mk ha
               have HBW := Aside0.mk Q_HBW
               have HL2 := Aside0.mk (Q_HL2 (hon 2 (by kernel_rfl)))
               refine value_ (w1 := w') (v := .slice A0 l0.length c0) (wanted_on rfl rfl rfl (e85.trans (by first | rfl | (simp [*]; done)))) rfl ?_ ?_
               ·go_simp
                (try simp only [i64_w])
                try rfl
               refine hK.out _ _ ⟨gb2, gb21, m2_, m21_, (by rw [ha.out]; exact putSel_upk 9 hb_ rfl rfl rfl), Q_HBW, Q_HL2, fun h0_ => absurd ((hoff 21 (by kernel_rfl)).symm.trans h0_) (by decide), Q_X2_, fun h0_ => absurd ((hoff 21 (by kernel_rfl)).symm.trans h0_) (by decide)⟩
              refine steps_cons ?_ ?_
              ·rintro b a w' ⟨gb2, gb21, m2_, m21_, ha, Q_HBW, Q_HL2, Q_HL21, Q_X2_, Q_X21_⟩ hb_ hon hoff
               refine ⟨_, rfl, fun K hK => ?_⟩
               have e7 : a.tmps[7]? = some (.int .i64 ji9) := by rw [ha]; exact (putSel_off rfl).trans rfl
               have e85 : a.tmps[85]? = some (.bool true) := by rw [ha]; exact putSel_on (e := (10, 85, .bool true)) 8 rfl rfl (hon 10 (by kernel_rfl)) rfl
               replace ha := Aside0.mk ha
               have HBW := Aside0.mk Q_HBW
               have HL2 := Aside0.mk (Q_HL2 (hon 2 (by kernel_rfl)))
               refine value_ (w1 := w') (v := .int .i64 ji9) (wanted_on rfl rfl rfl (e85.trans (by first | rfl | (simp [*]; done)))) rfl ?_ ?_
               ·go_simp
                (try simp only [i64_w])
                try rfl
               refine hK.out _ _ ⟨gb2, gb21, m2_, m21_, (by rw [ha.out]; exact putSel_upk 10 hb_ rfl rfl rfl), Q_HBW, Q_HL2, fun h0_ => absurd ((hoff 21 (by kernel_rfl)).symm.trans h0_) (by decide), Q_X2_, fun h0_ => absurd ((hoff 21 (by kernel_rfl)).symm.trans h0_) (by decide)⟩
              refine steps_cons ?_ ?_
              ·rintro b a w' ⟨gb2, gb21, m2_, m21_, ha, Q_HBW, Q_HL2, Q_HL21, Q_X2_, Q_X21_⟩ hb_ hon hoff
               refine ⟨_, rfl, fun K hK => ?_⟩
               have e86 : a.tmps[86]? = some (.slice A0 l0.length c0) := by rw [ha]; exact putSel_on (e := (11, 86, .slice A0 l0.length c0)) 9 rfl rfl (hon 11 (by kernel_rfl)) rfl
               have e87 : a.tmps[87]? = some (.int .i64 ji9) := by rw [ha]; exact putSel_on (e := (12, 87, .int .i64 ji9)) 10 rfl rfl (hon 12 (by kernel_rfl)) rfl
               have e85 : a.tmps[85]? = some (.bool true) := by rw [ha]; exact putSel_on (e := (10, 85, .bool true)) 8 rfl rfl (hon 10 (by kernel_rfl)) rfl
               replace ha := Aside0.mk ha
               have HBW := Aside0.mk Q_HBW
               have HL2 := Aside0.mk (Q_HL2 (hon 2 (by kernel_rfl)))
               refine value_ (w1 := w') (v := .slice A0 N1_ c0) (wanted_on rfl rfl rfl (e85.trans (by first | rfl | (simp [*]; done)))) rfl ?_ ?_
               ·go_simp
                (try simp only [i64_w])
                try rfl
               refine hK.out _ _ ⟨gb2, gb21, m2_, m21_, (by rw [ha.out]; exact putSel_upk 11 hb_ rfl rfl rfl), Q_HBW, Q_HL2, fun h0_ => absurd ((hoff 21 (by kernel_rfl)).symm.trans h0_) (by decide), Q_X2_, fun h0_ => absurd ((hoff 21 (by kernel_rfl)).symm.trans h0_) (by decide)⟩
              refine steps_cons ?_ ?_
              ·rintro b a w' ⟨gb2, gb21, m2_, m21_, ha, Q_HBW, Q_HL2, Q_HL21, Q_X2_, Q_X21_⟩ hb_ hon hoff
               refine ⟨_, rfl, fun K hK => ?_⟩
               have e0 : a.tmps[0]? = some (.slice A0 l0.length c0) := by rw [ha]; exact (putSel_off rfl).trans rfl
               have e85 : a.tmps[85]? = some (.bool true) := by rw [ha]; exact putSel_on (e := (10, 85, .bool true)) 8 rfl rfl (hon 10 (by kernel_rfl)) rfl
               replace ha := Aside0.mk ha
               have HBW := Aside0.mk Q_HBW
               have HL2 := Aside0.mk (Q_HL2 (hon 2 (by kernel_rfl)))
               refine value_ (w1 := w') (v := .slice A0 l0.length c0) (wanted_on rfl rfl rfl (e85.trans (by first | rfl | (simp [*]; done)))) rfl ?_ ?_
               ·go_simp
                (try simp only [i64_w])
                try rfl
               refine hK.out _ _ ⟨gb2, gb21, m2_, m21_, (by rw [ha.out]; exact putSel_upk 12 hb_ rfl rfl rfl), Q_HBW, Q_HL2, fun h0_ => absurd ((hoff 21 (by kernel_rfl)).symm.trans h0_) (by decide), Q_X2_, fun h0_ => absurd ((hoff 21 (by kernel_rfl)).symm.trans h0_) (by decide)⟩
              refine steps_cons ?_ ?_
              ·rintro b a w' ⟨gb2, gb21, m2_, m21_, ha, Q_HBW, Q_HL2, Q_HL21, Q_X2_, Q_X21_⟩ hb_ hon hoff
               refine ⟨_, rfl, fun K hK => ?_⟩
               have e7 : a.tmps[7]? = some (.int .i64 ji9) := by rw [ha]; exact (putSel_off rfl).trans rfl
               have e85 : a.tmps[85]? = some (.bool true) := by rw [ha]; exact putSel_on (e := (10, 85, .bool true)) 8 rfl rfl (hon 10 (by kernel_rfl)) rfl
               replace ha := Aside0.mk ha
               have HBW := Aside0.mk Q_HBW
               have HL2 := Aside0.mk (Q_HL2 (hon 2 (by kernel_rfl)))
               refine value_ (w1 := w') (v := .int .i64 ji9) (wanted_on rfl rfl rfl (e85.trans (by first | rfl | (simp [*]; done)))) rfl ?_ ?_
               ·go_simp
                (try simp only [i64_w])
                try rfl
               refine hK.out _ _ ⟨gb2, gb21, m2_, m21_, (by rw [ha.out]; exact putSel_upk 13 hb_ rfl rfl rfl), Q_HBW, Q_HL2, fun h0_ => absurd ((hoff 21 (by kernel_rfl)).symm.trans h0_) (by decide), Q_X2_, fun h0_ => absurd ((hoff 21 (by kernel_rfl)).symm.trans h0_) (by decide)⟩
              refine steps_cons ?_ ?_
              ·rintro b a w' ⟨gb2, gb21, m2_, m21_, ha, Q_HBW, Q_HL2, Q_HL21, Q_X2_, Q_X21_⟩ hb_ hon hoff
               refine ⟨_, rfl, fun K hK => ?_⟩
               have e8 : a.tmps[8]? = some (.int .i64 ji17) := by rw [ha]; exact (putSel_off rfl).trans rfl
               have e85 : a.tmps[85]? = some (.bool true) := by rw [ha]; exact putSel_on (e := (10, 85, .bool true)) 8 rfl rfl (hon 10 (by kernel_rfl)) rfl
               replace ha := Aside0.mk ha
               have HBW := Aside0.mk Q_HBW
               have HL2 := Aside0.mk (Q_HL2 (hon 2 (by kernel_rfl)))
               refine value_ (w1 := w') (v := .int .i64 ji17) (wanted_on rfl rfl rfl (e85.trans (by first | rfl | (simp [*]; done)))) rfl ?_ ?_
               ·go_simp
                (try simp only [i64_w])
                try rfl
               refine hK.out _ _ ⟨gb2, gb21, m2_, m21_, (by rw [ha.out]; exact putSel_upk 14 hb_ rfl rfl rfl), Q_HBW, Q_HL2, fun h0_ => absurd ((hoff 21 (by kernel_rfl)).symm.trans h0_) (by decide), Q_X2_, fun h0_ => absurd ((hoff 21 (by kernel_rfl)).symm.trans h0_) (by decide)⟩
              refine steps_cons ?_ ?_
              ·rintro b a w' ⟨gb2, gb21, m2_, m21_, ha, Q_HBW, Q_HL2, Q_HL21, Q_X2_, Q_X21_⟩ hb_ hon hoff
               refine ⟨_, rfl, fun K hK => ?_⟩
               have e89 : a.tmps[89]? = some (.slice A0 l0.length c0) := by rw [ha]; exact putSel_on (e := (14, 89, .slice A0 l0.length c0)) 12 rfl rfl (hon 14 (by kernel_rfl)) rfl
               have e90 : a.tmps[90]? = some (.int .i64 ji9) := by rw [ha]; exact putSel_on (e := (15, 90, .int .i64 ji9)) 13 rfl rfl (hon 15 (by kernel_rfl)) rfl
               have e91 : a.tmps[91]? = some (.int .i64 ji17) := by rw [ha]; exact putSel_on (e := (16, 91, .int .i64 ji17)) 14 rfl rfl (hon 16 (by kernel_rfl)) rfl
               have e85 : a.tmps[85]? = some (.bool true) := by rw [ha]; exact putSel_on (e := (10, 85, .bool true)) 8 rfl rfl (hon 10 (by kernel_rfl)) rfl
               replace ha := Aside0.mk ha
               have HBW := Aside0.mk Q_HBW
               have HL2 := Aside0.mk (Q_HL2 (hon 2 (by kernel_rfl)))
               refine value_ (w1 := w') (v := .slice A40 N2_ P2_) (wanted_on rfl rfl rfl (e85.trans (by first | rfl | (simp [*]; done)))) rfl ?_ ?_
               ·go_simp
                (try simp only [i64_w])
                try rfl
               refine hK.out _ _ ⟨gb2, gb21, m2_, m21_, (by rw [ha.out]; exact putSel_upk 15 hb_ rfl rfl rfl), Q_HBW, Q_HL2, fun h0_ => absurd ((hoff 21 (by kernel_rfl)).symm.trans h0_) (by decide), Q_X2_, fun h0_ => absurd ((hoff 21 (by kernel_rfl)).symm.trans h0_) (by decide)⟩
              refine steps_cons ?_ ?_
              ·rintro b a w' ⟨gb2, gb21, m2_, m21_, ha, Q_HBW, Q_HL2, Q_HL21, Q_X2_, Q_X21_⟩ hb_ hon hoff
               refine ⟨_, rfl, fun K hK => ?_⟩
               have e0 : a.tmps[0]? = some (.slice A0 l0.length c0) := by rw [ha]; exact (putSel_off rfl).trans rfl
               have e85 : a.tmps[85]? = some (.bool true) := by rw [ha]; exact putSel_on (e := (10, 85, .bool true)) 8 rfl rfl (hon 10 (by kernel_rfl)) rfl
               replace ha := Aside0.mk ha
               have HBW := Aside0.mk Q_HBW
               have HL2 := Aside0.mk (Q_HL2 (hon 2 (by kernel_rfl)))
               refine value_ (w1 := w') (v := .slice A0 l0.length c0) (wanted_on rfl rfl rfl (e85.trans (by first | rfl | (simp [*]; done)))) rfl ?_ ?_
               ·go_simp
                (try simp only [i64_w])
                try rfl
               refine hK.out _ _ ⟨gb2, gb21, m2_, m21_, (by rw [ha.out]; exact putSel_upk 16 hb_ rfl rfl rfl), Q_HBW, Q_HL2, fun h0_ => absurd ((hoff 21 (by kernel_rfl)).symm.trans h0_) (by decide), Q_X2_, fun h0_ => absurd ((hoff 21 (by kernel_rfl)).symm.trans h0_) (by decide)⟩
              refine steps_cons ?_ ?_
              ·rintro b a w' ⟨gb2, gb21, m2_, m21_, ha, Q_HBW, Q_HL2, Q_HL21, Q_X2_, Q_X21_⟩ hb_ hon hoff
               refine ⟨_, rfl, fun K hK => ?_⟩
               have e8 : a.tmps[8]? = some (.int .i64 ji17) := by rw [ha]; exact (putSel_off rfl).trans rfl
               have e85 : a.tmps[85]? = some (.bool true) := by rw [ha]; exact putSel_on (e := (10, 85, .bool true)) 8 rfl rfl (hon 10 (by kernel_rfl)) rfl
               replace ha := Aside0.mk ha
               have HBW := Aside0.mk Q_HBW
               have HL2 := Aside0.mk (Q_HL2 (hon 2 (by kernel_rfl)))
               refine value_ (w1 := w') (v := .int .i64 ji17) (wanted_on rfl rfl rfl (e85.trans (by first | rfl | (simp [*]; done)))) rfl ?_ ?_
               ·go_simp
                (try simp only [i64_w])
                try rfl
               refine hK.out _ _ ⟨gb2, gb21, m2_, m21_, (by rw [ha.out]; exact putSel_upk 17 hb_ rfl rfl rfl), Q_HBW, Q_HL2, fun h0_ => absurd ((hoff 21 (by kernel_rfl)).symm.trans h0_) (by decide), Q_X2_, fun h0_ => absurd ((hoff 21 (by kernel_rfl)).symm.trans h0_) (by decide)⟩
              refine steps_cons ?_ ?_
              ·rintro b a w' ⟨gb2, gb21, m2_, m21_, ha, Q_HBW, Q_HL2, Q_HL21, Q_X2_, Q_X21_⟩ hb_ hon hoff
               refine ⟨_, rfl, fun K hK => ?_⟩
               have e93 : a.tmps[93]? = some (.slice A0 l0.length c0) := by rw [ha]; exact putSel_on (e := (18, 93, .slice A0 l0.length c0)) 16 rfl rfl (hon 18 (by kernel_rfl)) rfl
               have e94 : a.tmps[94]? = some (.int .i64 ji17) := by rw [ha]; exact putSel_on (e := (19, 94, .int .i64 ji17)) 17 rfl rfl (hon 19 (by kernel_rfl)) rfl
               have e85 : a.tmps[85]? = some (.bool true) := by rw [ha]; exact putSel_on (e := (10, 85, .bool true)) 8 rfl rfl (hon 10 (by kernel_rfl)) rfl
               replace ha := Aside0.mk ha
               have HBW := Aside0.mk Q_HBW
               have HL2 := Aside0.mk (Q_HL2 (hon 2 (by kernel_rfl)))
               refine value_ (w1 := w') (v := .slice A41 N3_ P3_) (wanted_on rfl rfl rfl (e85.trans (by first | rfl | (simp [*]; done)))) rfl ?_ ?_
               ·go_simp
                (try simp only [i64_w])
                try rfl
               refine hK.out _ _ ⟨gb2, gb21, m2_, m21_, (by rw [ha.out]; exact putSel_upk 18 hb_ rfl rfl rfl), Q_HBW, Q_HL2, fun h0_ => absurd ((hoff 21 (by kernel_rfl)).symm.trans h0_) (by decide), Q_X2_, fun h0_ => absurd ((hoff 21 (by kernel_rfl)).symm.trans h0_) (by decide)⟩
              refine steps_cons ?_ ?_
              ·rintro b a w' ⟨gb2, gb21, m2_, m21_, ha, Q_HBW, Q_HL2, Q_HL21, Q_X2_, Q_X21_⟩ hb_ hon hoff
               refine ⟨_, rfl, fun K hK => ?_⟩
               have e88 : a.tmps[88]? = some (.slice A0 N1_ c0) := by rw [ha]; exact putSel_on (e := (13, 88, .slice A0 N1_ c0)) 11 rfl rfl (hon 13 (by kernel_rfl)) rfl
               have e92 : a.tmps[92]? = some (.slice A40 N2_ P2_) := by rw [ha]; exact putSel_on (e := (17, 92, .slice A40 N2_ P2_)) 15 rfl rfl (hon 17 (by kernel_rfl)) rfl
               have e95 : a.tmps[95]? = some (.slice A41 N3_ P3_) := by rw [ha]; exact putSel_on (e := (20, 95, .slice A41 N3_ P3_)) 18 rfl rfl (hon 20 (by kernel_rfl)) rfl
               have e85 : a.tmps[85]? = some (.bool true) := by rw [ha]; exact putSel_on (e := (10, 85, .bool true)) 8 rfl rfl (hon 10 (by kernel_rfl)) rfl
               replace ha := Aside0.mk ha
               have HBW := Aside0.mk Q_HBW
               have HL2 := Aside0.mk (Q_HL2 (hon 2 (by kernel_rfl)))
               refine value_ (w1 := w'.alloc (.cells #[.slice A0 N1_ c0, .slice A40 N2_ P2_, .slice A41 N3_ P3_] 24 (0, 0))) (v := .slice (some ⟨w'.heap.size, 0, none⟩) 3 3) (wanted_on rfl rfl rfl (e85.trans rfl)) rfl ?_ ?_
               ·go_simp
                try rfl
               refine hK.out _ _ ⟨gb2, w'.heap.size, m2_, (.slice (some ⟨w'.heap.size, 0, none⟩) 3 3), (by rw [ha.out]; exact putSel_upk 19 hb_ rfl rfl rfl), below_alloc HBW.out _, fun _ => pw_cell_below (below_alloc (Below.refl _ _) _) HL2.out, fun _ => by simp, Q_X2_, fun _ => rfl⟩
              refine steps_cons ?_ ?_
              ·rintro b a w' ⟨gb2, gb21, m2_, m21_, ha, Q_HBW, Q_HL2, Q_HL21, Q_X2_, Q_X21_⟩ hb_ hon hoff
               refine ⟨_, rfl, fun K hK => ?_⟩
               have e96 : a.tmps[96]? = some (m21_) := by rw [ha]; exact putSel_on (e := (21, 96, m21_)) 19 rfl rfl (hon 21 (by kernel_rfl)) rfl
               rw [Q_X21_ (hon 21 (by kernel_rfl))] at e96
               have e85 : a.tmps[85]? = some (.bool true) := by rw [ha]; exact putSel_on (e := (10, 85, .bool true)) 8 rfl rfl (hon 10 (by kernel_rfl)) rfl
               replace ha := Aside0.mk ha
               have HBW := Aside0.mk Q_HBW
               have HL2 := Aside0.mk (Q_HL2 (hon 2 (by kernel_rfl)))
               have HL21 := Aside0.mk (Q_HL21 (hon 21 (by kernel_rfl)))
               refine goes_ Tryd.func11 (by kernel_rfl) rfl #[.slice (some ⟨gb21, 0, none⟩) 3 3] (wanted_on rfl rfl rfl (e85.trans rfl)) rfl rfl (by first | (simp only [List.map_toArray, List.map_cons, List.map_nil, Act.eval, Array.getD_eq_getD_getElem?, Option.getD_some, e96, e85]; done) | (simp only [List.map_toArray, List.map_cons, List.map_nil, Act.eval, Array.getD_eq_getD_getElem?, Option.getD_some, e96, e85]; rfl)) ?_
               with_reducible refine (crc_Of.threeV gb21 N1_ c0 A0 (l0.take (ji9 : Int).toNat) N2_ P2_ A40 ((l0.take (ji17 : Int).toNat).drop (ji9 : Int).toNat) N3_ P3_ A41 (l0.drop (ji17 : Int).toNat) t122 w' (GT.below WG8.out HBW.out) HL21.out (Kd.C_below CN18.out HBW.out) (Kd.C_below CN28.out HBW.out) (Kd.C_below CN38.out HBW.out) HC108.out HC110.out HC112.out HN1.out HN2.out HN3.out K4.out).mono ?_
               rintro e w3_ ⟨rfl, hw_⟩
               subst hw_
               refine ⟨_, rfl, ?_⟩
               refine hK.out _ _ ⟨gb2, gb21, m2_, m21_, (by rw [ha.out]; exact putSel_upk 20 hb_ rfl rfl rfl), HBW.out, fun _ => HL2.out, fun _ => HL21.out, Q_X2_, Q_X21_⟩
              refine steps_cons ?_ ?_
              ·rintro b a w' ⟨gb2, gb21, m2_, m21_, ha, Q_HBW, Q_HL2, Q_HL21, Q_X2_, Q_X21_⟩ hb_ hon hoff
               refine ⟨_, rfl, fun K hK => ?_⟩
               have e12 : a.tmps[12]? = some (.int .u32 t115) := by rw [ha]; exact (putSel_off rfl).trans rfl
               have e85 : a.tmps[85]? = some (.bool true) := by rw [ha]; exact putSel_on (e := (10, 85, .bool true)) 8 rfl rfl (hon 10 (by kernel_rfl)) rfl
               replace ha := Aside0.mk ha
               have HBW := Aside0.mk Q_HBW
               have HL2 := Aside0.mk (Q_HL2 (hon 2 (by kernel_rfl)))
               refine value_ (w1 := w') (v := .int .u32 t115) (wanted_on rfl rfl rfl (e85.trans (by first | rfl | (simp [*]; done)))) rfl ?_ ?_
               ·go_simp
                (try simp only [i64_w])
                try rfl
               refine hK.out _ _ ⟨gb2, gb21, m2_, m21_, (by rw [ha.out]; exact putSel_upk 21 hb_ rfl rfl rfl), Q_HBW, Q_HL2, Q_HL21, Q_X2_, Q_X21_⟩
              refine steps_cons ?_ ?_
              ·rintro b a w' ⟨gb2, gb21, m2_, m21_, ha, Q_HBW, Q_HL2, Q_HL21, Q_X2_, Q_X21_⟩ hb_ hon hoff
               refine ⟨_, rfl, fun K hK => ?_⟩
               have e97 : a.tmps[97]? = some (.int .u32 t122) := by rw [ha]; exact putSel_on (e := (22, 97, .int .u32 t122)) 20 rfl rfl (hon 22 (by kernel_rfl)) rfl
               have e98 : a.tmps[98]? = some (.int .u32 t115) := by rw [ha]; exact putSel_on (e := (23, 98, .int .u32 t115)) 21 rfl rfl (hon 23 (by kernel_rfl)) rfl
               have e85 : a.tmps[85]? = some (.bool true) := by rw [ha]; exact putSel_on (e := (10, 85, .bool true)) 8 rfl rfl (hon 10 (by kernel_rfl)) rfl
               replace ha := Aside0.mk ha
               have HBW := Aside0.mk Q_HBW
               have HL2 := Aside0.mk (Q_HL2 (hon 2 (by kernel_rfl)))
               have HL21 := Aside0.mk (Q_HL21 (hon 21 (by kernel_rfl)))
               refine value_ (w1 := w') (v := .bool true) (wanted_on rfl rfl rfl (e85.trans (by first | rfl | (simp [*]; done)))) rfl ?_ ?_
               ·go_simp
                (try simp only [i64_w])
                try rfl
               refine hK.out _ _ ⟨gb2, gb21, m2_, m21_, (by rw [ha.out]; exact putSel_upk 22 hb_ rfl rfl rfl), Q_HBW, Q_HL2, Q_HL21, Q_X2_, Q_X21_⟩
              refine steps_cons ?_ ?_
              ·rintro b a w' ⟨gb2, gb21, m2_, m21_, ha, Q_HBW, Q_HL2, Q_HL21, Q_X2_, Q_X21_⟩ hb_ hon hoff
               refine ⟨_, rfl, fun K hK => ?_⟩
               have e85 : a.tmps[85]? = some (.bool true) := by rw [ha]; exact putSel_on (e := (10, 85, .bool true)) 8 rfl rfl (hon 10 (by kernel_rfl)) rfl
               have e99 : a.tmps[99]? = some (.bool true) := by rw [ha]; exact putSel_on (e := (24, 99, .bool true)) 22 rfl rfl (hon 24 (by kernel_rfl)) rfl
               replace ha := Aside0.mk ha
               have HBW := Aside0.mk Q_HBW
               have HL2 := Aside0.mk (Q_HL2 (hon 2 (by kernel_rfl)))
               have HL21 := Aside0.mk (Q_HL21 (hon 21 (by kernel_rfl)))
               refine value_ (w1 := w') (v := .bool true) (by rfl) rfl ?_ ?_
               ·go_simp
                (try simp only [i64_w])
                try rfl
               refine hK.out _ _ ⟨gb2, gb21, m2_, m21_, (by rw [ha.out]; exact putSel_upk 23 hb_ rfl rfl rfl), Q_HBW, Q_HL2, Q_HL21, Q_X2_, Q_X21_⟩
              refine steps_cons ?_ ?_
              ·rintro b a w' ⟨gb2, gb21, m2_, m21_, ha, Q_HBW, Q_HL2, Q_HL21, Q_X2_, Q_X21_⟩ hb_ hon hoff
               refine ⟨_, rfl, fun K hK => ?_⟩
               have e100 : a.tmps[100]? = some (.bool true) := by rw [ha]; exact putSel_on (e := (25, 100, .bool true)) 23 rfl rfl (hon 25 (by kernel_rfl)) rfl
               replace ha := Aside0.mk ha
               have HBW := Aside0.mk Q_HBW
               have HL2 := Aside0.mk (Q_HL2 (hon 2 (by kernel_rfl)))
               have HL21 := Aside0.mk (Q_HL21 (hon 21 (by kernel_rfl)))
               refine value_ (w1 := w') (v := .bool true) (by rfl) rfl ?_ ?_
               ·go_simp
                (try simp only [i64_w])
                try rfl
               refine hK.out _ _ ⟨gb2, gb21, m2_, m21_, (by rw [ha.out]; exact putSel_upk 24 hb_ rfl rfl rfl), Q_HBW, Q_HL2, Q_HL21, Q_X2_, Q_X21_⟩
              refine steps_cons ?_ ?_
              ·rintro b a w' ⟨gb2, gb21, m2_, m21_, ha, Q_HBW, Q_HL2, Q_HL21, Q_X2_, Q_X21_⟩ hb_ hon hoff
               refine ⟨_, rfl, fun K hK => ?_⟩
               have e101 : a.tmps[101]? = some (.bool true) := by rw [ha]; exact putSel_on (e := (26, 101, .bool true)) 24 rfl rfl (hon 26 (by kernel_rfl)) rfl
               replace ha := Aside0.mk ha
               have HBW := Aside0.mk Q_HBW
               have HL2 := Aside0.mk (Q_HL2 (hon 2 (by kernel_rfl)))
               have HL21 := Aside0.mk (Q_HL21 (hon 21 (by kernel_rfl)))
               refine goes_ Tryd.func10 (by kernel_rfl) rfl #[] (wanted_on rfl rfl rfl (e101.trans rfl)) rfl rfl (by first | (simp only [List.map_toArray, List.map_cons, List.map_nil, Act.eval, Array.getD_eq_getD_getElem?, Option.getD_some, e101]; done) | (simp only [List.map_toArray, List.map_cons, List.map_nil, Act.eval, Array.getD_eq_getD_getElem?, Option.getD_some, e101]; rfl)) ?_
               with_reducible refine (remoralaw02_awake.calls t123 w' (GT.below WG8.out HBW.out) A37.out).mono ?_
               rintro e w3_ ⟨rfl, hbb_⟩
               refine ⟨_, rfl, ?_⟩
               refine hK.out _ _ ⟨gb2, gb21, m2_, m21_, (by rw [ha.out]; exact putSel_upk 25 hb_ rfl rfl rfl), below_step HBW.out hbb_, fun _ => pw_cell_below hbb_ HL2.out, fun _ => ⟨pw_cell_below hbb_ HL21.out.1, pw_cell_below hbb_ HL21.out.2.1, pw_cell_below hbb_ HL21.out.2.2⟩, Q_X2_, Q_X21_⟩
              refine steps_cons ?_ ?_
              ·rintro b a w' ⟨gb2, gb21, m2_, m21_, ha, Q_HBW, Q_HL2, Q_HL21, Q_X2_, Q_X21_⟩ hb_ hon hoff
               refine ⟨_, rfl, fun K hK => ?_⟩
               have e101 : a.tmps[101]? = some (.bool true) := by rw [ha]; exact putSel_on (e := (26, 101, .bool true)) 24 rfl rfl (hon 26 (by kernel_rfl)) rfl
               have e102 : a.tmps[102]? = some (.bool t123) := by rw [ha]; exact putSel_on (e := (27, 102, .bool t123)) 25 rfl rfl (hon 27 (by kernel_rfl)) rfl
               replace ha := Aside0.mk ha
               have HBW := Aside0.mk Q_HBW
               have HL2 := Aside0.mk (Q_HL2 (hon 2 (by kernel_rfl)))
               have HL21 := Aside0.mk (Q_HL21 (hon 21 (by kernel_rfl)))
               refine value_ (w1 := w') (v := .bool t123) (by rfl) rfl ?_ ?_
               ·go_simp
                (try simp only [i64_w])
                try rfl
               refine hK.out _ _ ⟨gb2, gb21, m2_, m21_, (by rw [ha.out]; exact putSel_upk 26 hb_ rfl rfl rfl), Q_HBW, Q_HL2, Q_HL21, Q_X2_, Q_X21_⟩
              refine steps_cons ?_ ?_
              ·rintro b a w' ⟨gb2, gb21, m2_, m21_, ha, Q_HBW, Q_HL2, Q_HL21, Q_X2_, Q_X21_⟩ hb_ hon hoff
               refine ⟨_, rfl, fun K hK => ?_⟩
               have e103 : a.tmps[103]? = some (.bool t123) := by rw [ha]; exact putSel_on (e := (28, 103, .bool t123)) 26 rfl rfl (hon 28 (by kernel_rfl)) rfl
               replace ha := Aside0.mk ha
               have HBW := Aside0.mk Q_HBW
               have HL2 := Aside0.mk (Q_HL2 (hon 2 (by kernel_rfl)))
               have HL21 := Aside0.mk (Q_HL21 (hon 21 (by kernel_rfl)))
               refine value_ (w1 := w') (v := .bool t123) (by rfl) rfl ?_ ?_
               ·go_simp
                (try simp only [i64_w])
                try rfl
               refine hK.out _ _ ⟨gb2, gb21, m2_, m21_, (by rw [ha.out]; exact putSel_upk 27 hb_ rfl rfl rfl), Q_HBW, Q_HL2, Q_HL21, Q_X2_, Q_X21_⟩
              exact steps_nil
             ·rintro b a w' hall ⟨gb2, gb21, m2_, m21_, ha, Q_HBW, Q_HL2, Q_HL21, Q_X2_, Q_X21_⟩
              clear HBW
              have hb2_ := hall 2 (by kernel_rfl)
              have hb3_ := hall 3 (by kernel_rfl)
              have hb4_ := hall 4 (by kernel_rfl)
              have hb5_ := hall 5 (by kernel_rfl)
              have hb6_ := hall 6 (by kernel_rfl)
              have hb7_ := hall 7 (by kernel_rfl)
              have hb8_ := hall 8 (by kernel_rfl)
              have hb9_ := hall 9 (by kernel_rfl)
              have hb10_ := hall 10 (by kernel_rfl)
              have hb11_ := hall 11 (by kernel_rfl)
              have hb12_ := hall 12 (by kernel_rfl)
              have hb13_ := hall 13 (by kernel_rfl)
              have hb14_ := hall 14 (by kernel_rfl)
              have hb15_ := hall 15 (by kernel_rfl)
              have hb16_ := hall 16 (by kernel_rfl)
              have hb17_ := hall 17 (by kernel_rfl)
              have hb18_ := hall 18 (by kernel_rfl)
              have hb19_ := hall 19 (by kernel_rfl)
              have hb20_ := hall 20 (by kernel_rfl)
              have hb21_ := hall 21 (by kernel_rfl)
              have hb22_ := hall 22 (by kernel_rfl)
              have hb23_ := hall 23 (by kernel_rfl)
              have hb24_ := hall 24 (by kernel_rfl)
              have hb25_ := hall 25 (by kernel_rfl)
              have hb26_ := hall 26 (by kernel_rfl)
              have hb27_ := hall 27 (by kernel_rfl)
              have hb28_ := hall 28 (by kernel_rfl)
              have hb29_ := hall 29 (by kernel_rfl)
              subst ha
              obtain rfl := Q_X2_ hb2_
              obtain rfl := Q_X21_ hb21_
              simp only [putSel, hb2_, hb3_, hb4_, hb5_, hb6_, hb7_, hb8_, hb9_, hb10_, hb11_, hb12_, hb13_, hb14_, hb15_, hb16_, hb17_, hb18_, hb19_, hb20_, hb21_, hb22_, hb23_, hb24_, hb25_, hb26_, hb27_, hb28_, hb29_, if_true, Act.put, List.setIfInBounds_toArray, List.set_cons_zero, List.set_cons_succ]
              have HBW := Aside0.mk Q_HBW
              clear Q_HBW
              have HL2 := Aside0.mk (Q_HL2 hb2_)
              clear Q_HL2
              have HL21 := Aside0.mk (Q_HL21 hb21_)
              clear Q_HL21
              clear hall hb2_ hb3_ hb4_ hb5_ hb6_ hb7_ hb8_ hb9_ hb10_ hb11_ hb12_ hb13_ hb14_ hb15_ hb16_ hb17_ hb18_ hb19_ hb20_ hb21_ hb22_ hb23_ hb24_ hb25_ hb26_ hb27_ hb28_ hb29_
              have n0_ := Aside0.mk (below_step HB.out HBW.out)
              clear HB
              clear HBW
              have HB := n0_
              clear n0_
              try go_wp2
              all_goals go_ret
              all_goals exact ⟨by first | rfl | (simp [errW_none, errW_some] <;> rfl) | (simp only [← hji9, ← hji17]; first | rfl | (simp [errW_none, errW_some] <;> rfl)) | (simp [*, errW_none, errW_some] <;> rfl), by repeat (first | (with_reducible first | exact HB.out | apply below_alloc | apply pw_below_drewN | apply below_drew1) | exact HB.out)⟩
           ·rw [if_neg c36] at H
            have c36b0 : (t122 == t115) = false := beq_eq_false_iff_ne.mpr c36
            have c36b1 : (t122 != t115) = true := bne_iff_ne.mpr c36
            obtain rfl := Option.some.inj H
            have c8n := beq_eq_false_iff_ne.mp c8b0
            go_enter Tryd.func9, Tryd.ntmps9
            try go_wp2
            have n0_ := Aside0.mk (below_drew1 HB.out)
            clear HB
            have HB := n0_
            clear n0_
            obtain ⟨i057, hi057, _, hsz57, _⟩ := info_parts info5
            obtain ⟨hcut57, hA57, hC57⟩ := print_take_of (P := Tryd.prog) (Value.int .u8) 0 24 5 .i64 Tryd.underlying24 hi057 hsz57 A0 c0 l0 (ji9) (of_decide_eq_true (by first | (with_reducible assumption) | assumption)) (of_decide_eq_true (by first | (with_reducible assumption) | assumption)) HC0.out
            have HR108 := Aside0.mk (Kd.C_of_reads (h1 := fun _ => rfl) (hA57 _ (Kd.reads_of_C HR0.out)))
            have HC108 := Aside0.mk hC57
            clear hA57 hC57 hi057 hsz57
            (try (have e_ := (hcut57 w).symm.trans (hcut39 w); injection e_ with e1_ e2_; injection e1_ with e3_ e4_ e5_; subst e3_))
            (try (have e_ := (hcut57 w).symm.trans (hcut51 w); injection e_ with e1_ e2_; injection e1_ with e3_ e4_ e5_; subst e3_))
            obtain ⟨i058, hi058, _, hsz58, _⟩ := info_parts info5
            obtain ⟨A58, hcut58, hA58, hC58⟩ := print_mid_of (P := Tryd.prog) (Value.int .u8) 0 24 5 .i64 .i64 Tryd.underlying24 hi058 hsz58 A0 c0 l0 (ji9) (ji17) (of_decide_eq_true (by first | (with_reducible assumption) | assumption)) (by first | omega | exact of_decide_eq_true (by first | (with_reducible assumption) | assumption)) (of_decide_eq_true (by first | (with_reducible assumption) | assumption)) HC0.out
            have HR110 := Aside0.mk (Kd.C_of_reads (h1 := fun _ => rfl) (hA58 _ (Kd.reads_of_C HR0.out)))
            have HC110 := Aside0.mk hC58
            clear hA58 hC58 hi058 hsz58
            (try (have e_ := (hcut58 w).symm.trans (hcut40 w); injection e_ with e1_ e2_; injection e1_ with e3_ e4_ e5_; subst e3_))
            (try (have e_ := (hcut58 w).symm.trans (hcut52 w); injection e_ with e1_ e2_; injection e1_ with e3_ e4_ e5_; subst e3_))
            obtain ⟨i059, hi059, _, hsz59, _⟩ := info_parts info5
            obtain ⟨A59, hcut59, hA59, hC59⟩ := print_drop_of (P := Tryd.prog) (Value.int .u8) 0 24 5 .i64 Tryd.underlying24 hi059 hsz59 A0 c0 l0 (ji17) (of_decide_eq_true (by first | (with_reducible assumption) | assumption)) (of_decide_eq_true (by first | (with_reducible assumption) | assumption)) HC0.out
            have HR112 := Aside0.mk (Kd.C_of_reads (h1 := fun _ => rfl) (hA59 _ (Kd.reads_of_C HR0.out)))
            have HC112 := Aside0.mk hC59
            clear hA59 hC59 hi059 hsz59
            (try (have e_ := (hcut59 w).symm.trans (hcut41 w); injection e_ with e1_ e2_; injection e1_ with e3_ e4_ e5_; subst e3_))
            (try (have e_ := (hcut59 w).symm.trans (hcut53 w); injection e_ with e1_ e2_; injection e1_ with e3_ e4_ e5_; subst e3_))
            obtain ⟨N1_, hN1_⟩ : ∃ n_ : Nat, (l0.take (ji9 : Int).toNat).length = n_ := ⟨_, rfl⟩
            rw [hN1_] at hcut57 HR108 HC108
            have HN1 := Aside0.mk hN1_
            clear hN1_
            obtain ⟨N2_, hN2_⟩ : ∃ n_ : Nat, ((l0.take (ji17 : Int).toNat).drop (ji9 : Int).toNat).length = n_ := ⟨_, rfl⟩
            rw [hN2_] at hcut58 HR110 HC110
            have HN2 := Aside0.mk hN2_
            clear hN2_
            obtain ⟨N3_, hN3_⟩ : ∃ n_ : Nat, (l0.drop (ji17 : Int).toNat).length = n_ := ⟨_, rfl⟩
            rw [hN3_] at hcut59 HR112 HC112
            have HN3 := Aside0.mk hN3_
            clear hN3_
            obtain ⟨P2_, hP2_⟩ : ∃ n_ : Nat, c0 - (ji9 : Int).toNat = n_ := ⟨_, rfl⟩
            rw [hP2_] at hcut58 HC110
            clear hP2_
            obtain ⟨P3_, hP3_⟩ : ∃ n_ : Nat, c0 - (ji17 : Int).toNat = n_ := ⟨_, rfl⟩
            rw [hP3_] at hcut59 HC112
            clear hP3_
            have K1 := Aside0.mk (Option.some.inj A12.out)
            have K2 := Aside0.mk (Option.some.inj A16.out)
            have K3 := Aside0.mk (Option.some.inj A20.out)
            have K0 := Aside0.mk (Option.some.inj A25.out)
            have CN15 := Aside0.mk (show Kd.C (Kd.int .u8) (w.drew) A0 N1_ (l0.take (ji9 : Int).toNat) from Kd.C_below HR108.out HB.out)
            have CN25 := Aside0.mk (show Kd.C (Kd.int .u8) (w.drew) A58 N2_ ((l0.take (ji17 : Int).toNat).drop (ji9 : Int).toNat) from Kd.C_below HR110.out HB.out)
            have CN35 := Aside0.mk (show Kd.C (Kd.int .u8) (w.drew) A59 N3_ (l0.drop (ji17 : Int).toNat) from Kd.C_below HR112.out HB.out)
            have WG5 := Aside0.mk (GT.below HG.out HB.out)
            refine start_ (n := 19) (S := fun w' => True) (ds := []) #[F_,F_,F_,F_,F_,F_,F_,F_,F_,F_,F_,F_,F_,F_,F_,F_,F_,F_,F_] (by kernel_rfl) rfl rfl trivial (fun hHeld => ?_)
            have HBW := True.intro
            refine with_tabW remoralaw02_CrcParts.tab5 remoralaw02_CrcParts.bits5 (fun HT_ HW_ => ?_)
            generalize w.drew = w56 at HB CN15 CN25 CN35 WG5 hHeld ⊢
            refine pure_ (i := 0) (N := some 34) (v := ?_) (a' := ?_) #[T_,F_,F_,F_,F_,F_,F_,F_,F_,F_,F_,F_,F_,F_,F_,F_,F_,F_,F_] rfl rfl (any_of HT_.out (by kernel_rfl)) (fun _ _ _ h => h) (Or.inl ⟨by rfl, ?_⟩) ?_ ?_
            rotate_left
            ·intro w'
             go_simp
             with_reducible rfl
            rotate_left
            ·simp only [Act.put, List.setIfInBounds_toArray, List.set_cons_zero, List.set_cons_succ, i64_w, i32_w]
             rfl
            refine pure_ (i := 1) (N := some 35) (v := ?_) (a' := ?_) #[T_,T_,F_,F_,F_,F_,F_,F_,F_,F_,F_,F_,F_,F_,F_,F_,F_,F_,F_] rfl rfl (any_of HT_.out (by kernel_rfl)) (fun _ _ _ h => h) (Or.inl ⟨by rfl, ?_⟩) ?_ ?_
            rotate_left
            ·intro w'
             go_simp
             with_reducible rfl
            rotate_left
            ·simp only [Act.put, List.setIfInBounds_toArray, List.set_cons_zero, List.set_cons_succ, i64_w, i32_w]
             rfl
            refine pure_ (i := 2) (N := some 36) (v := ?_) (a' := ?_) #[T_,T_,T_,F_,F_,F_,F_,F_,F_,F_,F_,F_,F_,F_,F_,F_,F_,F_,F_] rfl rfl (any_of HT_.out (by kernel_rfl)) (fun _ _ _ h => h) (Or.inl ⟨by rfl, ?_⟩) ?_ ?_
            rotate_left
            ·intro w'
             go_simp
             with_reducible rfl
            rotate_left
            ·simp only [Act.put, List.setIfInBounds_toArray, List.set_cons_zero, List.set_cons_succ, i64_w, i32_w]
             rfl
            refine pure_ (i := 5) (N := some 39) (v := ?_) (a' := ?_) #[T_,T_,T_,F_,F_,T_,F_,F_,F_,F_,F_,F_,F_,F_,F_,F_,F_,F_,F_] rfl rfl (any_of HT_.out (by kernel_rfl)) (fun _ _ _ h => h) (Or.inl ⟨by rfl, ?_⟩) ?_ ?_
            rotate_left
            ·intro w'
             go_simp
             with_reducible rfl
            rotate_left
            ·simp only [Act.put, List.setIfInBounds_toArray, List.set_cons_zero, List.set_cons_succ, i64_w, i32_w]
             rfl
            refine pure_ (i := 6) (N := some 40) (v := ?_) (a' := ?_) #[T_,T_,T_,F_,F_,T_,T_,F_,F_,F_,F_,F_,F_,F_,F_,F_,F_,F_,F_] rfl rfl (any_of HT_.out (by kernel_rfl)) (fun _ _ _ h => h) (Or.inl ⟨by rfl, ?_⟩) ?_ ?_
            rotate_left
            ·intro w'
             go_simp
             with_reducible rfl
            rotate_left
            ·simp only [Act.put, List.setIfInBounds_toArray, List.set_cons_zero, List.set_cons_succ, i64_w, i32_w]
             rfl
            refine pure_ (i := 7) (N := some 41) (v := ?_) (a' := ?_) #[T_,T_,T_,F_,F_,T_,T_,T_,F_,F_,F_,F_,F_,F_,F_,F_,F_,F_,F_] rfl rfl (any_of HT_.out (by kernel_rfl)) (fun _ _ _ h => h) (Or.inl ⟨by rfl, ?_⟩) ?_ ?_
            rotate_left
            ·intro w'
             go_simp
             with_reducible rfl
            rotate_left
            ·simp only [Act.put, List.setIfInBounds_toArray, List.set_cons_zero, List.set_cons_succ, i64_w, i32_w]
             rfl
            refine pure_ (i := 8) (N := some 42) (v := ?_) (a' := ?_) #[T_,T_,T_,F_,F_,T_,T_,T_,T_,F_,F_,F_,F_,F_,F_,F_,F_,F_,F_] rfl rfl (any_of HT_.out (by kernel_rfl)) (fun _ _ _ h => h) (Or.inl ⟨by rfl, ?_⟩) ?_ ?_
            rotate_left
            ·intro w'
             go_simp
             with_reducible rfl
            rotate_left
            ·simp only [Act.put, List.setIfInBounds_toArray, List.set_cons_zero, List.set_cons_succ, i64_w, i32_w]
             rfl
            refine pure_ (i := 11) (N := some 45) (v := ?_) (a' := ?_) #[T_,T_,T_,F_,F_,T_,T_,T_,T_,F_,F_,T_,F_,F_,F_,F_,F_,F_,F_] rfl rfl (any_of HT_.out (by kernel_rfl)) (fun _ _ _ h => h) (Or.inl ⟨by rfl, ?_⟩) ?_ ?_
            rotate_left
            ·intro w'
             go_simp
             with_reducible rfl
            rotate_left
            ·simp only [Act.put, List.setIfInBounds_toArray, List.set_cons_zero, List.set_cons_succ, i64_w, i32_w]
             rfl
            refine pure_ (i := 12) (N := some 46) (v := ?_) (a' := ?_) #[T_,T_,T_,F_,F_,T_,T_,T_,T_,F_,F_,T_,T_,F_,F_,F_,F_,F_,F_] rfl rfl (any_of HT_.out (by kernel_rfl)) (fun _ _ _ h => h) (Or.inl ⟨by rfl, ?_⟩) ?_ ?_
            rotate_left
            ·intro w'
             go_simp
             with_reducible rfl
            rotate_left
            ·simp only [Act.put, List.setIfInBounds_toArray, List.set_cons_zero, List.set_cons_succ, i64_w, i32_w]
             rfl
            refine pure_ (i := 13) (N := some 47) (v := ?_) (a' := ?_) #[T_,T_,T_,F_,F_,T_,T_,T_,T_,F_,F_,T_,T_,T_,F_,F_,F_,F_,F_] rfl rfl (any_of HT_.out (by kernel_rfl)) (fun _ _ _ h => h) (Or.inl ⟨by rfl, ?_⟩) ?_ ?_
            rotate_left
            ·intro w'
             go_simp
             with_reducible rfl
            rotate_left
            ·simp only [Act.put, List.setIfInBounds_toArray, List.set_cons_zero, List.set_cons_succ, i64_w, i32_w]
             rfl
            refine inv_at [3, 4, 9, 10, 14, 15, 16, 17, 18] (fun a0_ b a w' => ∃ (gb3 : Nat) (gb9 : Nat) (gb14 : Nat) (m3_ : Value) (m9_ : Value) (m14_ : Value), a = putSel a0_ b [(3, 37, m3_), (4, 38, .int .u32 t109), (9, 43, m9_), (10, 44, .int .u32 t111), (14, 48, m14_), (15, 49, .int .u32 t113), (16, 9, .int .u32 t109), (17, 10, .int .u32 t111), (18, 11, .int .u32 t113)] ∧ (Below w56.heap.size w56 w') ∧ (b 3 = true → w'.cell? ⟨gb3, 0, none⟩ = some (.slice A0 N1_ c0)) ∧ (b 9 = true → w'.cell? ⟨gb9, 0, none⟩ = some (.slice A58 N2_ P2_)) ∧ (b 14 = true → w'.cell? ⟨gb14, 0, none⟩ = some (.slice A59 N3_ P3_)) ∧ (b 3 = true → (m3_ : Value) = .slice (some ⟨gb3, 0, none⟩) 1 1) ∧ (b 9 = true → (m9_ : Value) = .slice (some ⟨gb9, 0, none⟩) 1 1) ∧ (b 14 = true → (m14_ : Value) = .slice (some ⟨gb14, 0, none⟩) 1 1)) HT_.out HW_.out (by kernel_rfl) (by kernel_rfl) ?_ ?_ ?_
            ·exact ⟨0, 0, 0, .bool false, .bool false, .bool false, by simp only [putSel, Bool.false_eq_true, if_false], Below.refl _ _, fun h_ => absurd h_ (by decide), fun h_ => absurd h_ (by decide), fun h_ => absurd h_ (by decide), fun h_ => absurd h_ (by decide), fun h_ => absurd h_ (by decide), fun h_ => absurd h_ (by decide)⟩
            ·skip
             clear HBW
             refine steps_cons ?_ ?_
             ·rintro b a w' ⟨gb3, gb9, gb14, m3_, m9_, m14_, ha, Q_HBW, Q_HL3, Q_HL9, Q_HL14, Q_X3_, Q_X9_, Q_X14_⟩ hb_ hon hoff
              refine ⟨_, rfl, fun K hK => ?_⟩
              have e36 : a.tmps[36]? = some (.slice A0 N1_ c0) := by rw [ha]; exact (putSel_off rfl).trans rfl
              replace ha := Aside0.mk ha
              have HBW := Aside0.mk Q_HBW
              refine value_ (w1 := w'.alloc (.cells #[.slice A0 N1_ c0] 24 (0, 0))) (v := .slice (some ⟨w'.heap.size, 0, none⟩) 1 1) (by rfl) rfl ?_ ?_
              ·go_simp
               try rfl
              refine hK.out _ _ ⟨w'.heap.size, gb9, gb14, (.slice (some ⟨w'.heap.size, 0, none⟩) 1 1), m9_, m14_, (by rw [ha.out]; exact putSel_upk 0 hb_ rfl rfl rfl), below_alloc HBW.out _, fun _ => by simp, fun h0_ => pw_cell_below (below_alloc (Below.refl _ _) _) (Q_HL9 h0_), fun h0_ => pw_cell_below (below_alloc (Below.refl _ _) _) (Q_HL14 h0_), fun _ => rfl, Q_X9_, Q_X14_⟩
             refine steps_cons ?_ ?_
             ·rintro b a w' ⟨gb3, gb9, gb14, m3_, m9_, m14_, ha, Q_HBW, Q_HL3, Q_HL9, Q_HL14, Q_X3_, Q_X9_, Q_X14_⟩ hb_ hon hoff
              refine ⟨_, rfl, fun K hK => ?_⟩
              have e37 : a.tmps[37]? = some (m3_) := by rw [ha]; exact putSel_on (e := (3, 37, m3_)) 0 rfl rfl (hon 3 (by kernel_rfl)) rfl
              rw [Q_X3_ (hon 3 (by kernel_rfl))] at e37
              replace ha := Aside0.mk ha
              have HBW := Aside0.mk Q_HBW
              have HL3 := Aside0.mk (Q_HL3 (hon 3 (by kernel_rfl)))
              refine goes_ Tryd.func11 (by kernel_rfl) rfl #[.slice (some ⟨gb3, 0, none⟩) 1 1] (by rfl) rfl rfl (by first | (simp only [List.map_toArray, List.map_cons, List.map_nil, Act.eval, Array.getD_eq_getD_getElem?, Option.getD_some, e37]; done) | (simp only [List.map_toArray, List.map_cons, List.map_nil, Act.eval, Array.getD_eq_getD_getElem?, Option.getD_some, e37]; rfl)) ?_
              with_reducible refine (crc_Of.oneV ⟨gb3, 0, none⟩ N1_ c0 A0 (l0.take (ji9 : Int).toNat) t109 w' (GT.below WG5.out HBW.out) HL3.out (Kd.C_below CN15.out HBW.out) HC108.out HN1.out K1.out).mono ?_
              rintro e w3_ ⟨rfl, hw_⟩
              subst hw_
              refine ⟨_, rfl, ?_⟩
              refine hK.out _ _ ⟨gb3, gb9, gb14, m3_, m9_, m14_, (by rw [ha.out]; exact putSel_upk 1 hb_ rfl rfl rfl), HBW.out, fun _ => HL3.out, fun h0_ => (Q_HL9 h0_), fun h0_ => (Q_HL14 h0_), Q_X3_, Q_X9_, Q_X14_⟩
             refine steps_cons ?_ ?_
             ·rintro b a w' ⟨gb3, gb9, gb14, m3_, m9_, m14_, ha, Q_HBW, Q_HL3, Q_HL9, Q_HL14, Q_X3_, Q_X9_, Q_X14_⟩ hb_ hon hoff
              refine ⟨_, rfl, fun K hK => ?_⟩
              have e42 : a.tmps[42]? = some (.slice A58 N2_ P2_) := by rw [ha]; exact (putSel_off rfl).trans rfl
              replace ha := Aside0.mk ha
              have HBW := Aside0.mk Q_HBW
              refine value_ (w1 := w'.alloc (.cells #[.slice A58 N2_ P2_] 24 (0, 0))) (v := .slice (some ⟨w'.heap.size, 0, none⟩) 1 1) (by rfl) rfl ?_ ?_
              ·go_simp
               try rfl
              refine hK.out _ _ ⟨gb3, w'.heap.size, gb14, m3_, (.slice (some ⟨w'.heap.size, 0, none⟩) 1 1), m14_, (by rw [ha.out]; exact putSel_upk 2 hb_ rfl rfl rfl), below_alloc HBW.out _, fun h0_ => pw_cell_below (below_alloc (Below.refl _ _) _) (Q_HL3 h0_), fun _ => by simp, fun h0_ => pw_cell_below (below_alloc (Below.refl _ _) _) (Q_HL14 h0_), Q_X3_, fun _ => rfl, Q_X14_⟩
             refine steps_cons ?_ ?_
             ·rintro b a w' ⟨gb3, gb9, gb14, m3_, m9_, m14_, ha, Q_HBW, Q_HL3, Q_HL9, Q_HL14, Q_X3_, Q_X9_, Q_X14_⟩ hb_ hon hoff
              refine ⟨_, rfl, fun K hK => ?_⟩
              have e43 : a.tmps[43]? = some (m9_) := by rw [ha]; exact putSel_on (e := (9, 43, m9_)) 2 rfl rfl (hon 9 (by kernel_rfl)) rfl
              rw [Q_X9_ (hon 9 (by kernel_rfl))] at e43
              replace ha := Aside0.mk ha
              have HBW := Aside0.mk Q_HBW
              have HL3 := Aside0.mk (Q_HL3 (hon 3 (by kernel_rfl)))
              have HL9 := Aside0.mk (Q_HL9 (hon 9 (by kernel_rfl)))
              refine goes_ Tryd.func11 (by kernel_rfl) rfl #[.slice (some ⟨gb9, 0, none⟩) 1 1] (by rfl) rfl rfl (by first | (simp only [List.map_toArray, List.map_cons, List.map_nil, Act.eval, Array.getD_eq_getD_getElem?, Option.getD_some, e43]; done) | (simp only [List.map_toArray, List.map_cons, List.map_nil, Act.eval, Array.getD_eq_getD_getElem?, Option.getD_some, e43]; rfl)) ?_
              with_reducible refine (crc_Of.oneV ⟨gb9, 0, none⟩ N2_ P2_ A58 ((l0.take (ji17 : Int).toNat).drop (ji9 : Int).toNat) t111 w' (GT.below WG5.out HBW.out) HL9.out (Kd.C_below CN25.out HBW.out) HC110.out HN2.out K2.out).mono ?_
              rintro e w3_ ⟨rfl, hw_⟩
              subst hw_
              refine ⟨_, rfl, ?_⟩
              refine hK.out _ _ ⟨gb3, gb9, gb14, m3_, m9_, m14_, (by rw [ha.out]; exact putSel_upk 3 hb_ rfl rfl rfl), HBW.out, fun _ => HL3.out, fun _ => HL9.out, fun h0_ => (Q_HL14 h0_), Q_X3_, Q_X9_, Q_X14_⟩
             refine steps_cons ?_ ?_
             ·rintro b a w' ⟨gb3, gb9, gb14, m3_, m9_, m14_, ha, Q_HBW, Q_HL3, Q_HL9, Q_HL14, Q_X3_, Q_X9_, Q_X14_⟩ hb_ hon hoff
              refine ⟨_, rfl, fun K hK => ?_⟩
              have e47 : a.tmps[47]? = some (.slice A59 N3_ P3_) := by rw [ha]; exact (putSel_off rfl).trans rfl
              replace ha := Aside0.mk ha
              have HBW := Aside0.mk Q_HBW
              refine value_ (w1 := w'.alloc (.cells #[.slice A59 N3_ P3_] 24 (0, 0))) (v := .slice (some ⟨w'.heap.size, 0, none⟩) 1 1) (by rfl) rfl ?_ ?_
              ·go_simp
               try rfl
              refine hK.out _ _ ⟨gb3, gb9, w'.heap.size, m3_, m9_, (.slice (some ⟨w'.heap.size, 0, none⟩) 1 1), (by rw [ha.out]; exact putSel_upk 4 hb_ rfl rfl rfl), below_alloc HBW.out _, fun h0_ => pw_cell_below (below_alloc (Below.refl _ _) _) (Q_HL3 h0_), fun h0_ => pw_cell_below (below_alloc (Below.refl _ _) _) (Q_HL9 h0_), fun _ => by simp, Q_X3_, Q_X9_, fun _ => rfl⟩
             refine steps_cons ?_ ?_
             ·rintro b a w' ⟨gb3, gb9, gb14, m3_, m9_, m14_, ha, Q_HBW, Q_HL3, Q_HL9, Q_HL14, Q_X3_, Q_X9_, Q_X14_⟩ hb_ hon hoff
              refine ⟨_, rfl, fun K hK => ?_⟩
              have e48 : a.tmps[48]? = some (m14_) := by rw [ha]; exact putSel_on (e := (14, 48, m14_)) 4 rfl rfl (hon 14 (by kernel_rfl)) rfl
              rw [Q_X14_ (hon 14 (by kernel_rfl))] at e48
              replace ha := Aside0.mk ha
              have HBW := Aside0.mk Q_HBW
              have HL3 := Aside0.mk (Q_HL3 (hon 3 (by kernel_rfl)))
              have HL9 := Aside0.mk (Q_HL9 (hon 9 (by kernel_rfl)))
              have HL14 := Aside0.mk (Q_HL14 (hon 14 (by kernel_rfl)))
              refine goes_ Tryd.func11 (by kernel_rfl) rfl #[.slice (some ⟨gb14, 0, none⟩) 1 1] (by rfl) rfl rfl (by first | (simp only [List.map_toArray, List.map_cons, List.map_nil, Act.eval, Array.getD_eq_getD_getElem?, Option.getD_some, e48]; done) | (simp only [List.map_toArray, List.map_cons, List.map_nil, Act.eval, Array.getD_eq_getD_getElem?, Option.getD_some, e48]; rfl)) ?_
              with_reducible refine (crc_Of.oneV ⟨gb14, 0, none⟩ N3_ P3_ A59 (l0.drop (ji17 : Int).toNat) t113 w' (GT.below WG5.out HBW.out) HL14.out (Kd.C_below CN35.out HBW.out) HC112.out HN3.out K3.out).mono ?_
              rintro e w3_ ⟨rfl, hw_⟩
              subst hw_
              refine ⟨_, rfl, ?_⟩
              refine hK.out _ _ ⟨gb3, gb9, gb14, m3_, m9_, m14_, (by rw [ha.out]; exact putSel_upk 5 hb_ rfl rfl rfl), HBW.out, fun _ => HL3.out, fun _ => HL9.out, fun _ => HL14.out, Q_X3_, Q_X9_, Q_X14_⟩
             refine steps_cons ?_ ?_
             ·rintro b a w' ⟨gb3, gb9, gb14, m3_, m9_, m14_, ha, Q_HBW, Q_HL3, Q_HL9, Q_HL14, Q_X3_, Q_X9_, Q_X14_⟩ hb_ hon hoff
              refine ⟨_, rfl, fun K hK => ?_⟩
              have e38 : a.tmps[38]? = some (.int .u32 t109) := by rw [ha]; exact putSel_on (e := (4, 38, .int .u32 t109)) 1 rfl rfl (hon 4 (by kernel_rfl)) rfl
              replace ha := Aside0.mk ha
              have HBW := Aside0.mk Q_HBW
              have HL3 := Aside0.mk (Q_HL3 (hon 3 (by kernel_rfl)))
              have HL9 := Aside0.mk (Q_HL9 (hon 9 (by kernel_rfl)))
              have HL14 := Aside0.mk (Q_HL14 (hon 14 (by kernel_rfl)))
              refine value_ (w1 := w') (v := .int .u32 t109) (by rfl) rfl ?_ ?_
              ·go_simp
               (try simp only [i64_w])
               try rfl
              refine hK.out _ _ ⟨gb3, gb9, gb14, m3_, m9_, m14_, (by rw [ha.out]; exact putSel_upk 6 hb_ rfl rfl rfl), Q_HBW, Q_HL3, Q_HL9, Q_HL14, Q_X3_, Q_X9_, Q_X14_⟩
             refine steps_cons ?_ ?_
             ·rintro b a w' ⟨gb3, gb9, gb14, m3_, m9_, m14_, ha, Q_HBW, Q_HL3, Q_HL9, Q_HL14, Q_X3_, Q_X9_, Q_X14_⟩ hb_ hon hoff
              refine ⟨_, rfl, fun K hK => ?_⟩
              have e44 : a.tmps[44]? = some (.int .u32 t111) := by rw [ha]; exact putSel_on (e := (10, 44, .int .u32 t111)) 3 rfl rfl (hon 10 (by kernel_rfl)) rfl
              replace ha := Aside0.mk ha
              have HBW := Aside0.mk Q_HBW
              have HL3 := Aside0.mk (Q_HL3 (hon 3 (by kernel_rfl)))
              have HL9 := Aside0.mk (Q_HL9 (hon 9 (by kernel_rfl)))
              have HL14 := Aside0.mk (Q_HL14 (hon 14 (by kernel_rfl)))
              refine value_ (w1 := w') (v := .int .u32 t111) (by rfl) rfl ?_ ?_
              ·go_simp
               (try simp only [i64_w])
               try rfl
              refine hK.out _ _ ⟨gb3, gb9, gb14, m3_, m9_, m14_, (by rw [ha.out]; exact putSel_upk 7 hb_ rfl rfl rfl), Q_HBW, Q_HL3, Q_HL9, Q_HL14, Q_X3_, Q_X9_, Q_X14_⟩
             refine steps_cons ?_ ?_
             ·rintro b a w' ⟨gb3, gb9, gb14, m3_, m9_, m14_, ha, Q_HBW, Q_HL3, Q_HL9, Q_HL14, Q_X3_, Q_X9_, Q_X14_⟩ hb_ hon hoff
              refine ⟨_, rfl, fun K hK => ?_⟩
              have e49 : a.tmps[49]? = some (.int .u32 t113) := by rw [ha]; exact putSel_on (e := (15, 49, .int .u32 t113)) 5 rfl rfl (hon 15 (by kernel_rfl)) rfl
              replace ha := Aside0.mk ha
              have HBW := Aside0.mk Q_HBW
              have HL3 := Aside0.mk (Q_HL3 (hon 3 (by kernel_rfl)))
              have HL9 := Aside0.mk (Q_HL9 (hon 9 (by kernel_rfl)))
              have HL14 := Aside0.mk (Q_HL14 (hon 14 (by kernel_rfl)))
              refine value_ (w1 := w') (v := .int .u32 t113) (by rfl) rfl ?_ ?_
              ·go_simp
               (try simp only [i64_w])
               try rfl
              refine hK.out _ _ ⟨gb3, gb9, gb14, m3_, m9_, m14_, (by rw [ha.out]; exact putSel_upk 8 hb_ rfl rfl rfl), Q_HBW, Q_HL3, Q_HL9, Q_HL14, Q_X3_, Q_X9_, Q_X14_⟩
             exact steps_nil
            ·rintro b a w' hall ⟨gb3, gb9, gb14, m3_, m9_, m14_, ha, Q_HBW, Q_HL3, Q_HL9, Q_HL14, Q_X3_, Q_X9_, Q_X14_⟩
             clear HBW
             have hb3_ := hall 3 (by kernel_rfl)
             have hb4_ := hall 4 (by kernel_rfl)
             have hb9_ := hall 9 (by kernel_rfl)
             have hb10_ := hall 10 (by kernel_rfl)
             have hb14_ := hall 14 (by kernel_rfl)
             have hb15_ := hall 15 (by kernel_rfl)
             have hb16_ := hall 16 (by kernel_rfl)
             have hb17_ := hall 17 (by kernel_rfl)
             have hb18_ := hall 18 (by kernel_rfl)
             subst ha
             obtain rfl := Q_X3_ hb3_
             obtain rfl := Q_X9_ hb9_
             obtain rfl := Q_X14_ hb14_
             simp only [putSel, hb3_, hb4_, hb9_, hb10_, hb14_, hb15_, hb16_, hb17_, hb18_, if_true, Act.put, List.setIfInBounds_toArray, List.set_cons_zero, List.set_cons_succ]
             have HBW := Aside0.mk Q_HBW
             clear Q_HBW
             have HL3 := Aside0.mk (Q_HL3 hb3_)
             clear Q_HL3
             have HL9 := Aside0.mk (Q_HL9 hb9_)
             clear Q_HL9
             have HL14 := Aside0.mk (Q_HL14 hb14_)
             clear Q_HL14
             clear hall hb3_ hb4_ hb9_ hb10_ hb14_ hb15_ hb16_ hb17_ hb18_
             have n0_ := Aside0.mk (below_step HB.out HBW.out)
             clear HB
             clear HBW
             have HB := n0_
             clear n0_
             try go_wp2_with (first | ((with_reducible refine gate_callee (f := 17) rfl ?_); refine goesL_ (some 55) rfl rfl Tryd.func17 (by kernel_rfl) rfl #[.int .u32 t109, .int .u32 t111, .int .i64 (wrap64 ((ji17) - (ji9)))] rfl (by (try simp only [List.map_toArray, List.map_cons, List.map_nil]); first | done | (simp only [hji17, hji9]; rfl) | rfl | (simp only [List.length_drop, List.length_take]; rfl) | (simp; done) | (simp; (repeat' apply And.intro) <;> rfl)) ?_; (with_reducible refine (crc_Join.calls t109 t111 (wrap64 ((ji17) - (ji9))) t114 _ A21.out).mono ?_); rintro e w63 ⟨rfl, hb⟩; refine ⟨_, rfl, ?_⟩; have n0_ := Aside0.mk (below_step (by repeat (first | (with_reducible first | exact HB.out | apply below_alloc | apply pw_below_drewN | apply below_drew1) | exact HB.out)) hb); clear HB; have HB := n0_; clear n0_; (try clear hb); (try clear hb2); (try clear hk); (try clear hi)) | ((with_reducible refine gate_callee (f := 17) rfl ?_); refine goesL_ (some 61) rfl rfl Tryd.func17 (by kernel_rfl) rfl #[.int .u32 t114, .int .u32 t113, .int .i64 (wrap64 ((l0.length : Int) - (ji17)))] rfl (by (try simp only [List.map_toArray, List.map_cons, List.map_nil]); first | done | (simp only [hji17]; rfl) | rfl | (simp only [List.length_drop, List.length_take]; rfl) | (simp; done) | (simp; (repeat' apply And.intro) <;> rfl)) ?_; (with_reducible refine (crc_Join.calls t114 t113 (wrap64 ((l0.length : Int) - (ji17))) t115 _ A22.out).mono ?_); rintro e w64 ⟨rfl, hb⟩; refine ⟨_, rfl, ?_⟩; have n0_ := Aside0.mk (below_step (by repeat (first | (with_reducible first | exact HB.out | apply below_alloc | apply pw_below_drewN | apply below_drew1) | exact HB.out)) hb); clear HB; have HB := n0_; clear n0_; (try clear hb); (try clear hb2); (try clear hk); (try clear hi)) | ((with_reducible refine gate_callee (f := 17) rfl ?_); refine goesL_ (some 69) rfl rfl Tryd.func17 (by kernel_rfl) rfl #[.int .u32 t111, .int .u32 t113, .int .i64 (wrap64 ((l0.length : Int) - (ji17)))] rfl (by (try simp only [List.map_toArray, List.map_cons, List.map_nil]); first | done | (simp only [hji17]; rfl) | rfl | (simp only [List.length_drop, List.length_take]; rfl) | (simp; done) | (simp; (repeat' apply And.intro) <;> rfl)) ?_; (with_reducible refine (crc_Join.calls t111 t113 (wrap64 ((l0.length : Int) - (ji17))) t116 _ A23.out).mono ?_); rintro e w65 ⟨rfl, hb⟩; refine ⟨_, rfl, ?_⟩; have n0_ := Aside0.mk (below_step (by repeat (first | (with_reducible first | exact HB.out | apply below_alloc | apply pw_below_drewN | apply below_drew1) | exact HB.out)) hb); clear HB; have HB := n0_; clear n0_; (try clear hb); (try clear hb2); (try clear hk); (try clear hi)) | ((with_reducible refine gate_callee (f := 17) rfl ?_); refine goesL_ (some 74) rfl rfl Tryd.func17 (by kernel_rfl) rfl #[.int .u32 t109, .int .u32 t116, .int .i64 (wrap64 ((l0.length : Int) - (ji9)))] rfl (by (try simp only [List.map_toArray, List.map_cons, List.map_nil]); first | done | (simp only [hji9]; rfl) | rfl | (simp only [List.length_drop, List.length_take]; rfl) | (simp; done) | (simp; (repeat' apply And.intro) <;> rfl)) ?_; (with_reducible refine (crc_Join.calls t109 t116 (wrap64 ((l0.length : Int) - (ji9))) t117 _ A24.out).mono ?_); rintro e w66 ⟨rfl, hb⟩; refine ⟨_, rfl, ?_⟩; have n0_ := Aside0.mk (below_step (by repeat (first | (with_reducible first | exact HB.out | apply below_alloc | apply pw_below_drewN | apply below_drew1) | exact HB.out)) hb); clear HB; have HB := n0_; clear n0_; (try clear hb); (try clear hb2); (try clear hk); (try clear hi)))
             have n0_ := Aside0.mk (below_drew1 HB.out)
             clear HB
             have HB := n0_
             clear n0_
             have CN18 := Aside0.mk (show Kd.C (Kd.int .u8) (w66.drew) A0 N1_ (l0.take (ji9 : Int).toNat) from Kd.C_below HR108.out HB.out)
             have CN28 := Aside0.mk (show Kd.C (Kd.int .u8) (w66.drew) A58 N2_ ((l0.take (ji17 : Int).toNat).drop (ji9 : Int).toNat) from Kd.C_below HR110.out HB.out)
             have CN38 := Aside0.mk (show Kd.C (Kd.int .u8) (w66.drew) A59 N3_ (l0.drop (ji17 : Int).toNat) from Kd.C_below HR112.out HB.out)
             have CN08 := Aside0.mk (show Kd.C (Kd.int .u8) (w66.drew) A0 l0.length l0 from Kd.C_below HR0.out HB.out)
             have HN0 : Aside0 (l0.length = l0.length) := ⟨rfl⟩
             have WG8 := Aside0.mk (GT.below HG.out HB.out)
             have K4 := Aside0.mk (Option.some.inj A35.out)
             refine start_ (n := 30) (S := fun w' => True) (ds := []) #[F_,F_,F_,F_,F_,F_,F_,F_,F_,F_,F_,F_,F_,F_,F_,F_,F_,F_,F_,F_,F_,F_,F_,F_,F_,F_,F_,F_,F_,F_] (by kernel_rfl) rfl rfl trivial (fun hHeld => ?_)
             have HBW := True.intro
             refine with_tabW remoralaw02_CrcParts.tab8 remoralaw02_CrcParts.bits8 (fun HT_ HW_ => ?_)
             generalize w66.drew = w67 at HB CN08 CN18 CN28 CN38 WG8 hHeld ⊢
             refine pure_ (i := 0) (N := some 75) (v := ?_) (a' := ?_) #[T_,F_,F_,F_,F_,F_,F_,F_,F_,F_,F_,F_,F_,F_,F_,F_,F_,F_,F_,F_,F_,F_,F_,F_,F_,F_,F_,F_,F_,F_] rfl rfl (any_of HT_.out (by kernel_rfl)) (fun _ _ _ h => h) (Or.inl ⟨by rfl, ?_⟩) ?_ ?_
             rotate_left
             ·intro w'
              go_simp
              with_reducible rfl
             rotate_left
             ·simp only [Act.put, List.setIfInBounds_toArray, List.set_cons_zero, List.set_cons_succ, i64_w, i32_w]
              rfl
             refine pure_ (i := 1) (N := some 76) (v := ?_) (a' := ?_) #[T_,T_,F_,F_,F_,F_,F_,F_,F_,F_,F_,F_,F_,F_,F_,F_,F_,F_,F_,F_,F_,F_,F_,F_,F_,F_,F_,F_,F_,F_] rfl rfl (any_of HT_.out (by kernel_rfl)) (fun _ _ _ h => h) (Or.inl ⟨by rfl, ?_⟩) ?_ ?_
             rotate_left
             ·intro w'
              go_simp
              with_reducible rfl
             rotate_left
             ·simp only [Act.put, List.setIfInBounds_toArray, List.set_cons_zero, List.set_cons_succ, i64_w, i32_w]
              rfl
             refine inv_at [2, 3, 4, 5, 6, 7, 8, 9, 10, 11, 12, 13, 14, 15, 16, 17, 18, 19, 20, 21, 22, 23, 24, 25, 26, 27, 28, 29] (fun a0_ b a w' => ∃ (gb2 : Nat) (gb21 : Nat) (m2_ : Value) (m21_ : Value), a = putSel a0_ b [(2, 77, m2_), (3, 78, .int .u32 t118), (4, 79, .bool true), (5, 80, .bool true), (6, 81, .int .u32 t117), (7, 82, .int .u32 t115), (8, 83, .bool true), (9, 84, .bool true), (10, 85, .bool true), (11, 86, .slice A0 l0.length c0), (12, 87, .int .i64 ji9), (13, 88, .slice A0 N1_ c0), (14, 89, .slice A0 l0.length c0), (15, 90, .int .i64 ji9), (16, 91, .int .i64 ji17), (17, 92, .slice A58 N2_ P2_), (18, 93, .slice A0 l0.length c0), (19, 94, .int .i64 ji17), (20, 95, .slice A59 N3_ P3_), (21, 96, m21_), (22, 97, .int .u32 t122), (23, 98, .int .u32 t115), (24, 99, .bool false), (25, 100, .bool false), (26, 101, .bool false), (27, 102, undef), (28, 103, .bool false), (29, 6, .bool false)] ∧ (Below w67.heap.size w67 w') ∧ (b 2 = true → w'.cell? ⟨gb2, 0, none⟩ = some (.slice A0 l0.length c0)) ∧ (b 21 = true → w'.cell? ⟨gb21, 0, none⟩ = some (.slice A0 N1_ c0) ∧ w'.cell? ⟨gb21, 1, none⟩ = some (.slice A58 N2_ P2_) ∧ w'.cell? ⟨gb21, 2, none⟩ = some (.slice A59 N3_ P3_)) ∧ (b 2 = true → (m2_ : Value) = .slice (some ⟨gb2, 0, none⟩) 1 1) ∧ (b 21 = true → (m21_ : Value) = .slice (some ⟨gb21, 0, none⟩) 3 3)) HT_.out HW_.out (by kernel_rfl) (by kernel_rfl) ?_ ?_ ?_
             ·exact ⟨0, 0, .bool false, .bool false, by simp only [putSel, Bool.false_eq_true, if_false], Below.refl _ _, fun h_ => absurd h_ (by decide), fun h_ => absurd h_ (by decide), fun h_ => absurd h_ (by decide), fun h_ => absurd h_ (by decide)⟩
             ·skip
              clear HBW
              refine steps_cons ?_ ?_
              ·rintro b a w' ⟨gb2, gb21, m2_, m21_, ha, Q_HBW, Q_HL2, Q_HL21, Q_X2_, Q_X21_⟩ hb_ hon hoff
               refine ⟨_, rfl, fun K hK => ?_⟩
               have e76 : a.tmps[76]? = some (.slice A0 l0.length c0) := by rw [ha]; exact (putSel_off rfl).trans rfl
               replace ha := Aside0.mk ha
               have HBW := Aside0.mk Q_HBW
               refine value_ (w1 := w'.alloc (.cells #[.slice A0 l0.length c0] 24 (0, 0))) (v := .slice (some ⟨w'.heap.size, 0, none⟩) 1 1) (by rfl) rfl ?_ ?_
               ·go_simp
                try rfl
               refine hK.out _ _ ⟨w'.heap.size, gb21, (.slice (some ⟨w'.heap.size, 0, none⟩) 1 1), m21_, (by rw [ha.out]; exact putSel_upk 0 hb_ rfl rfl rfl), below_alloc HBW.out _, fun _ => by simp, fun h0_ => absurd ((hoff 21 (by kernel_rfl)).symm.trans h0_) (by decide), fun _ => rfl, fun h0_ => absurd ((hoff 21 (by kernel_rfl)).symm.trans h0_) (by decide)⟩
              refine steps_cons ?_ ?_
              ·rintro b a w' ⟨gb2, gb21, m2_, m21_, ha, Q_HBW, Q_HL2, Q_HL21, Q_X2_, Q_X21_⟩ hb_ hon hoff
               refine ⟨_, rfl, fun K hK => ?_⟩
               have e77 : a.tmps[77]? = some (m2_) := by rw [ha]; exact putSel_on (e := (2, 77, m2_)) 0 rfl rfl (hon 2 (by kernel_rfl)) rfl
               rw [Q_X2_ (hon 2 (by kernel_rfl))] at e77
               replace ha := Aside0.mk ha
               have HBW := Aside0.mk Q_HBW
               have HL2 := Aside0.mk (Q_HL2 (hon 2 (by kernel_rfl)))
               refine goes_ Tryd.func11 (by kernel_rfl) rfl #[.slice (some ⟨gb2, 0, none⟩) 1 1] (by rfl) rfl rfl (by first | (simp only [List.map_toArray, List.map_cons, List.map_nil, Act.eval, Array.getD_eq_getD_getElem?, Option.getD_some, e77]; done) | (simp only [List.map_toArray, List.map_cons, List.map_nil, Act.eval, Array.getD_eq_getD_getElem?, Option.getD_some, e77]; rfl)) ?_
               with_reducible refine (crc_Of.oneV ⟨gb2, 0, none⟩ l0.length c0 A0 l0 t118 w' (GT.below WG8.out HBW.out) HL2.out (Kd.C_below CN08.out HBW.out) HC0.out HN0.out K0.out).mono ?_
               rintro e w3_ ⟨rfl, hw_⟩
               subst hw_
               refine ⟨_, rfl, ?_⟩
               refine hK.out _ _ ⟨gb2, gb21, m2_, m21_, (by rw [ha.out]; exact putSel_upk 1 hb_ rfl rfl rfl), HBW.out, fun _ => HL2.out, fun h0_ => absurd ((hoff 21 (by kernel_rfl)).symm.trans h0_) (by decide), Q_X2_, fun h0_ => absurd ((hoff 21 (by kernel_rfl)).symm.trans h0_) (by decide)⟩
              refine steps_cons ?_ ?_
              ·rintro b a w' ⟨gb2, gb21, m2_, m21_, ha, Q_HBW, Q_HL2, Q_HL21, Q_X2_, Q_X21_⟩ hb_ hon hoff
               refine ⟨_, rfl, fun K hK => ?_⟩
               have e75 : a.tmps[75]? = some (.int .u32 t115) := by rw [ha]; exact (putSel_off rfl).trans rfl
               have e78 : a.tmps[78]? = some (.int .u32 t118) := by rw [ha]; exact putSel_on (e := (3, 78, .int .u32 t118)) 1 rfl rfl (hon 3 (by kernel_rfl)) rfl
               replace ha := Aside0.mk ha
               have HBW := Aside0.mk Q_HBW
               have HL2 := Aside0.mk (Q_HL2 (hon 2 (by kernel_rfl)))
               refine value_ (w1 := w') (v := .bool true) (by rfl) rfl ?_ ?_
               ·go_simp
                (try simp only [i64_w])
                try rfl
               refine hK.out _ _ ⟨gb2, gb21, m2_, m21_, (by rw [ha.out]; exact putSel_upk 2 hb_ rfl rfl rfl), Q_HBW, Q_HL2, fun h0_ => absurd ((hoff 21 (by kernel_rfl)).symm.trans h0_) (by decide), Q_X2_, fun h0_ => absurd ((hoff 21 (by kernel_rfl)).symm.trans h0_) (by decide)⟩
              refine steps_cons ?_ ?_
              ·rintro b a w' ⟨gb2, gb21, m2_, m21_, ha, Q_HBW, Q_HL2, Q_HL21, Q_X2_, Q_X21_⟩ hb_ hon hoff
               refine ⟨_, rfl, fun K hK => ?_⟩
               have e79 : a.tmps[79]? = some (.bool true) := by rw [ha]; exact putSel_on (e := (4, 79, .bool true)) 2 rfl rfl (hon 4 (by kernel_rfl)) rfl
               replace ha := Aside0.mk ha
               have HBW := Aside0.mk Q_HBW
               have HL2 := Aside0.mk (Q_HL2 (hon 2 (by kernel_rfl)))
               refine value_ (w1 := w') (v := .bool true) (by rfl) rfl ?_ ?_
               ·go_simp
                (try simp only [i64_w])
                try rfl
               refine hK.out _ _ ⟨gb2, gb21, m2_, m21_, (by rw [ha.out]; exact putSel_upk 3 hb_ rfl rfl rfl), Q_HBW, Q_HL2, fun h0_ => absurd ((hoff 21 (by kernel_rfl)).symm.trans h0_) (by decide), Q_X2_, fun h0_ => absurd ((hoff 21 (by kernel_rfl)).symm.trans h0_) (by decide)⟩
              refine steps_cons ?_ ?_
              ·rintro b a w' ⟨gb2, gb21, m2_, m21_, ha, Q_HBW, Q_HL2, Q_HL21, Q_X2_, Q_X21_⟩ hb_ hon hoff
               refine ⟨_, rfl, fun K hK => ?_⟩
               have e13 : a.tmps[13]? = some (.int .u32 t117) := by rw [ha]; exact (putSel_off rfl).trans rfl
               have e80 : a.tmps[80]? = some (.bool true) := by rw [ha]; exact putSel_on (e := (5, 80, .bool true)) 3 rfl rfl (hon 5 (by kernel_rfl)) rfl
               replace ha := Aside0.mk ha
               have HBW := Aside0.mk Q_HBW
               have HL2 := Aside0.mk (Q_HL2 (hon 2 (by kernel_rfl)))
               refine value_ (w1 := w') (v := .int .u32 t117) (wanted_on rfl rfl rfl (e80.trans (by first | rfl | (simp [*]; done)))) rfl ?_ ?_
               ·go_simp
                (try simp only [i64_w])
                try rfl
               refine hK.out _ _ ⟨gb2, gb21, m2_, m21_, (by rw [ha.out]; exact putSel_upk 4 hb_ rfl rfl rfl), Q_HBW, Q_HL2, fun h0_ => absurd ((hoff 21 (by kernel_rfl)).symm.trans h0_) (by decide), Q_X2_, fun h0_ => absurd ((hoff 21 (by kernel_rfl)).symm.trans h0_) (by decide)⟩
              refine steps_cons ?_ ?_
              ·rintro b a w' ⟨gb2, gb21, m2_, m21_, ha, Q_HBW, Q_HL2, Q_HL21, Q_X2_, Q_X21_⟩ hb_ hon hoff
               refine ⟨_, rfl, fun K hK => ?_⟩
               have e12 : a.tmps[12]? = some (.int .u32 t115) := by rw [ha]; exact (putSel_off rfl).trans rfl
               have e80 : a.tmps[80]? = some (.bool true) := by rw [ha]; exact putSel_on (e := (5, 80, .bool true)) 3 rfl rfl (hon 5 (by kernel_rfl)) rfl
               replace ha := Aside0.mk ha
               have HBW := Aside0.mk Q_HBW
               have HL2 := Aside0.mk (Q_HL2 (hon 2 (by kernel_rfl)))
               refine value_ (w1 := w') (v := .int .u32 t115) (wanted_on rfl rfl rfl (e80.trans (by first | rfl | (simp [*]; done)))) rfl ?_ ?_
               ·go_simp
                (try simp only [i64_w])
                try rfl
               refine hK.out _ _ ⟨gb2, gb21, m2_, m21_, (by rw [ha.out]; exact putSel_upk 5 hb_ rfl rfl rfl), Q_HBW, Q_HL2, fun h0_ => absurd ((hoff 21 (by kernel_rfl)).symm.trans h0_) (by decide), Q_X2_, fun h0_ => absurd ((hoff 21 (by kernel_rfl)).symm.trans h0_) (by decide)⟩
              refine steps_cons ?_ ?_
              ·rintro b a w' ⟨gb2, gb21, m2_, m21_, ha, Q_HBW, Q_HL2, Q_HL21, Q_X2_, Q_X21_⟩ hb_ hon hoff
               refine ⟨_, rfl, fun K hK => ?_⟩
               have e81 : a.tmps[81]? = some (.int .u32 t117) := by rw [ha]; exact putSel_on (e := (6, 81, .int .u32 t117)) 4 rfl rfl (hon 6 (by kernel_rfl)) rfl
               have e82 : a.tmps[82]? = some (.int .u32 t115) := by rw [ha]; exact putSel_on (e := (7, 82, .int .u32 t115)) 5 rfl rfl (hon 7 (by kernel_rfl)) rfl
               have e80 : a.tmps[80]? = some (.bool true) := by rw [ha]; exact putSel_on (e := (5, 80, .bool true)) 3 rfl rfl (hon 5 (by kernel_rfl)) rfl
               replace ha := Aside0.mk ha
               have HBW := Aside0.mk Q_HBW
               have HL2 := Aside0.mk (Q_HL2 (hon 2 (by kernel_rfl)))
               refine value_ (w1 := w') (v := .bool true) (wanted_on rfl rfl rfl (e80.trans (by first | rfl | (simp [*]; done)))) rfl ?_ ?_
               ·go_simp
                (try simp only [i64_w])
                try rfl
               refine hK.out _ _ ⟨gb2, gb21, m2_, m21_, (by rw [ha.out]; exact putSel_upk 6 hb_ rfl rfl rfl), Q_HBW, Q_HL2, fun h0_ => absurd ((hoff 21 (by kernel_rfl)).symm.trans h0_) (by decide), Q_X2_, fun h0_ => absurd ((hoff 21 (by kernel_rfl)).symm.trans h0_) (by decide)⟩
              refine steps_cons ?_ ?_
              ·rintro b a w' ⟨gb2, gb21, m2_, m21_, ha, Q_HBW, Q_HL2, Q_HL21, Q_X2_, Q_X21_⟩ hb_ hon hoff
               refine ⟨_, rfl, fun K hK => ?_⟩
               have e80 : a.tmps[80]? = some (.bool true) := by rw [ha]; exact putSel_on (e := (5, 80, .bool true)) 3 rfl rfl (hon 5 (by kernel_rfl)) rfl
               have e83 : a.tmps[83]? = some (.bool true) := by rw [ha]; exact putSel_on (e := (8, 83, .bool true)) 6 rfl rfl (hon 8 (by kernel_rfl)) rfl
               replace ha := Aside0.mk ha
               have HBW := Aside0.mk Q_HBW
               have HL2 := Aside0.mk (Q_HL2 (hon 2 (by kernel_rfl)))
               refine value_ (w1 := w') (v := .bool true) (by rfl) rfl ?_ ?_
               ·go_simp
                (try simp only [i64_w])
                try rfl
               refine hK.out _ _ ⟨gb2, gb21, m2_, m21_, (by rw [ha.out]; exact putSel_upk 7 hb_ rfl rfl rfl), Q_HBW, Q_HL2, fun h0_ => absurd ((hoff 21 (by kernel_rfl)).symm.trans h0_) (by decide), Q_X2_, fun h0_ => absurd ((hoff 21 (by kernel_rfl)).symm.trans h0_) (by decide)⟩
              refine steps_cons ?_ ?_
              ·rintro b a w' ⟨gb2, gb21, m2_, m21_, ha, Q_HBW, Q_HL2, Q_HL21, Q_X2_, Q_X21_⟩ hb_ hon hoff
               refine ⟨_, rfl, fun K hK => ?_⟩
               have e84 : a.tmps[84]? = some (.bool true) := by rw [ha]; exact putSel_on (e := (9, 84, .bool true)) 7 rfl rfl (hon 9 (by kernel_rfl)) rfl
               replace ha := Aside0.mk ha
               have HBW := Aside0.mk Q_HBW
               have HL2 := Aside0.mk (Q_HL2 (hon 2 (by kernel_rfl)))
               refine value_ (w1 := w') (v := .bool true) (by rfl) rfl ?_ ?_
               ·go_simp
                (try simp only [i64_w])
                try rfl
               refine hK.out _ _ ⟨gb2, gb21, m2_, m21_, (by rw [ha.out]; exact putSel_upk 8 hb_ rfl rfl rfl), Q_HBW, Q_HL2, fun h0_ => absurd ((hoff 21 (by kernel_rfl)).symm.trans h0_) (by decide), Q_X2_, fun h0_ => absurd ((hoff 21 (by kernel_rfl)).symm.trans h0_) (by decide)⟩
              refine steps_cons ?_ ?_
              ·rintro b a w' ⟨gb2, gb21, m2_, m21_, ha, Q_HBW, Q_HL2, Q_HL21, Q_X2_, Q_X21_⟩ hb_ hon hoff
               refine ⟨_, rfl, fun K hK => ?_⟩
               have e0 : a.tmps[0]? = some (.slice A0 l0.length c0) := by rw [ha]; exact (putSel_off rfl).trans rfl
               have e85 : a.tmps[85]? = some (.bool true) := by rw [ha]; exact putSel_on (e := (10, 85, .bool true)) 8 rfl rfl (hon 10 (by kernel_rfl)) rfl
               replace ha := Aside0.mk ha
               have HBW := Aside0.mk Q_HBW
               have HL2 := Aside0.mk (Q_HL2 (hon 2 (by kernel_rfl)))
               refine value_ (w1 := w') (v := .slice A0 l0.length c0) (wanted_on rfl rfl rfl (e85.trans (by first | rfl | (simp [*]; done)))) rfl ?_ ?_
               ·go_simp
                (try simp only [i64_w])
                try rfl
               refine hK.out _ _ ⟨gb2, gb21, m2_, m21_, (by rw [ha.out]; exact putSel_upk 9 hb_ rfl rfl rfl), Q_HBW, Q_HL2, fun h0_ => absurd ((hoff 21 (by kernel_rfl)).symm.trans h0_) (by decide), Q_X2_, fun h0_ => absurd ((hoff 21 (by kernel_rfl)).symm.trans h0_) (by decide)⟩
              refine steps_cons ?_ ?_
              ·rintro b a w' ⟨gb2, gb21, m2_, m21_, ha, Q_HBW, Q_HL2, Q_HL21, Q_X2_, Q_X21_⟩ hb_ hon hoff
               refine ⟨_, rfl, fun K hK => ?_⟩
               have e7 : a.tmps[7]? = some (.int .i64 ji9) := by rw [ha]; exact (putSel_off rfl).trans rfl
               have e85 : a.tmps[85]? = some (.bool true) := by rw [ha]; exact putSel_on (e := (10, 85, .bool true)) 8 rfl rfl (hon 10 (by kernel_rfl)) rfl
               replace ha := Aside0.mk ha
               have HBW := Aside0.mk Q_HBW
               have HL2 := Aside0.mk (Q_HL2 (hon 2 (by kernel_rfl)))
               refine value_ (w1 := w') (v := .int .i64 ji9) (wanted_on rfl rfl rfl (e85.trans (by first | rfl | (simp [*]; done)))) rfl ?_ ?_
               ·go_simp
                (try simp only [i64_w])
                try rfl
               refine hK.out _ _ ⟨gb2, gb21, m2_, m21_, (by rw [ha.out]; exact putSel_upk 10 hb_ rfl rfl rfl), Q_HBW, Q_HL2, fun h0_ => absurd ((hoff 21 (by kernel_rfl)).symm.trans h0_) (by decide), Q_X2_, fun h0_ => absurd ((hoff 21 (by kernel_rfl)).symm.trans h0_) (by decide)⟩
              refine steps_cons ?_ ?_
              ·rintro b a w' ⟨gb2, gb21, m2_, m21_, ha, Q_HBW, Q_HL2, Q_HL21, Q_X2_, Q_X21_⟩ hb_ hon hoff
               refine ⟨_, rfl, fun K hK => ?_⟩
               have e86 : a.tmps[86]? = some (.slice A0 l0.length c0) := by rw [ha]; exact putSel_on (e := (11, 86, .slice A0 l0.length c0)) 9 rfl rfl (hon 11 (by kernel_rfl)) rfl
               have e87 : a.tmps[87]? = some (.int .i64 ji9) := by rw [ha]; exact putSel_on (e := (12, 87, .int .i64 ji9)) 10 rfl rfl (hon 12 (by kernel_rfl)) rfl
               have e85 : a.tmps[85]? = some (.bool true) := by rw [ha]; exact putSel_on (e := (10, 85, .bool true)) 8 rfl rfl (hon 10 (by kernel_rfl)) rfl
               replace ha := Aside0.mk ha
               have HBW := Aside0.mk Q_HBW
               have HL2 := Aside0.mk (Q_HL2 (hon 2 (by kernel_rfl)))
               refine value_ (w1 := w') (v := .slice A0 N1_ c0) (wanted_on rfl rfl rfl (e85.trans (by first | rfl | (simp [*]; done)))) rfl ?_ ?_
               ·go_simp
                (try simp only [i64_w])
                try rfl
               refine hK.out _ _ ⟨gb2, gb21, m2_, m21_, (by rw [ha.out]; exact putSel_upk 11 hb_ rfl rfl rfl), Q_HBW, Q_HL2, fun h0_ => absurd ((hoff 21 (by kernel_rfl)).symm.trans h0_) (by decide), Q_X2_, fun h0_ => absurd ((hoff 21 (by kernel_rfl)).symm.trans h0_) (by decide)⟩
              refine steps_cons ?_ ?_
              ·rintro b a w' ⟨gb2, gb21, m2_, m21_, ha, Q_HBW, Q_HL2, Q_HL21, Q_X2_, Q_X21_⟩ hb_ hon hoff
               refine ⟨_, rfl, fun K hK => ?_⟩
               have e0 : a.tmps[0]? = some (.slice A0 l0.length c0) := by rw [ha]; exact (putSel_off rfl).trans rfl
               have e85 : a.tmps[85]? = some (.bool true) := by rw [ha]; exact putSel_on (e := (10, 85, .bool true)) 8 rfl rfl (hon 10 (by kernel_rfl)) rfl
               replace ha := Aside0.mk ha
               have HBW := Aside0.mk Q_HBW
               have HL2 := Aside0.mk (Q_HL2 (hon 2 (by kernel_rfl)))
               refine value_ (w1 := w') (v := .slice A0 l0.length c0) (wanted_on rfl rfl rfl (e85.trans (by first | rfl | (simp [*]; done)))) rfl ?_ ?_
               ·go_simp
                (try simp only [i64_w])
                try rfl
               refine hK.out _ _ ⟨gb2, gb21, m2_, m21_, (by rw [ha.out]; exact putSel_upk 12 hb_ rfl rfl rfl), Q_HBW, Q_HL2, fun h0_ => absurd ((hoff 21 (by kernel_rfl)).symm.trans h0_) (by decide), Q_X2_, fun h0_ => absurd ((hoff 21 (by kernel_rfl)).symm.trans h0_) (by decide)⟩
              refine steps_cons ?_ ?_
              ·rintro b a w' ⟨gb2, gb21, m2_, m21_, ha, Q_HBW, Q_HL2, Q_HL21, Q_X2_, Q_X21_⟩ hb_ hon hoff
               refine ⟨_, rfl, fun K hK => ?_⟩
               have e7 : a.tmps[7]? = some (.int .i64 ji9) := by rw [ha]; exact (putSel_off rfl).trans rfl
               have e85 : a.tmps[85]? = some (.bool true) := by rw [ha]; exact putSel_on (e := (10, 85, .bool true)) 8 rfl rfl (hon 10 (by kernel_rfl)) rfl
               replace ha := Aside0.mk ha
               have HBW := Aside0.mk Q_HBW
               have HL2 := Aside0.mk (Q_HL2 (hon 2 (by kernel_rfl)))
               refine value_ (w1 := w') (v := .int .i64 ji9) (wanted_on rfl rfl rfl (e85.trans (by first | rfl | (simp [*]; done)))) rfl ?_ ?_
               ·go_simp
                (try simp only [i64_w])
                try rfl
               refine hK.out _ _ ⟨gb2, gb21, m2_, m21_, (by rw [ha.out]; exact putSel_upk 13 hb_ rfl rfl rfl), Q_HBW, Q_HL2, fun h0_ => absurd ((hoff 21 (by kernel_rfl)).symm.trans h0_) (by decide), Q_X2_, fun h0_ => absurd ((hoff 21 (by kernel_rfl)).symm.trans h0_) (by decide)⟩
              refine steps_cons ?_ ?_
              ·rintro b a w' ⟨gb2, gb21, m2_, m21_, ha, Q_HBW, Q_HL2, Q_HL21, Q_X2_, Q_X21_⟩ hb_ hon hoff
               refine ⟨_, rfl, fun K hK => ?_⟩
               have e8 : a.tmps[8]? = some (.int .i64 ji17) := by rw [ha]; exact (putSel_off rfl).trans rfl
               have e85 : a.tmps[85]? = some (.bool true) := by rw [ha]; exact putSel_on (e := (10, 85, .bool true)) 8 rfl rfl (hon 10 (by kernel_rfl)) rfl
               replace ha := Aside0.mk ha
               have HBW := Aside0.mk Q_HBW
               have HL2 := Aside0.mk (Q_HL2 (hon 2 (by kernel_rfl)))
               refine value_ (w1 := w') (v := .int .i64 ji17) (wanted_on rfl rfl rfl (e85.trans (by first | rfl | (simp [*]; done)))) rfl ?_ ?_
               ·go_simp
                (try simp only [i64_w])
                try rfl
               refine hK.out _ _ ⟨gb2, gb21, m2_, m21_, (by rw [ha.out]; exact putSel_upk 14 hb_ rfl rfl rfl), Q_HBW, Q_HL2, fun h0_ => absurd ((hoff 21 (by kernel_rfl)).symm.trans h0_) (by decide), Q_X2_, fun h0_ => absurd ((hoff 21 (by kernel_rfl)).symm.trans h0_) (by decide)⟩
              refine steps_cons ?_ ?_
              ·rintro b a w' ⟨gb2, gb21, m2_, m21_, ha, Q_HBW, Q_HL2, Q_HL21, Q_X2_, Q_X21_⟩ hb_ hon hoff
               refine ⟨_, rfl, fun K hK => ?_⟩
               have e89 : a.tmps[89]? = some (.slice A0 l0.length c0) := by rw [ha]; exact putSel_on (e := (14, 89, .slice A0 l0.length c0)) 12 rfl rfl (hon 14 (by kernel_rfl)) rfl
               have e90 : a.tmps[90]? = some (.int .i64 ji9) := by rw [ha]; exact putSel_on (e := (15, 90, .int .i64 ji9)) 13 rfl rfl (hon 15 (by kernel_rfl)) rfl
               have e91 : a.tmps[91]? = some (.int .i64 ji17) := by rw [ha]; exact putSel_on (e := (16, 91, .int .i64 ji17)) 14 rfl rfl (hon 16 (by kernel_rfl)) rfl
               have e85 : a.tmps[85]? = some (.bool true) := by rw [ha]; exact putSel_on (e := (10, 85, .bool true)) 8 rfl rfl (hon 10 (by kernel_rfl)) rfl
               replace ha := Aside0.mk ha
               have HBW := Aside0.mk Q_HBW
               have HL2 := Aside0.mk (Q_HL2 (hon 2 (by kernel_rfl)))
               refine value_ (w1 := w') (v := .slice A58 N2_ P2_) (wanted_on rfl rfl rfl (e85.trans (by first | rfl | (simp [*]; done)))) rfl ?_ ?_
               ·go_simp
                (try simp only [i64_w])
                try rfl
               refine hK.out _ _ ⟨gb2, gb21, m2_, m21_, (by rw [ha.out]; exact putSel_upk 15 hb_ rfl rfl rfl), Q_HBW, Q_HL2, fun h0_ => absurd ((hoff 21 (by kernel_rfl)).symm.trans h0_) (by decide), Q_X2_, fun h0_ => absurd ((hoff 21 (by kernel_rfl)).symm.trans h0_) (by decide)⟩
              refine steps_cons ?_ ?_
              ·rintro b a w' ⟨gb2, gb21, m2_, m21_, ha, Q_HBW, Q_HL2, Q_HL21, Q_X2_, Q_X21_⟩ hb_ hon hoff
               refine ⟨_, rfl, fun K hK => ?_⟩
               have e0 : a.tmps[0]? = some (.slice A0 l0.length c0) := by rw [ha]; exact (putSel_off rfl).trans rfl
               have e85 : a.tmps[85]? = some (.bool true) := by rw [ha]; exact putSel_on (e := (10, 85, .bool true)) 8 rfl rfl (hon 10 (by kernel_rfl)) rfl
               replace ha := Aside0.mk ha
               have HBW := Aside0.mk Q_HBW
               have HL2 := Aside0.mk (Q_HL2 (hon 2 (by kernel_rfl)))
               refine value_ (w1 := w') (v := .slice A0 l0.length c0) (wanted_on rfl rfl rfl (e85.trans (by first | rfl | (simp [*]; done)))) rfl ?_ ?_
               ·go_simp
                (try simp only [i64_w])
                try rfl
               refine hK.out _ _ ⟨gb2, gb21, m2_, m21_, (by rw [ha.out]; exact putSel_upk 16 hb_ rfl rfl rfl), Q_HBW, Q_HL2, fun h0_ => absurd ((hoff 21 (by kernel_rfl)).symm.trans h0_) (by decide), Q_X2_, fun h0_ => absurd ((hoff 21 (by kernel_rfl)).symm.trans h0_) (by decide)⟩
              refine steps_cons ?_ ?_
              ·rintro b a w' ⟨gb2, gb21, m2_, m21_, ha, Q_HBW, Q_HL2, Q_HL21, Q_X2_, Q_X21_⟩ hb_ hon hoff
               refine ⟨_, rfl, fun K hK => ?_⟩
               have e8 : a.tmps[8]? = some (.int .i64 ji17) := by rw [ha]; exact (putSel_off rfl).trans rfl
               have e85 : a.tmps[85]? = some (.bool true) := by rw [ha]; exact putSel_on (e := (10, 85, .bool true)) 8 rfl rfl (hon 10 (by kernel_rfl)) rfl
               replace ha := Aside0.mk ha
               have HBW := Aside0.mk Q_HBW
               have HL2 := Aside0.mk (Q_HL2 (hon 2 (by kernel_rfl)))
               refine value_ (w1 := w') (v := .int .i64 ji17) (wanted_on rfl rfl rfl (e85.trans (by first | rfl | (simp [*]; done)))) rfl ?_ ?_
               ·go_simp
                (try simp only [i64_w])
                try rfl
               refine hK.out _ _ ⟨gb2, gb21, m2_, m21_, (by rw [ha.out]; exact putSel_upk 17 hb_ rfl rfl rfl), Q_HBW, Q_HL2, fun h0_ => absurd ((hoff 21 (by kernel_rfl)).symm.trans h0_) (by decide), Q_X2_, fun h0_ => absurd ((hoff 21 (by kernel_rfl)).symm.trans h0_) (by decide)⟩
              refine steps_cons ?_ ?_
              ·rintro b a w' ⟨gb2, gb21, m2_, m21_, ha, Q_HBW, Q_HL2, Q_HL21, Q_X2_, Q_X21_⟩ hb_ hon hoff
               refine ⟨_, rfl, fun K hK => ?_⟩
               have e93 : a.tmps[93]? = some (.slice A0 l0.length c0) := by rw [ha]; exact putSel_on (e := (18, 93, .slice A0 l0.length c0)) 16 rfl rfl (hon 18 (by kernel_rfl)) rfl
               have e94 : a.tmps[94]? = some (.int .i64 ji17) := by rw [ha]; exact putSel_on (e := (19, 94, .int .i64 ji17)) 17 rfl rfl (hon 19 (by kernel_rfl)) rfl
               have e85 : a.tmps[85]? = some (.bool true) := by rw [ha]; exact putSel_on (e := (10, 85, .bool true)) 8 rfl rfl (hon 10 (by kernel_rfl)) rfl
               replace ha := Aside0.mk ha
               have HBW := Aside0.mk Q_HBW
               have HL2 := Aside0.mk (Q_HL2 (hon 2 (by kernel_rfl)))
               refine value_ (w1 := w') (v := .slice A59 N3_ P3_) (wanted_on rfl rfl rfl (e85.trans (by first | rfl | (simp [*]; done)))) rfl ?_ ?_
               ·go_simp
                (try simp only [i64_w])
                try rfl
               refine hK.out _ _ ⟨gb2, gb21, m2_, m21_, (by rw [ha.out]; exact putSel_upk 18 hb_ rfl rfl rfl), Q_HBW, Q_HL2, fun h0_ => absurd ((hoff 21 (by kernel_rfl)).symm.trans h0_) (by decide), Q_X2_, fun h0_ => absurd ((hoff 21 (by kernel_rfl)).symm.trans h0_) (by decide)⟩
              refine steps_cons ?_ ?_
              ·rintro b a w' ⟨gb2, gb21, m2_, m21_, ha, Q_HBW, Q_HL2, Q_HL21, Q_X2_, Q_X21_⟩ hb_ hon hoff
               refine ⟨_, rfl, fun K hK => ?_⟩
               have e88 : a.tmps[88]? = some (.slice A0 N1_ c0) := by rw [ha]; exact putSel_on (e := (13, 88, .slice A0 N1_ c0)) 11 rfl rfl (hon 13 (by kernel_rfl)) rfl
               have e92 : a.tmps[92]? = some (.slice A58 N2_ P2_) := by rw [ha]; exact putSel_on (e := (17, 92, .slice A58 N2_ P2_)) 15 rfl rfl (hon 17 (by kernel_rfl)) rfl
               have e95 : a.tmps[95]? = some (.slice A59 N3_ P3_) := by rw [ha]; exact putSel_on (e := (20, 95, .slice A59 N3_ P3_)) 18 rfl rfl (hon 20 (by kernel_rfl)) rfl
               have e85 : a.tmps[85]? = some (.bool true) := by rw [ha]; exact putSel_on (e := (10, 85, .bool true)) 8 rfl rfl (hon 10 (by kernel_rfl)) rfl
               replace ha := Aside0.mk ha
               have HBW := Aside0.mk Q_HBW
               have HL2 := Aside0.mk (Q_HL2 (hon 2 (by kernel_rfl)))
               refine value_ (w1 := w'.alloc (.cells #[.slice A0 N1_ c0, .slice A58 N2_ P2_, .slice A59 N3_ P3_] 24 (0, 0))) (v := .slice (some ⟨w'.heap.size, 0, none⟩) 3 3) (wanted_on rfl rfl rfl (e85.trans rfl)) rfl ?_ ?_
               ·go_simp
                try rfl
               refine hK.out _ _ ⟨gb2, w'.heap.size, m2_, (.slice (some ⟨w'.heap.size, 0, none⟩) 3 3), (by rw [ha.out]; exact putSel_upk 19 hb_ rfl rfl rfl), below_alloc HBW.out _, fun _ => pw_cell_below (below_alloc (Below.refl _ _) _) HL2.out, fun _ => by simp, Q_X2_, fun _ => rfl⟩
              refine steps_cons ?_ ?_
              ·rintro b a w' ⟨gb2, gb21, m2_, m21_, ha, Q_HBW, Q_HL2, Q_HL21, Q_X2_, Q_X21_⟩ hb_ hon hoff
               refine ⟨_, rfl, fun K hK => ?_⟩
               have e96 : a.tmps[96]? = some (m21_) := by rw [ha]; exact putSel_on (e := (21, 96, m21_)) 19 rfl rfl (hon 21 (by kernel_rfl)) rfl
               rw [Q_X21_ (hon 21 (by kernel_rfl))] at e96
               have e85 : a.tmps[85]? = some (.bool true) := by rw [ha]; exact putSel_on (e := (10, 85, .bool true)) 8 rfl rfl (hon 10 (by kernel_rfl)) rfl
               replace ha := Aside0.mk ha
               have HBW := Aside0.mk Q_HBW
               have HL2 := Aside0.mk (Q_HL2 (hon 2 (by kernel_rfl)))
               have HL21 := Aside0.mk (Q_HL21 (hon 21 (by kernel_rfl)))
               refine goes_ Tryd.func11 (by kernel_rfl) rfl #[.slice (some ⟨gb21, 0, none⟩) 3 3] (wanted_on rfl rfl rfl (e85.trans rfl)) rfl rfl (by first | (simp only [List.map_toArray, List.map_cons, List.map_nil, Act.eval, Array.getD_eq_getD_getElem?, Option.getD_some, e96, e85]; done) | (simp only [List.map_toArray, List.map_cons, List.map_nil, Act.eval, Array.getD_eq_getD_getElem?, Option.getD_some, e96, e85]; rfl)) ?_
               with_reducible refine (crc_Of.threeV gb21 N1_ c0 A0 (l0.take (ji9 : Int).toNat) N2_ P2_ A58 ((l0.take (ji17 : Int).toNat).drop (ji9 : Int).toNat) N3_ P3_ A59 (l0.drop (ji17 : Int).toNat) t122 w' (GT.below WG8.out HBW.out) HL21.out (Kd.C_below CN18.out HBW.out) (Kd.C_below CN28.out HBW.out) (Kd.C_below CN38.out HBW.out) HC108.out HC110.out HC112.out HN1.out HN2.out HN3.out K4.out).mono ?_
               rintro e w3_ ⟨rfl, hw_⟩
               subst hw_
               refine ⟨_, rfl, ?_⟩
               refine hK.out _ _ ⟨gb2, gb21, m2_, m21_, (by rw [ha.out]; exact putSel_upk 20 hb_ rfl rfl rfl), HBW.out, fun _ => HL2.out, fun _ => HL21.out, Q_X2_, Q_X21_⟩
              refine steps_cons ?_ ?_
              ·rintro b a w' ⟨gb2, gb21, m2_, m21_, ha, Q_HBW, Q_HL2, Q_HL21, Q_X2_, Q_X21_⟩ hb_ hon hoff
               refine ⟨_, rfl, fun K hK => ?_⟩
               have e12 : a.tmps[12]? = some (.int .u32 t115) := by rw [ha]; exact (putSel_off rfl).trans rfl
               have e85 : a.tmps[85]? = some (.bool true) := by rw [ha]; exact putSel_on (e := (10, 85, .bool true)) 8 rfl rfl (hon 10 (by kernel_rfl)) rfl
               replace ha := Aside0.mk ha
               have HBW := Aside0.mk Q_HBW
               have HL2 := Aside0.mk (Q_HL2 (hon 2 (by kernel_rfl)))
               refine value_ (w1 := w') (v := .int .u32 t115) (wanted_on rfl rfl rfl (e85.trans (by first | rfl | (simp [*]; done)))) rfl ?_ ?_
               ·go_simp
                (try simp only [i64_w])
                try rfl
               refine hK.out _ _ ⟨gb2, gb21, m2_, m21_, (by rw [ha.out]; exact putSel_upk 21 hb_ rfl rfl rfl), Q_HBW, Q_HL2, Q_HL21, Q_X2_, Q_X21_⟩
              refine steps_cons ?_ ?_
              ·rintro b a w' ⟨gb2, gb21, m2_, m21_, ha, Q_HBW, Q_HL2, Q_HL21, Q_X2_, Q_X21_⟩ hb_ hon hoff
               refine ⟨_, rfl, fun K hK => ?_⟩
               have e97 : a.tmps[97]? = some (.int .u32 t122) := by rw [ha]; exact putSel_on (e := (22, 97, .int .u32 t122)) 20 rfl rfl (hon 22 (by kernel_rfl)) rfl
               have e98 : a.tmps[98]? = some (.int .u32 t115) := by rw [ha]; exact putSel_on (e := (23, 98, .int .u32 t115)) 21 rfl rfl (hon 23 (by kernel_rfl)) rfl
               have e85 : a.tmps[85]? = some (.bool true) := by rw [ha]; exact putSel_on (e := (10, 85, .bool true)) 8 rfl rfl (hon 10 (by kernel_rfl)) rfl
               replace ha := Aside0.mk ha
               have HBW := Aside0.mk Q_HBW
               have HL2 := Aside0.mk (Q_HL2 (hon 2 (by kernel_rfl)))
               have HL21 := Aside0.mk (Q_HL21 (hon 21 (by kernel_rfl)))
               refine value_ (w1 := w') (v := .bool false) (wanted_on rfl rfl rfl (e85.trans (by first | rfl | (simp [*]; done)))) rfl ?_ ?_
               ·go_simp
                (try simp only [i64_w])
                try rfl
               refine hK.out _ _ ⟨gb2, gb21, m2_, m21_, (by rw [ha.out]; exact putSel_upk 22 hb_ rfl rfl rfl), Q_HBW, Q_HL2, Q_HL21, Q_X2_, Q_X21_⟩
              refine steps_cons ?_ ?_
              ·rintro b a w' ⟨gb2, gb21, m2_, m21_, ha, Q_HBW, Q_HL2, Q_HL21, Q_X2_, Q_X21_⟩ hb_ hon hoff
               refine ⟨_, rfl, fun K hK => ?_⟩
               have e85 : a.tmps[85]? = some (.bool true) := by rw [ha]; exact putSel_on (e := (10, 85, .bool true)) 8 rfl rfl (hon 10 (by kernel_rfl)) rfl
               have e99 : a.tmps[99]? = some (.bool false) := by rw [ha]; exact putSel_on (e := (24, 99, .bool false)) 22 rfl rfl (hon 24 (by kernel_rfl)) rfl
               replace ha := Aside0.mk ha
               have HBW := Aside0.mk Q_HBW
               have HL2 := Aside0.mk (Q_HL2 (hon 2 (by kernel_rfl)))
               have HL21 := Aside0.mk (Q_HL21 (hon 21 (by kernel_rfl)))
               refine value_ (w1 := w') (v := .bool false) (by rfl) rfl ?_ ?_
               ·go_simp
                (try simp only [i64_w])
                try rfl
               refine hK.out _ _ ⟨gb2, gb21, m2_, m21_, (by rw [ha.out]; exact putSel_upk 23 hb_ rfl rfl rfl), Q_HBW, Q_HL2, Q_HL21, Q_X2_, Q_X21_⟩
              refine steps_cons ?_ ?_
              ·rintro b a w' ⟨gb2, gb21, m2_, m21_, ha, Q_HBW, Q_HL2, Q_HL21, Q_X2_, Q_X21_⟩ hb_ hon hoff
               refine ⟨_, rfl, fun K hK => ?_⟩
               have e100 : a.tmps[100]? = some (.bool false) := by rw [ha]; exact putSel_on (e := (25, 100, .bool false)) 23 rfl rfl (hon 25 (by kernel_rfl)) rfl
               replace ha := Aside0.mk ha
               have HBW := Aside0.mk Q_HBW
               have HL2 := Aside0.mk (Q_HL2 (hon 2 (by kernel_rfl)))
               have HL21 := Aside0.mk (Q_HL21 (hon 21 (by kernel_rfl)))
               refine value_ (w1 := w') (v := .bool false) (by rfl) rfl ?_ ?_
               ·go_simp
                (try simp only [i64_w])
                try rfl
               refine hK.out _ _ ⟨gb2, gb21, m2_, m21_, (by rw [ha.out]; exact putSel_upk 24 hb_ rfl rfl rfl), Q_HBW, Q_HL2, Q_HL21, Q_X2_, Q_X21_⟩
              refine steps_cons ?_ ?_
              ·rintro b a w' ⟨gb2, gb21, m2_, m21_, ha, Q_HBW, Q_HL2, Q_HL21, Q_X2_, Q_X21_⟩ hb_ hon hoff
               refine ⟨_, rfl, fun K hK => ?_⟩
               have e101 : a.tmps[101]? = some (.bool false) := by rw [ha]; exact putSel_on (e := (26, 101, .bool false)) 24 rfl rfl (hon 26 (by kernel_rfl)) rfl
               replace ha := Aside0.mk ha
               have HBW := Aside0.mk Q_HBW
               have HL2 := Aside0.mk (Q_HL2 (hon 2 (by kernel_rfl)))
               have HL21 := Aside0.mk (Q_HL21 (hon 21 (by kernel_rfl)))
               refine off_ (wanted_off rfl rfl rfl (e101.trans (by first | rfl | (simp [*]; done)))) ?_
               refine hK.out _ _ ⟨gb2, gb21, m2_, m21_, (by rw [ha.out]; exact putSel_upk 25 hb_ rfl rfl rfl), Q_HBW, Q_HL2, Q_HL21, Q_X2_, Q_X21_⟩
              refine steps_cons ?_ ?_
              ·rintro b a w' ⟨gb2, gb21, m2_, m21_, ha, Q_HBW, Q_HL2, Q_HL21, Q_X2_, Q_X21_⟩ hb_ hon hoff
               refine ⟨_, rfl, fun K hK => ?_⟩
               have e101 : a.tmps[101]? = some (.bool false) := by rw [ha]; exact putSel_on (e := (26, 101, .bool false)) 24 rfl rfl (hon 26 (by kernel_rfl)) rfl
               have e102 : a.tmps[102]? = some (undef) := by rw [ha]; exact putSel_on (e := (27, 102, undef)) 25 rfl rfl (hon 27 (by kernel_rfl)) rfl
               replace ha := Aside0.mk ha
               have HBW := Aside0.mk Q_HBW
               have HL2 := Aside0.mk (Q_HL2 (hon 2 (by kernel_rfl)))
               have HL21 := Aside0.mk (Q_HL21 (hon 21 (by kernel_rfl)))
               refine value_ (w1 := w') (v := .bool false) (by rfl) rfl ?_ ?_
               ·go_simp
                (try simp only [i64_w])
                try rfl
               refine hK.out _ _ ⟨gb2, gb21, m2_, m21_, (by rw [ha.out]; exact putSel_upk 26 hb_ rfl rfl rfl), Q_HBW, Q_HL2, Q_HL21, Q_X2_, Q_X21_⟩
              refine steps_cons ?_ ?_
              ·rintro b a w' ⟨gb2, gb21, m2_, m21_, ha, Q_HBW, Q_HL2, Q_HL21, Q_X2_, Q_X21_⟩ hb_ hon hoff
               refine ⟨_, rfl, fun K hK => ?_⟩
               have e103 : a.tmps[103]? = some (.bool false) := by rw [ha]; exact putSel_on (e := (28, 103, .bool false)) 26 rfl rfl (hon 28 (by kernel_rfl)) rfl
               replace ha := Aside0.mk ha
               have HBW := Aside0.mk Q_HBW
               have HL2 := Aside0.mk (Q_HL2 (hon 2 (by kernel_rfl)))
               have HL21 := Aside0.mk (Q_HL21 (hon 21 (by kernel_rfl)))
               refine value_ (w1 := w') (v := .bool false) (by rfl) rfl ?_ ?_
               ·go_simp
                (try simp only [i64_w])
                try rfl
               refine hK.out _ _ ⟨gb2, gb21, m2_, m21_, (by rw [ha.out]; exact putSel_upk 27 hb_ rfl rfl rfl), Q_HBW, Q_HL2, Q_HL21, Q_X2_, Q_X21_⟩
              exact steps_nil
             ·rintro b a w' hall ⟨gb2, gb21, m2_, m21_, ha, Q_HBW, Q_HL2, Q_HL21, Q_X2_, Q_X21_⟩
              clear HBW
              have hb2_ := hall 2 (by kernel_rfl)
              have hb3_ := hall 3 (by kernel_rfl)
              have hb4_ := hall 4 (by kernel_rfl)
              have hb5_ := hall 5 (by kernel_rfl)
              have hb6_ := hall 6 (by kernel_rfl)
              have hb7_ := hall 7 (by kernel_rfl)
              have hb8_ := hall 8 (by kernel_rfl)
              have hb9_ := hall 9 (by kernel_rfl)
              have hb10_ := hall 10 (by kernel_rfl)
              have hb11_ := hall 11 (by kernel_rfl)
              have hb12_ := hall 12 (by kernel_rfl)
              have hb13_ := hall 13 (by kernel_rfl)
              have hb14_ := hall 14 (by kernel_rfl)
              have hb15_ := hall 15 (by kernel_rfl)
              have hb16_ := hall 16 (by kernel_rfl)
              have hb17_ := hall 17 (by kernel_rfl)
              have hb18_ := hall 18 (by kernel_rfl)
              have hb19_ := hall 19 (by kernel_rfl)
              have hb20_ := hall 20 (by kernel_rfl)
              have hb21_ := hall 21 (by kernel_rfl)
              have hb22_ := hall 22 (by kernel_rfl)
              have hb23_ := hall 23 (by kernel_rfl)
              have hb24_ := hall 24 (by kernel_rfl)
              have hb25_ := hall 25 (by kernel_rfl)
              have hb26_ := hall 26 (by kernel_rfl)
              have hb27_ := hall 27 (by kernel_rfl)
              have hb28_ := hall 28 (by kernel_rfl)
              have hb29_ := hall 29 (by kernel_rfl)
              subst ha
              obtain rfl := Q_X2_ hb2_
              obtain rfl := Q_X21_ hb21_
              simp only [putSel, hb2_, hb3_, hb4_, hb5_, hb6_, hb7_, hb8_, hb9_, hb10_, hb11_, hb12_, hb13_, hb14_, hb15_, hb16_, hb17_, hb18_, hb19_, hb20_, hb21_, hb22_, hb23_, hb24_, hb25_, hb26_, hb27_, hb28_, hb29_, if_true, Act.put, List.setIfInBounds_toArray, List.set_cons_zero, List.set_cons_succ]
              have HBW := Aside0.mk Q_HBW
              clear Q_HBW
              have HL2 := Aside0.mk (Q_HL2 hb2_)
              clear Q_HL2
              have HL21 := Aside0.mk (Q_HL21 hb21_)
              clear Q_HL21
              clear hall hb2_ hb3_ hb4_ hb5_ hb6_ hb7_ hb8_ hb9_ hb10_ hb11_ hb12_ hb13_ hb14_ hb15_ hb16_ hb17_ hb18_ hb19_ hb20_ hb21_ hb22_ hb23_ hb24_ hb25_ hb26_ hb27_ hb28_ hb29_
              have n0_ := Aside0.mk (below_step HB.out HBW.out)
              clear HB
              clear HBW
              have HB := n0_
              clear n0_
              try go_wp2
              all_goals go_ret
              all_goals exact ⟨by first | rfl | (simp [errW_none, errW_some] <;> rfl) | (simp only [← hji9, ← hji17]; first | rfl | (simp [errW_none, errW_some] <;> rfl)) | (simp [*, errW_none, errW_some] <;> rfl), by repeat (first | (with_reducible first | exact HB.out | apply below_alloc | apply pw_below_drewN | apply below_drew1) | exact HB.out)⟩
          ·rw [if_neg c27] at H
           have c27b0 : (t117 == t115) = false := beq_eq_false_iff_ne.mpr c27
           have c27b1 : (t117 != t115) = true := bne_iff_ne.mpr c27
           obtain rfl := Option.some.inj H
           have c8n := beq_eq_false_iff_ne.mp c8b0
           go_enter Tryd.func9, Tryd.ntmps9
           try go_wp2
           have n0_ := Aside0.mk (below_drew1 HB.out)
           clear HB
           have HB := n0_
           clear n0_
           obtain ⟨i074, hi074, _, hsz74, _⟩ := info_parts info5
           obtain ⟨hcut74, hA74, hC74⟩ := print_take_of (P := Tryd.prog) (Value.int .u8) 0 24 5 .i64 Tryd.underlying24 hi074 hsz74 A0 c0 l0 (ji9) (of_decide_eq_true (by first | (with_reducible assumption) | assumption)) (of_decide_eq_true (by first | (with_reducible assumption) | assumption)) HC0.out
           have HR108 := Aside0.mk (Kd.C_of_reads (h1 := fun _ => rfl) (hA74 _ (Kd.reads_of_C HR0.out)))
           have HC108 := Aside0.mk hC74
           clear hA74 hC74 hi074 hsz74
           (try (have e_ := (hcut74 w).symm.trans (hcut39 w); injection e_ with e1_ e2_; injection e1_ with e3_ e4_ e5_; subst e3_))
           (try (have e_ := (hcut74 w).symm.trans (hcut51 w); injection e_ with e1_ e2_; injection e1_ with e3_ e4_ e5_; subst e3_))
           (try (have e_ := (hcut74 w).symm.trans (hcut57 w); injection e_ with e1_ e2_; injection e1_ with e3_ e4_ e5_; subst e3_))
           (try (have e_ := (hcut74 w).symm.trans (hcut69 w); injection e_ with e1_ e2_; injection e1_ with e3_ e4_ e5_; subst e3_))
           obtain ⟨i075, hi075, _, hsz75, _⟩ := info_parts info5
           obtain ⟨A75, hcut75, hA75, hC75⟩ := print_mid_of (P := Tryd.prog) (Value.int .u8) 0 24 5 .i64 .i64 Tryd.underlying24 hi075 hsz75 A0 c0 l0 (ji9) (ji17) (of_decide_eq_true (by first | (with_reducible assumption) | assumption)) (by first | omega | exact of_decide_eq_true (by first | (with_reducible assumption) | assumption)) (of_decide_eq_true (by first | (with_reducible assumption) | assumption)) HC0.out
           have HR110 := Aside0.mk (Kd.C_of_reads (h1 := fun _ => rfl) (hA75 _ (Kd.reads_of_C HR0.out)))
           have HC110 := Aside0.mk hC75
           clear hA75 hC75 hi075 hsz75
           (try (have e_ := (hcut75 w).symm.trans (hcut40 w); injection e_ with e1_ e2_; injection e1_ with e3_ e4_ e5_; subst e3_))
           (try (have e_ := (hcut75 w).symm.trans (hcut52 w); injection e_ with e1_ e2_; injection e1_ with e3_ e4_ e5_; subst e3_))
           (try (have e_ := (hcut75 w).symm.trans (hcut58 w); injection e_ with e1_ e2_; injection e1_ with e3_ e4_ e5_; subst e3_))
           (try (have e_ := (hcut75 w).symm.trans (hcut70 w); injection e_ with e1_ e2_; injection e1_ with e3_ e4_ e5_; subst e3_))
           obtain ⟨i076, hi076, _, hsz76, _⟩ := info_parts info5
           obtain ⟨A76, hcut76, hA76, hC76⟩ := print_drop_of (P := Tryd.prog) (Value.int .u8) 0 24 5 .i64 Tryd.underlying24 hi076 hsz76 A0 c0 l0 (ji17) (of_decide_eq_true (by first | (with_reducible assumption) | assumption)) (of_decide_eq_true (by first | (with_reducible assumption) | assumption)) HC0.out
           have HR112 := Aside0.mk (Kd.C_of_reads (h1 := fun _ => rfl) (hA76 _ (Kd.reads_of_C HR0.out)))
           have HC112 := Aside0.mk hC76
           clear hA76 hC76 hi076 hsz76
           (try (have e_ := (hcut76 w).symm.trans (hcut41 w); injection e_ with e1_ e2_; injection e1_ with e3_ e4_ e5_; subst e3_))
           (try (have e_ := (hcut76 w).symm.trans (hcut53 w); injection e_ with e1_ e2_; injection e1_ with e3_ e4_ e5_; subst e3_))
           (try (have e_ := (hcut76 w).symm.trans (hcut59 w); injection e_ with e1_ e2_; injection e1_ with e3_ e4_ e5_; subst e3_))
           (try (have e_ := (hcut76 w).symm.trans (hcut71 w); injection e_ with e1_ e2_; injection e1_ with e3_ e4_ e5_; subst e3_))
           obtain ⟨N1_, hN1_⟩ : ∃ n_ : Nat, (l0.take (ji9 : Int).toNat).length = n_ := ⟨_, rfl⟩
           rw [hN1_] at hcut74 HR108 HC108
           have HN1 := Aside0.mk hN1_
           clear hN1_
           obtain ⟨N2_, hN2_⟩ : ∃ n_ : Nat, ((l0.take (ji17 : Int).toNat).drop (ji9 : Int).toNat).length = n_ := ⟨_, rfl⟩
           rw [hN2_] at hcut75 HR110 HC110
           have HN2 := Aside0.mk hN2_
           clear hN2_
           obtain ⟨N3_, hN3_⟩ : ∃ n_ : Nat, (l0.drop (ji17 : Int).toNat).length = n_ := ⟨_, rfl⟩
           rw [hN3_] at hcut76 HR112 HC112
           have HN3 := Aside0.mk hN3_
           clear hN3_
           obtain ⟨P2_, hP2_⟩ : ∃ n_ : Nat, c0 - (ji9 : Int).toNat = n_ := ⟨_, rfl⟩
           rw [hP2_] at hcut75 HC110
           clear hP2_
           obtain ⟨P3_, hP3_⟩ : ∃ n_ : Nat, c0 - (ji17 : Int).toNat = n_ := ⟨_, rfl⟩
           rw [hP3_] at hcut76 HC112
           clear hP3_
           have K1 := Aside0.mk (Option.some.inj A12.out)
           have K2 := Aside0.mk (Option.some.inj A16.out)
           have K3 := Aside0.mk (Option.some.inj A20.out)
           have K0 := Aside0.mk (Option.some.inj A25.out)
           have CN15 := Aside0.mk (show Kd.C (Kd.int .u8) (w.drew) A0 N1_ (l0.take (ji9 : Int).toNat) from Kd.C_below HR108.out HB.out)
           have CN25 := Aside0.mk (show Kd.C (Kd.int .u8) (w.drew) A75 N2_ ((l0.take (ji17 : Int).toNat).drop (ji9 : Int).toNat) from Kd.C_below HR110.out HB.out)
           have CN35 := Aside0.mk (show Kd.C (Kd.int .u8) (w.drew) A76 N3_ (l0.drop (ji17 : Int).toNat) from Kd.C_below HR112.out HB.out)
           have WG5 := Aside0.mk (GT.below HG.out HB.out)
           refine start_ (n := 19) (S := fun w' => True) (ds := []) #[F_,F_,F_,F_,F_,F_,F_,F_,F_,F_,F_,F_,F_,F_,F_,F_,F_,F_,F_] (by kernel_rfl) rfl rfl trivial (fun hHeld => ?_)
           have HBW := True.intro
           refine with_tabW remoralaw02_CrcParts.tab5 remoralaw02_CrcParts.bits5 (fun HT_ HW_ => ?_)
           generalize w.drew = w73 at HB CN15 CN25 CN35 WG5 hHeld ⊢
           refine pure_ (i := 0) (N := some 34) (v := ?_) (a' := ?_) #[T_,F_,F_,F_,F_,F_,F_,F_,F_,F_,F_,F_,F_,F_,F_,F_,F_,F_,F_] rfl rfl (any_of HT_.out (by kernel_rfl)) (fun _ _ _ h => h) (Or.inl ⟨by rfl, ?_⟩) ?_ ?_
           rotate_left
           ·intro w'
            go_simp
            with_reducible rfl
           rotate_left
           ·simp only [Act.put, List.setIfInBounds_toArray, List.set_cons_zero, List.set_cons_succ, i64_w, i32_w]
            rfl
           refine pure_ (i := 1) (N := some 35) (v := ?_) (a' := ?_) #[T_,T_,F_,F_,F_,F_,F_,F_,F_,F_,F_,F_,F_,F_,F_,F_,F_,F_,F_] rfl rfl (any_of HT_.out (by kernel_rfl)) (fun _ _ _ h => h) (Or.inl ⟨by rfl, ?_⟩) ?_ ?_
           rotate_left
           ·intro w'
            go_simp
            with_reducible rfl
           rotate_left
           ·simp only [Act.put, List.setIfInBounds_toArray, List.set_cons_zero, List.set_cons_succ, i64_w, i32_w]
            rfl
           refine pure_ (i := 2) (N := some 36) (v := ?_) (a' := ?_) #[T_,T_,T_,F_,F_,F_,F_,F_,F_,F_,F_,F_,F_,F_,F_,F_,F_,F_,F_] rfl rfl (any_of HT_.out (by kernel_rfl)) (fun _ _ _ h => h) (Or.inl ⟨by rfl, ?_⟩) ?_ ?_
           rotate_left
           ·intro w'
            go_simp
            with_reducible rfl
           rotate_left
           ·simp only [Act.put, List.setIfInBounds_toArray, List.set_cons_zero, List.set_cons_succ, i64_w, i32_w]
            rfl
           refine pure_ (i := 5) (N := some 39) (v := ?_) (a' := ?_) #[T_,T_,T_,F_,F_,T_,F_,F_,F_,F_,F_,F_,F_,F_,F_,F_,F_,F_,F_] rfl rfl (any_of HT_.out (by kernel_rfl)) (fun _ _ _ h => h) (Or.inl ⟨by rfl, ?_⟩) ?_ ?_
           rotate_left
           ·intro w'
            go_simp
            with_reducible rfl
           rotate_left
           ·simp only [Act.put, List.setIfInBounds_toArray, List.set_cons_zero, List.set_cons_succ, i64_w, i32_w]
            rfl
           refine pure_ (i := 6) (N := some 40) (v := ?_) (a' := ?_) #[T_,T_,T_,F_,F_,T_,T_,F_,F_,F_,F_,F_,F_,F_,F_,F_,F_,F_,F_] rfl rfl (any_of HT_.out (by kernel_rfl)) (fun _ _ _ h => h) (Or.inl ⟨by rfl, ?_⟩) ?_ ?_
           rotate_left
           ·intro w'
            go_simp
            with_reducible rfl
           rotate_left
           ·simp only [Act.put, List.setIfInBounds_toArray, List.set_cons_zero, List.set_cons_succ, i64_w, i32_w]
            rfl
           refine pure_ (i := 7) (N := some 41) (v := ?_) (a' := ?_) #[T_,T_,T_,F_,F_,T_,T_,T_,F_,F_,F_,F_,F_,F_,F_,F_,F_,F_,F_] rfl rfl (any_of HT_.out (by kernel_rfl)) (fun _ _ _ h => h) (Or.inl ⟨by rfl, ?_⟩) ?_ ?_
           rotate_left
           ·intro w'
            go_simp
            with_reducible rfl
           rotate_left
           ·simp only [Act.put, List.setIfInBounds_toArray, List.set_cons_zero, List.set_cons_succ, i64_w, i32_w]
            rfl
           refine pure_ (i := 8) (N := some 42) (v := ?_) (a' := ?_) #[T_,T_,T_,F_,F_,T_,T_,T_,T_,F_,F_,F_,F_,F_,F_,F_,F_,F_,F_] rfl rfl (any_of HT_.out (by kernel_rfl)) (fun _ _ _ h => h) (Or.inl ⟨by rfl, ?_⟩) ?_ ?_
           rotate_left
           ·intro w'
            go_simp
            with_reducible rfl
           rotate_left
           ·simp only [Act.put, List.setIfInBounds_toArray, List.set_cons_zero, List.set_cons_succ, i64_w, i32_w]
            rfl
           refine pure_ (i := 11) (N := some 45) (v := ?_) (a' := ?_) #[T_,T_,T_,F_,F_,T_,T_,T_,T_,F_,F_,T_,F_,F_,F_,F_,F_,F_,F_] rfl rfl (any_of HT_.out (by kernel_rfl)) (fun _ _ _ h => h) (Or.inl ⟨by rfl, ?_⟩) ?_ ?_
           rotate_left
           ·intro w'
            go_simp
            with_reducible rfl
           rotate_left
           ·simp only [Act.put, List.setIfInBounds_toArray, List.set_cons_zero, List.set_cons_succ, i64_w, i32_w]
            rfl
           refine pure_ (i := 12) (N := some 46) (v := ?_) (a' := ?_) #[T_,T_,T_,F_,F_,T_,T_,T_,T_,F_,F_,T_,T_,F_,F_,F_,F_,F_,F_] rfl rfl (any_of HT_.out (by kernel_rfl)) (fun _ _ _ h => h) (Or.inl ⟨by rfl, ?_⟩) ?_ ?_
           rotate_left
           ·intro w'
            go_simp
            with_reducible rfl
           rotate_left
           ·simp only [Act.put, List.setIfInBounds_toArray, List.set_cons_zero, List.set_cons_succ, i64_w, i32_w]
            rfl
           refine pure_ (i := 13) (N := some 47) (v := ?_) (a' := ?_) #[T_,T_,T_,F_,F_,T_,T_,T_,T_,F_,F_,T_,T_,T_,F_,F_,F_,F_,F_] rfl rfl (any_of HT_.out (by kernel_rfl)) (fun _ _ _ h => h) (Or.inl ⟨by rfl, ?_⟩) ?_ ?_
           rotate_left
           ·intro w'
            go_simp
            with_reducible rfl
           rotate_left
           ·simp only [Act.put, List.setIfInBounds_toArray, List.set_cons_zero, List.set_cons_succ, i64_w, i32_w]
            rfl
           refine inv_at [3, 4, 9, 10, 14, 15, 16, 17, 18] (fun a0_ b a w' => ∃ (gb3 : Nat) (gb9 : Nat) (gb14 : Nat) (m3_ : Value) (m9_ : Value) (m14_ : Value), a = putSel a0_ b [(3, 37, m3_), (4, 38, .int .u32 t109), (9, 43, m9_), (10, 44, .int .u32 t111), (14, 48, m14_), (15, 49, .int .u32 t113), (16, 9, .int .u32 t109), (17, 10, .int .u32 t111), (18, 11, .int .u32 t113)] ∧ (Below w73.heap.size w73 w') ∧ (b 3 = true → w'.cell? ⟨gb3, 0, none⟩ = some (.slice A0 N1_ c0)) ∧ (b 9 = true → w'.cell? ⟨gb9, 0, none⟩ = some (.slice A75 N2_ P2_)) ∧ (b 14 = true → w'.cell? ⟨gb14, 0, none⟩ = some (.slice A76 N3_ P3_)) ∧ (b 3 = true → (m3_ : Value) = .slice (some ⟨gb3, 0, none⟩) 1 1) ∧ (b 9 = true → (m9_ : Value) = .slice (some ⟨gb9, 0, none⟩) 1 1) ∧ (b 14 = true → (m14_ : Value) = .slice (some ⟨gb14, 0, none⟩) 1 1)) HT_.out HW_.out (by kernel_rfl) (by kernel_rfl) ?_ ?_ ?_
           ·exact ⟨0, 0, 0, .bool false, .bool false, .bool false, by simp only [putSel, Bool.false_eq_true, if_false], Below.refl _ _, fun h_ => absurd h_ (by decide), fun h_ => absurd h_ (by decide), fun h_ => absurd h_ (by decide), fun h_ => absurd h_ (by decide), fun h_ => absurd h_ (by decide), fun h_ => absurd h_ (by decide)⟩
           ·skip
            clear HBW
            refine steps_cons ?_ ?_
            ·rintro b a w' ⟨gb3, gb9, gb14, m3_, m9_, m14_, ha, Q_HBW, Q_HL3, Q_HL9, Q_HL14, Q_X3_, Q_X9_, Q_X14_⟩ hb_ hon hoff
             refine ⟨_, rfl, fun K hK => ?_⟩
             have e36 : a.tmps[36]? = some (.slice A0 N1_ c0) := by rw [ha]; exact (putSel_off rfl).trans rfl
             replace ha := Aside0.mk ha
             have HBW := Aside0.mk Q_HBW
             refine value_ (w1 := w'.alloc (.cells #[.slice A0 N1_ c0] 24 (0, 0))) (v := .slice (some ⟨w'.heap.size, 0, none⟩) 1 1) (by rfl) rfl ?_ ?_
             ·go_simp
              try rfl
             refine hK.out _ _ ⟨w'.heap.size, gb9, gb14, (.slice (some ⟨w'.heap.size, 0, none⟩) 1 1), m9_, m14_, (by rw [ha.out]; exact putSel_upk 0 hb_ rfl rfl rfl), below_alloc HBW.out _, fun _ => by simp, fun h0_ => pw_cell_below (below_alloc (Below.refl _ _) _) (Q_HL9 h0_), fun h0_ => pw_cell_below (below_alloc (Below.refl _ _) _) (Q_HL14 h0_), fun _ => rfl, Q_X9_, Q_X14_⟩
            refine steps_cons ?_ ?_
            ·rintro b a w' ⟨gb3, gb9, gb14, m3_, m9_, m14_, ha, Q_HBW, Q_HL3, Q_HL9, Q_HL14, Q_X3_, Q_X9_, Q_X14_⟩ hb_ hon hoff
             refine ⟨_, rfl, fun K hK => ?_⟩
             have e37 : a.tmps[37]? = some (m3_) := by rw [ha]; exact putSel_on (e := (3, 37, m3_)) 0 rfl rfl (hon 3 (by kernel_rfl)) rfl
             rw [Q_X3_ (hon 3 (by kernel_rfl))] at e37
             replace ha := Aside0.mk ha
             have HBW := Aside0.mk Q_HBW
             have HL3 := Aside0.mk (Q_HL3 (hon 3 (by kernel_rfl)))
             refine goes_ Tryd.func11 (by kernel_rfl) rfl #[.slice (some ⟨gb3, 0, none⟩) 1 1] (by rfl) rfl rfl (by first | (simp only [List.map_toArray, List.map_cons, List.map_nil, Act.eval, Array.getD_eq_getD_getElem?, Option.getD_some, e37]; done) | (simp only [List.map_toArray, List.map_cons, List.map_nil, Act.eval, Array.getD_eq_getD_getElem?, Option.getD_some, e37]; rfl)) ?_
             with_reducible refine (crc_Of.oneV ⟨gb3, 0, none⟩ N1_ c0 A0 (l0.take (ji9 : Int).toNat) t109 w' (GT.below WG5.out HBW.out) HL3.out (Kd.C_below CN15.out HBW.out) HC108.out HN1.out K1.out).mono ?_
             rintro e w3_ ⟨rfl, hw_⟩
             subst hw_
             refine ⟨_, rfl, ?_⟩
             refine hK.out _ _ ⟨gb3, gb9, gb14, m3_, m9_, m14_, (by rw [ha.out]; exact putSel_upk 1 hb_ rfl rfl rfl), HBW.out, fun _ => HL3.out, fun h0_ => (Q_HL9 h0_), fun h0_ => (Q_HL14 h0_), Q_X3_, Q_X9_, Q_X14_⟩
            refine steps_cons ?_ ?_
            ·rintro b a w' ⟨gb3, gb9, gb14, m3_, m9_, m14_, ha, Q_HBW, Q_HL3, Q_HL9, Q_HL14, Q_X3_, Q_X9_, Q_X14_⟩ hb_ hon hoff
             refine ⟨_, rfl, fun K hK => ?_⟩
             have e42 : a.tmps[42]? = some (.slice A75 N2_ P2_) := by rw [ha]; exact (putSel_off rfl).trans rfl
             replace ha := Aside0.mk ha
             have HBW := Aside0.mk Q_HBW
             refine value_ (w1 := w'.alloc (.cells #[.slice A75 N2_ P2_] 24 (0, 0))) (v := .slice (some ⟨w'.heap.size, 0, none⟩) 1 1) (by rfl) rfl ?_ ?_
             ·go_simp
              try rfl
             refine hK.out _ _ ⟨gb3, w'.heap.size, gb14, m3_, (.slice (some ⟨w'.heap.size, 0, none⟩) 1 1), m14_, (by rw [ha.out]; exact putSel_upk 2 hb_ rfl rfl rfl), below_alloc HBW.out _, fun h0_ => pw_cell_below (below_alloc (Below.refl _ _) _) (Q_HL3 h0_), fun _ => by simp, fun h0_ => pw_cell_below (below_alloc (Below.refl _ _) _) (Q_HL14 h0_), Q_X3_, fun _ => rfl, Q_X14_⟩
            refine steps_cons ?_ ?_
            ·rintro b a w' ⟨gb3, gb9, gb14, m3_, m9_, m14_, ha, Q_HBW, Q_HL3, Q_HL9, Q_HL14, Q_X3_, Q_X9_, Q_X14_⟩ hb_ hon hoff
             refine ⟨_, rfl, fun K hK => ?_⟩
             have e43 : a.tmps[43]? = some (m9_) := by rw [ha]; exact putSel_on (e := (9, 43, m9_)) 2 rfl rfl (hon 9 (by kernel_rfl)) rfl
             rw [Q_X9_ (hon 9 (by kernel_rfl))] at e43
             replace ha := Aside0.mk ha
             have HBW := Aside0.mk Q_HBW
             have HL3 := Aside0.mk (Q_HL3 (hon 3 (by kernel_rfl)))
             have HL9 := Aside0.mk (Q_HL9 (hon 9 (by kernel_rfl)))
             refine goes_ Tryd.func11 (by kernel_rfl) rfl #[.slice (some ⟨gb9, 0, none⟩) 1 1] (by rfl) rfl rfl (by first | (simp only [List.map_toArray, List.map_cons, List.map_nil, Act.eval, Array.getD_eq_getD_getElem?, Option.getD_some, e43]; done) | (simp only [List.map_toArray, List.map_cons, List.map_nil, Act.eval, Array.getD_eq_getD_getElem?, Option.getD_some, e43]; rfl)) ?_
             with_reducible refine (crc_Of.oneV ⟨gb9, 0, none⟩ N2_ P2_ A75 ((l0.take (ji17 : Int).toNat).drop (ji9 : Int).toNat) t111 w' (GT.below WG5.out HBW.out) HL9.out (Kd.C_below CN25.out HBW.out) HC110.out HN2.out K2.out).mono ?_
             rintro e w3_ ⟨rfl, hw_⟩
             subst hw_
             refine ⟨_, rfl, ?_⟩
             refine hK.out _ _ ⟨gb3, gb9, gb14, m3_, m9_, m14_, (by rw [ha.out]; exact putSel_upk 3 hb_ rfl rfl rfl), HBW.out, fun _ => HL3.out, fun _ => HL9.out, fun h0_ => (Q_HL14 h0_), Q_X3_, Q_X9_, Q_X14_⟩
            refine steps_cons ?_ ?_
            ·rintro b a w' ⟨gb3, gb9, gb14, m3_, m9_, m14_, ha, Q_HBW, Q_HL3, Q_HL9, Q_HL14, Q_X3_, Q_X9_, Q_X14_⟩ hb_ hon hoff
             refine ⟨_, rfl, fun K hK => ?_⟩
             have e47 : a.tmps[47]? = some (.slice A76 N3_ P3_) := by rw [ha]; exact (putSel_off rfl).trans rfl
             replace ha := Aside0.mk ha
             have HBW := Aside0.mk Q_HBW
             refine value_ (w1 := w'.alloc (.cells #[.slice A76 N3_ P3_] 24 (0, 0))) (v := .slice (some ⟨w'.heap.size, 0, none⟩) 1 1) (by rfl) rfl ?_ ?_
             ·go_simp
              try rfl
             refine hK.out _ _ ⟨gb3, gb9, w'.heap.size, m3_, m9_, (.slice (some ⟨w'.heap.size, 0, none⟩) 1 1), (by rw [ha.out]; exact putSel_upk 4 hb_ rfl rfl rfl), below_alloc HBW.out _, fun h0_ => pw_cell_below (below_alloc (Below.refl _ _) _) (Q_HL3 h0_), fun h0_ => pw_cell_below (below_alloc (Below.refl _ _) _) (Q_HL9 h0_), fun _ => by simp, Q_X3_, Q_X9_, fun _ => rfl⟩
            refine steps_cons ?_ ?_
            ·rintro b a w' ⟨gb3, gb9, gb14, m3_, m9_, m14_, ha, Q_HBW, Q_HL3, Q_HL9, Q_HL14, Q_X3_, Q_X9_, Q_X14_⟩ hb_ hon hoff
             refine ⟨_, rfl, fun K hK => ?_⟩
             have e48 : a.tmps[48]? = some (m14_) := by rw [ha]; exact putSel_on (e := (14, 48, m14_)) 4 rfl rfl (hon 14 (by kernel_rfl)) rfl
             rw [Q_X14_ (hon 14 (by kernel_rfl))] at e48
             replace ha := Aside0.mk ha
             have HBW := Aside0.mk Q_HBW
             have HL3 := Aside0.mk (Q_HL3 (hon 3 (by kernel_rfl)))
             have HL9 := Aside0.mk (Q_HL9 (hon 9 (by kernel_rfl)))
             have HL14 := Aside0.mk (Q_HL14 (hon 14 (by kernel_rfl)))
             refine goes_ Tryd.func11 (by kernel_rfl) rfl #[.slice (some ⟨gb14, 0, none⟩) 1 1] (by rfl) rfl rfl (by first | (simp only [List.map_toArray, List.map_cons, List.map_nil, Act.eval, Array.getD_eq_getD_getElem?, Option.getD_some, e48]; done) | (simp only [List.map_toArray, List.map_cons, List.map_nil, Act.eval, Array.getD_eq_getD_getElem?, Option.getD_some, e48]; rfl)) ?_
             with_reducible refine (crc_Of.oneV ⟨gb14, 0, none⟩ N3_ P3_ A76 (l0.drop (ji17 : Int).toNat) t113 w' (GT.below WG5.out HBW.out) HL14.out (Kd.C_below CN35.out HBW.out) HC112.out HN3.out K3.out).mono ?_
             rintro e w3_ ⟨rfl, hw_⟩
             subst hw_
             refine ⟨_, rfl, ?_⟩
             refine hK.out _ _ ⟨gb3, gb9, gb14, m3_, m9_, m14_, (by rw [ha.out]; exact putSel_upk 5 hb_ rfl rfl rfl), HBW.out, fun _ => HL3.out, fun _ => HL9.out, fun _ => HL14.out, Q_X3_, Q_X9_, Q_X14_⟩
            refine steps_cons ?_ ?_
            ·rintro b a w' ⟨gb3, gb9, gb14, m3_, m9_, m14_, ha, Q_HBW, Q_HL3, Q_HL9, Q_HL14, Q_X3_, Q_X9_, Q_X14_⟩ hb_ hon hoff
             refine ⟨_, rfl, fun K hK => ?_⟩
             have e38 : a.tmps[38]? = some (.int .u32 t109) := by rw [ha]; exact putSel_on (e := (4, 38, .int .u32 t109)) 1 rfl rfl (hon 4 (by kernel_rfl)) rfl
             replace ha := Aside0.mk ha
             have HBW := Aside0.mk Q_HBW
             have HL3 := Aside0.mk (Q_HL3 (hon 3 (by kernel_rfl)))
             have HL9 := Aside0.mk (Q_HL9 (hon 9 (by kernel_rfl)))
             have HL14 := Aside0.mk (Q_HL14 (hon 14 (by kernel_rfl)))
             refine value_ (w1 := w') (v := .int .u32 t109) (by rfl) rfl ?_ ?_
             ·go_simp
              (try simp only [i64_w])
              try rfl
             refine hK.out _ _ ⟨gb3, gb9, gb14, m3_, m9_, m14_, (by rw [ha.out]; exact putSel_upk 6 hb_ rfl rfl rfl), Q_HBW, Q_HL3, Q_HL9, Q_HL14, Q_X3_, Q_X9_, Q_X14_⟩
            refine steps_cons ?_ ?_
            ·rintro b a w' ⟨gb3, gb9, gb14, m3_, m9_, m14_, ha, Q_HBW, Q_HL3, Q_HL9, Q_HL14, Q_X3_, Q_X9_, Q_X14_⟩ hb_ hon hoff
             refine ⟨_, rfl, fun K hK => ?_⟩
             have e44 : a.tmps[44]? = some (.int .u32 t111) := by rw [ha]; exact putSel_on (e := (10, 44, .int .u32 t111)) 3 rfl rfl (hon 10 (by kernel_rfl)) rfl
             replace ha := Aside0.mk ha
             have HBW := Aside0.mk Q_HBW
             have HL3 := Aside0.mk (Q_HL3 (hon 3 (by kernel_rfl)))
             have HL9 := Aside0.mk (Q_HL9 (hon 9 (by kernel_rfl)))
             have HL14 := Aside0.mk (Q_HL14 (hon 14 (by kernel_rfl)))
             refine value_ (w1 := w') (v := .int .u32 t111) (by rfl) rfl ?_ ?_
             ·go_simp
              (try simp only [i64_w])
              try rfl
             refine hK.out _ _ ⟨gb3, gb9, gb14, m3_, m9_, m14_, (by rw [ha.out]; exact putSel_upk 7 hb_ rfl rfl rfl), Q_HBW, Q_HL3, Q_HL9, Q_HL14, Q_X3_, Q_X9_, Q_X14_⟩
            refine steps_cons ?_ ?_
            ·rintro b a w' ⟨gb3, gb9, gb14, m3_, m9_, m14_, ha, Q_HBW, Q_HL3, Q_HL9, Q_HL14, Q_X3_, Q_X9_, Q_X14_⟩ hb_ hon hoff
             refine ⟨_, rfl, fun K hK => ?_⟩
             have e49 : a.tmps[49]? = some (.int .u32 t113) := by rw [ha]; exact putSel_on (e := (15, 49, .int .u32 t113)) 5 rfl rfl (hon 15 (by kernel_rfl)) rfl
             replace ha := Aside0.mk ha
             have HBW := Aside0.mk Q_HBW
             have HL3 := Aside0.mk (Q_HL3 (hon 3 (by kernel_rfl)))
             have HL9 := Aside0.mk (Q_HL9 (hon 9 (by kernel_rfl)))
             have HL14 := Aside0.mk (Q_HL14 (hon 14 (by kernel_rfl)))
             refine value_ (w1 := w') (v := .int .u32 t113) (by rfl) rfl ?_ ?_
             ·go_simp
              (try simp only [i64_w])
              try rfl
             refine hK.out _ _ ⟨gb3, gb9, gb14, m3_, m9_, m14_, (by rw [ha.out]; exact putSel_upk 8 hb_ rfl rfl rfl), Q_HBW, Q_HL3, Q_HL9, Q_HL14, Q_X3_, Q_X9_, Q_X14_⟩
            exact steps_nil
           ·rintro b a w' hall ⟨gb3, gb9, gb14, m3_, m9_, m14_, ha, Q_HBW, Q_HL3, Q_HL9, Q_HL14, Q_X3_, Q_X9_, Q_X14_⟩
            clear HBW
            have hb3_ := hall 3 (by kernel_rfl)
            have hb4_ := hall 4 (by kernel_rfl)
            have hb9_ := hall 9 (by kernel_rfl)
            have hb10_ := hall 10 (by kernel_rfl)
            have hb14_ := hall 14 (by kernel_rfl)
            have hb15_ := hall 15 (by kernel_rfl)
            have hb16_ := hall 16 (by kernel_rfl)
            have hb17_ := hall 17 (by kernel_rfl)
            have hb18_ := hall 18 (by kernel_rfl)
            subst ha
            obtain rfl := Q_X3_ hb3_
            obtain rfl := Q_X9_ hb9_
            obtain rfl := Q_X14_ hb14_
            simp only [putSel, hb3_, hb4_, hb9_, hb10_, hb14_, hb15_, hb16_, hb17_, hb18_, if_true, Act.put, List.setIfInBounds_toArray, List.set_cons_zero, List.set_cons_succ]
            have HBW := Aside0.mk Q_HBW
            clear Q_HBW
            have HL3 := Aside0.mk (Q_HL3 hb3_)
            clear Q_HL3
            have HL9 := Aside0.mk (Q_HL9 hb9_)
            clear Q_HL9
            have HL14 := Aside0.mk (Q_HL14 hb14_)
            clear Q_HL14
            clear hall hb3_ hb4_ hb9_ hb10_ hb14_ hb15_ hb16_ hb17_ hb18_
            have n0_ := Aside0.mk (below_step HB.out HBW.out)
            clear HB
            clear HBW
            have HB := n0_
            clear n0_
            try go_wp2_with (first | ((with_reducible refine gate_callee (f := 17) rfl ?_); refine goesL_ (some 55) rfl rfl Tryd.func17 (by kernel_rfl) rfl #[.int .u32 t109, .int .u32 t111, .int .i64 (wrap64 ((ji17) - (ji9)))] rfl (by (try simp only [List.map_toArray, List.map_cons, List.map_nil]); first | done | (simp only [hji17, hji9]; rfl) | rfl | (simp only [List.length_drop, List.length_take]; rfl) | (simp; done) | (simp; (repeat' apply And.intro) <;> rfl)) ?_; (with_reducible refine (crc_Join.calls t109 t111 (wrap64 ((ji17) - (ji9))) t114 _ A21.out).mono ?_); rintro e w80 ⟨rfl, hb⟩; refine ⟨_, rfl, ?_⟩; have n0_ := Aside0.mk (below_step (by repeat (first | (with_reducible first | exact HB.out | apply below_alloc | apply pw_below_drewN | apply below_drew1) | exact HB.out)) hb); clear HB; have HB := n0_; clear n0_; (try clear hb); (try clear hb2); (try clear hk); (try clear hi)) | ((with_reducible refine gate_callee (f := 17) rfl ?_); refine goesL_ (some 61) rfl rfl Tryd.func17 (by kernel_rfl) rfl #[.int .u32 t114, .int .u32 t113, .int .i64 (wrap64 ((l0.length : Int) - (ji17)))] rfl (by (try simp only [List.map_toArray, List.map_cons, List.map_nil]); first | done | (simp only [hji17]; rfl) | rfl | (simp only [List.length_drop, List.length_take]; rfl) | (simp; done) | (simp; (repeat' apply And.intro) <;> rfl)) ?_; (with_reducible refine (crc_Join.calls t114 t113 (wrap64 ((l0.length : Int) - (ji17))) t115 _ A22.out).mono ?_); rintro e w81 ⟨rfl, hb⟩; refine ⟨_, rfl, ?_⟩; have n0_ := Aside0.mk (below_step (by repeat (first | (with_reducible first | exact HB.out | apply below_alloc | apply pw_below_drewN | apply below_drew1) | exact HB.out)) hb); clear HB; have HB := n0_; clear n0_; (try clear hb); (try clear hb2); (try clear hk); (try clear hi)) | ((with_reducible refine gate_callee (f := 17) rfl ?_); refine goesL_ (some 69) rfl rfl Tryd.func17 (by kernel_rfl) rfl #[.int .u32 t111, .int .u32 t113, .int .i64 (wrap64 ((l0.length : Int) - (ji17)))] rfl (by (try simp only [List.map_toArray, List.map_cons, List.map_nil]); first | done | (simp only [hji17]; rfl) | rfl | (simp only [List.length_drop, List.length_take]; rfl) | (simp; done) | (simp; (repeat' apply And.intro) <;> rfl)) ?_; (with_reducible refine (crc_Join.calls t111 t113 (wrap64 ((l0.length : Int) - (ji17))) t116 _ A23.out).mono ?_); rintro e w82 ⟨rfl, hb⟩; refine ⟨_, rfl, ?_⟩; have n0_ := Aside0.mk (below_step (by repeat (first | (with_reducible first | exact HB.out | apply below_alloc | apply pw_below_drewN | apply below_drew1) | exact HB.out)) hb); clear HB; have HB := n0_; clear n0_; (try clear hb); (try clear hb2); (try clear hk); (try clear hi)) | ((with_reducible refine gate_callee (f := 17) rfl ?_); refine goesL_ (some 74) rfl rfl Tryd.func17 (by kernel_rfl) rfl #[.int .u32 t109, .int .u32 t116, .int .i64 (wrap64 ((l0.length : Int) - (ji9)))] rfl (by (try simp only [List.map_toArray, List.map_cons, List.map_nil]); first | done | (simp only [hji9]; rfl) | rfl | (simp only [List.length_drop, List.length_take]; rfl) | (simp; done) | (simp; (repeat' apply And.intro) <;> rfl)) ?_; (with_reducible refine (crc_Join.calls t109 t116 (wrap64 ((l0.length : Int) - (ji9))) t117 _ A24.out).mono ?_); rintro e w83 ⟨rfl, hb⟩; refine ⟨_, rfl, ?_⟩; have n0_ := Aside0.mk (below_step (by repeat (first | (with_reducible first | exact HB.out | apply below_alloc | apply pw_below_drewN | apply below_drew1) | exact HB.out)) hb); clear HB; have HB := n0_; clear n0_; (try clear hb); (try clear hb2); (try clear hk); (try clear hi)))
            have n0_ := Aside0.mk (below_drew1 HB.out)
            clear HB
            have HB := n0_
            clear n0_
            have CN18 := Aside0.mk (show Kd.C (Kd.int .u8) (w83.drew) A0 N1_ (l0.take (ji9 : Int).toNat) from Kd.C_below HR108.out HB.out)
            have CN28 := Aside0.mk (show Kd.C (Kd.int .u8) (w83.drew) A75 N2_ ((l0.take (ji17 : Int).toNat).drop (ji9 : Int).toNat) from Kd.C_below HR110.out HB.out)
            have CN38 := Aside0.mk (show Kd.C (Kd.int .u8) (w83.drew) A76 N3_ (l0.drop (ji17 : Int).toNat) from Kd.C_below HR112.out HB.out)
            have CN08 := Aside0.mk (show Kd.C (Kd.int .u8) (w83.drew) A0 l0.length l0 from Kd.C_below HR0.out HB.out)
            have HN0 : Aside0 (l0.length = l0.length) := ⟨rfl⟩
            have WG8 := Aside0.mk (GT.below HG.out HB.out)
            refine start_ (n := 30) (S := fun w' => True) (ds := []) #[F_,F_,F_,F_,F_,F_,F_,F_,F_,F_,F_,F_,F_,F_,F_,F_,F_,F_,F_,F_,F_,F_,F_,F_,F_,F_,F_,F_,F_,F_] (by kernel_rfl) rfl rfl trivial (fun hHeld => ?_)
            have HBW := True.intro
            refine with_tabW remoralaw02_CrcParts.tab8 remoralaw02_CrcParts.bits8 (fun HT_ HW_ => ?_)
            generalize w83.drew = w84 at HB CN08 CN18 CN28 CN38 WG8 hHeld ⊢
            refine pure_ (i := 0) (N := some 75) (v := ?_) (a' := ?_) #[T_,F_,F_,F_,F_,F_,F_,F_,F_,F_,F_,F_,F_,F_,F_,F_,F_,F_,F_,F_,F_,F_,F_,F_,F_,F_,F_,F_,F_,F_] rfl rfl (any_of HT_.out (by kernel_rfl)) (fun _ _ _ h => h) (Or.inl ⟨by rfl, ?_⟩) ?_ ?_
            rotate_left
            ·intro w'
             go_simp
             with_reducible rfl
            rotate_left
            ·simp only [Act.put, List.setIfInBounds_toArray, List.set_cons_zero, List.set_cons_succ, i64_w, i32_w]
             rfl
            refine pure_ (i := 1) (N := some 76) (v := ?_) (a' := ?_) #[T_,T_,F_,F_,F_,F_,F_,F_,F_,F_,F_,F_,F_,F_,F_,F_,F_,F_,F_,F_,F_,F_,F_,F_,F_,F_,F_,F_,F_,F_] rfl rfl (any_of HT_.out (by kernel_rfl)) (fun _ _ _ h => h) (Or.inl ⟨by rfl, ?_⟩) ?_ ?_
            rotate_left
            ·intro w'
             go_simp
             with_reducible rfl
            rotate_left
            ·simp only [Act.put, List.setIfInBounds_toArray, List.set_cons_zero, List.set_cons_succ, i64_w, i32_w]
             rfl
            refine inv_at [2, 3, 4, 5, 6, 7, 8, 9, 10, 11, 12, 13, 14, 15, 16, 17, 18, 19, 20, 21, 22, 23, 24, 25, 26, 27, 28, 29] (fun a0_ b a w' => ∃ (gb2 : Nat) (m2_ : Value), a = putSel a0_ b [(2, 77, m2_), (3, 78, .int .u32 t118), (4, 79, .bool true), (5, 80, .bool true), (6, 81, .int .u32 t117), (7, 82, .int .u32 t115), (8, 83, .bool false), (9, 84, .bool false), (10, 85, .bool false), (11, 86, undef), (12, 87, undef), (13, 88, undef), (14, 89, undef), (15, 90, undef), (16, 91, undef), (17, 92, undef), (18, 93, undef), (19, 94, undef), (20, 95, undef), (21, 96, undef), (22, 97, undef), (23, 98, undef), (24, 99, undef), (25, 100, .bool false), (26, 101, .bool false), (27, 102, undef), (28, 103, .bool false), (29, 6, .bool false)] ∧ (Below w84.heap.size w84 w') ∧ (b 2 = true → w'.cell? ⟨gb2, 0, none⟩ = some (.slice A0 l0.length c0)) ∧ (b 2 = true → (m2_ : Value) = .slice (some ⟨gb2, 0, none⟩) 1 1)) HT_.out HW_.out (by kernel_rfl) (by kernel_rfl) ?_ ?_ ?_
            ·exact ⟨0, .bool false, by simp only [putSel, Bool.false_eq_true, if_false], Below.refl _ _, fun h_ => absurd h_ (by decide), fun h_ => absurd h_ (by decide)⟩
            ·skip
             clear HBW
             refine steps_cons ?_ ?_
             ·rintro b a w' ⟨gb2, m2_, ha, Q_HBW, Q_HL2, Q_X2_⟩ hb_ hon hoff
              refine ⟨_, rfl, fun K hK => ?_⟩
              have e76 : a.tmps[76]? = some (.slice A0 l0.length c0) := by rw [ha]; exact (putSel_off rfl).trans rfl
              replace ha := Aside0.mk ha
              have HBW := Aside0.mk Q_HBW
              refine value_ (w1 := w'.alloc (.cells #[.slice A0 l0.length c0] 24 (0, 0))) (v := .slice (some ⟨w'.heap.size, 0, none⟩) 1 1) (by rfl) rfl ?_ ?_
              ·go_simp
               try rfl
              refine hK.out _ _ ⟨w'.heap.size, (.slice (some ⟨w'.heap.size, 0, none⟩) 1 1), (by rw [ha.out]; exact putSel_upk 0 hb_ rfl rfl rfl), below_alloc HBW.out _, fun _ => by simp, fun _ => rfl⟩
             refine steps_cons ?_ ?_
             ·rintro b a w' ⟨gb2, m2_, ha, Q_HBW, Q_HL2, Q_X2_⟩ hb_ hon hoff
              refine ⟨_, rfl, fun K hK => ?_⟩
              have e77 : a.tmps[77]? = some (m2_) := by rw [ha]; exact putSel_on (e := (2, 77, m2_)) 0 rfl rfl (hon 2 (by kernel_rfl)) rfl
              rw [Q_X2_ (hon 2 (by kernel_rfl))] at e77
              replace ha := Aside0.mk ha
              have HBW := Aside0.mk Q_HBW
              have HL2 := Aside0.mk (Q_HL2 (hon 2 (by kernel_rfl)))
              refine goes_ Tryd.func11 (by kernel_rfl) rfl #[.slice (some ⟨gb2, 0, none⟩) 1 1] (by rfl) rfl rfl (by first | (simp only [List.map_toArray, List.map_cons, List.map_nil, Act.eval, Array.getD_eq_getD_getElem?, Option.getD_some, e77]; done) | (simp only [List.map_toArray, List.map_cons, List.map_nil, Act.eval, Array.getD_eq_getD_getElem?, Option.getD_some, e77]; rfl)) ?_
              with_reducible refine (crc_Of.oneV ⟨gb2, 0, none⟩ l0.length c0 A0 l0 t118 w' (GT.below WG8.out HBW.out) HL2.out (Kd.C_below CN08.out HBW.out) HC0.out HN0.out K0.out).mono ?_
              rintro e w3_ ⟨rfl, hw_⟩
              subst hw_
              refine ⟨_, rfl, ?_⟩
              refine hK.out _ _ ⟨gb2, m2_, (by rw [ha.out]; exact putSel_upk 1 hb_ rfl rfl rfl), HBW.out, fun _ => HL2.out, Q_X2_⟩
             refine steps_cons ?_ ?_
             ·rintro b a w' ⟨gb2, m2_, ha, Q_HBW, Q_HL2, Q_X2_⟩ hb_ hon hoff
              refine ⟨_, rfl, fun K hK => ?_⟩
              have e75 : a.tmps[75]? = some (.int .u32 t115) := by rw [ha]; exact (putSel_off rfl).trans rfl
              have e78 : a.tmps[78]? = some (.int .u32 t118) := by rw [ha]; exact putSel_on (e := (3, 78, .int .u32 t118)) 1 rfl rfl (hon 3 (by kernel_rfl)) rfl
              replace ha := Aside0.mk ha
              have HBW := Aside0.mk Q_HBW
              have HL2 := Aside0.mk (Q_HL2 (hon 2 (by kernel_rfl)))
              refine value_ (w1 := w') (v := .bool true) (by rfl) rfl ?_ ?_
              ·go_simp
               (try simp only [i64_w])
               try rfl
              refine hK.out _ _ ⟨gb2, m2_, (by rw [ha.out]; exact putSel_upk 2 hb_ rfl rfl rfl), Q_HBW, Q_HL2, Q_X2_⟩
             refine steps_cons ?_ ?_
             ·rintro b a w' ⟨gb2, m2_, ha, Q_HBW, Q_HL2, Q_X2_⟩ hb_ hon hoff
              refine ⟨_, rfl, fun K hK => ?_⟩
              have e79 : a.tmps[79]? = some (.bool true) := by rw [ha]; exact putSel_on (e := (4, 79, .bool true)) 2 rfl rfl (hon 4 (by kernel_rfl)) rfl
              replace ha := Aside0.mk ha
              have HBW := Aside0.mk Q_HBW
              have HL2 := Aside0.mk (Q_HL2 (hon 2 (by kernel_rfl)))
              refine value_ (w1 := w') (v := .bool true) (by rfl) rfl ?_ ?_
              ·go_simp
               (try simp only [i64_w])
               try rfl
              refine hK.out _ _ ⟨gb2, m2_, (by rw [ha.out]; exact putSel_upk 3 hb_ rfl rfl rfl), Q_HBW, Q_HL2, Q_X2_⟩
             refine steps_cons ?_ ?_
             ·rintro b a w' ⟨gb2, m2_, ha, Q_HBW, Q_HL2, Q_X2_⟩ hb_ hon hoff
              refine ⟨_, rfl, fun K hK => ?_⟩
              have e13 : a.tmps[13]? = some (.int .u32 t117) := by rw [ha]; exact (putSel_off rfl).trans rfl
              have e80 : a.tmps[80]? = some (.bool true) := by rw [ha]; exact putSel_on (e := (5, 80, .bool true)) 3 rfl rfl (hon 5 (by kernel_rfl)) rfl
              replace ha := Aside0.mk ha
              have HBW := Aside0.mk Q_HBW
              have HL2 := Aside0.mk (Q_HL2 (hon 2 (by kernel_rfl)))
              refine value_ (w1 := w') (v := .int .u32 t117) (wanted_on rfl rfl rfl (e80.trans (by first | rfl | (simp [*]; done)))) rfl ?_ ?_
              ·go_simp
               (try simp only [i64_w])
               try rfl
              refine hK.out _ _ ⟨gb2, m2_, (by rw [ha.out]; exact putSel_upk 4 hb_ rfl rfl rfl), Q_HBW, Q_HL2, Q_X2_⟩
             refine steps_cons ?_ ?_
             ·rintro b a w' ⟨gb2, m2_, ha, Q_HBW, Q_HL2, Q_X2_⟩ hb_ hon hoff
              refine ⟨_, rfl, fun K hK => ?_⟩
              have e12 : a.tmps[12]? = some (.int .u32 t115) := by rw [ha]; exact (putSel_off rfl).trans rfl
              have e80 : a.tmps[80]? = some (.bool true) := by rw [ha]; exact putSel_on (e := (5, 80, .bool true)) 3 rfl rfl (hon 5 (by kernel_rfl)) rfl
              replace ha := Aside0.mk ha
              have HBW := Aside0.mk Q_HBW
              have HL2 := Aside0.mk (Q_HL2 (hon 2 (by kernel_rfl)))
              refine value_ (w1 := w') (v := .int .u32 t115) (wanted_on rfl rfl rfl (e80.trans (by first | rfl | (simp [*]; done)))) rfl ?_ ?_
              ·go_simp
               (try simp only [i64_w])
               try rfl
              refine hK.out _ _ ⟨gb2, m2_, (by rw [ha.out]; exact putSel_upk 5 hb_ rfl rfl rfl), Q_HBW, Q_HL2, Q_X2_⟩
             refine steps_cons ?_ ?_
             ·rintro b a w' ⟨gb2, m2_, ha, Q_HBW, Q_HL2, Q_X2_⟩ hb_ hon hoff
              refine ⟨_, rfl, fun K hK => ?_⟩
              have e81 : a.tmps[81]? = some (.int .u32 t117) := by rw [ha]; exact putSel_on (e := (6, 81, .int .u32 t117)) 4 rfl rfl (hon 6 (by kernel_rfl)) rfl
              have e82 : a.tmps[82]? = some (.int .u32 t115) := by rw [ha]; exact putSel_on (e := (7, 82, .int .u32 t115)) 5 rfl rfl (hon 7 (by kernel_rfl)) rfl
              have e80 : a.tmps[80]? = some (.bool true) := by rw [ha]; exact putSel_on (e := (5, 80, .bool true)) 3 rfl rfl (hon 5 (by kernel_rfl)) rfl
              replace ha := Aside0.mk ha
              have HBW := Aside0.mk Q_HBW
              have HL2 := Aside0.mk (Q_HL2 (hon 2 (by kernel_rfl)))
              refine value_ (w1 := w') (v := .bool false) (wanted_on rfl rfl rfl (e80.trans (by first | rfl | (simp [*]; done)))) rfl ?_ ?_
              ·go_simp
               (try simp only [i64_w])
               try rfl
              refine hK.out _ _ ⟨gb2, m2_, (by rw [ha.out]; exact putSel_upk 6 hb_ rfl rfl rfl), Q_HBW, Q_HL2, Q_X2_⟩
             refine steps_cons ?_ ?_
             ·rintro b a w' ⟨gb2, m2_, ha, Q_HBW, Q_HL2, Q_X2_⟩ hb_ hon hoff
              refine ⟨_, rfl, fun K hK => ?_⟩
              have e80 : a.tmps[80]? = some (.bool true) := by rw [ha]; exact putSel_on (e := (5, 80, .bool true)) 3 rfl rfl (hon 5 (by kernel_rfl)) rfl
              have e83 : a.tmps[83]? = some (.bool false) := by rw [ha]; exact putSel_on (e := (8, 83, .bool false)) 6 rfl rfl (hon 8 (by kernel_rfl)) rfl
              replace ha := Aside0.mk ha
              have HBW := Aside0.mk Q_HBW
              have HL2 := Aside0.mk (Q_HL2 (hon 2 (by kernel_rfl)))
              refine value_ (w1 := w') (v := .bool false) (by rfl) rfl ?_ ?_
              ·go_simp
               (try simp only [i64_w])
               try rfl
              refine hK.out _ _ ⟨gb2, m2_, (by rw [ha.out]; exact putSel_upk 7 hb_ rfl rfl rfl), Q_HBW, Q_HL2, Q_X2_⟩
             refine steps_cons ?_ ?_
             ·rintro b a w' ⟨gb2, m2_, ha, Q_HBW, Q_HL2, Q_X2_⟩ hb_ hon hoff
              refine ⟨_, rfl, fun K hK => ?_⟩
              have e84 : a.tmps[84]? = some (.bool false) := by rw [ha]; exact putSel_on (e := (9, 84, .bool false)) 7 rfl rfl (hon 9 (by kernel_rfl)) rfl
              replace ha := Aside0.mk ha
              have HBW := Aside0.mk Q_HBW
              have HL2 := Aside0.mk (Q_HL2 (hon 2 (by kernel_rfl)))
              refine value_ (w1 := w') (v := .bool false) (by rfl) rfl ?_ ?_
              ·go_simp
               (try simp only [i64_w])
               try rfl
              refine hK.out _ _ ⟨gb2, m2_, (by rw [ha.out]; exact putSel_upk 8 hb_ rfl rfl rfl), Q_HBW, Q_HL2, Q_X2_⟩
             refine steps_cons ?_ ?_
             ·rintro b a w' ⟨gb2, m2_, ha, Q_HBW, Q_HL2, Q_X2_⟩ hb_ hon hoff
              refine ⟨_, rfl, fun K hK => ?_⟩
              have e85 : a.tmps[85]? = some (.bool false) := by rw [ha]; exact putSel_on (e := (10, 85, .bool false)) 8 rfl rfl (hon 10 (by kernel_rfl)) rfl
              replace ha := Aside0.mk ha
              have HBW := Aside0.mk Q_HBW
              have HL2 := Aside0.mk (Q_HL2 (hon 2 (by kernel_rfl)))
              refine off_ (wanted_off rfl rfl rfl (e85.trans (by first | rfl | (simp [*]; done)))) ?_
              refine hK.out _ _ ⟨gb2, m2_, (by rw [ha.out]; exact putSel_upk 9 hb_ rfl rfl rfl), Q_HBW, Q_HL2, Q_X2_⟩
             refine steps_cons ?_ ?_
             ·rintro b a w' ⟨gb2, m2_, ha, Q_HBW, Q_HL2, Q_X2_⟩ hb_ hon hoff
              refine ⟨_, rfl, fun K hK => ?_⟩
              have e85 : a.tmps[85]? = some (.bool false) := by rw [ha]; exact putSel_on (e := (10, 85, .bool false)) 8 rfl rfl (hon 10 (by kernel_rfl)) rfl
              replace ha := Aside0.mk ha
              have HBW := Aside0.mk Q_HBW
              have HL2 := Aside0.mk (Q_HL2 (hon 2 (by kernel_rfl)))
              refine off_ (wanted_off rfl rfl rfl (e85.trans (by first | rfl | (simp [*]; done)))) ?_
              refine hK.out _ _ ⟨gb2, m2_, (by rw [ha.out]; exact putSel_upk 10 hb_ rfl rfl rfl), Q_HBW, Q_HL2, Q_X2_⟩
             refine steps_cons ?_ ?_
             ·rintro b a w' ⟨gb2, m2_, ha, Q_HBW, Q_HL2, Q_X2_⟩ hb_ hon hoff
              refine ⟨_, rfl, fun K hK => ?_⟩
              have e85 : a.tmps[85]? = some (.bool false) := by rw [ha]; exact putSel_on (e := (10, 85, .bool false)) 8 rfl rfl (hon 10 (by kernel_rfl)) rfl
              replace ha := Aside0.mk ha
              have HBW := Aside0.mk Q_HBW
              have HL2 := Aside0.mk (Q_HL2 (hon 2 (by kernel_rfl)))
              refine off_ (wanted_off rfl rfl rfl (e85.trans (by first | rfl | (simp [*]; done)))) ?_
              refine hK.out _ _ ⟨gb2, m2_, (by rw [ha.out]; exact putSel_upk 11 hb_ rfl rfl rfl), Q_HBW, Q_HL2, Q_X2_⟩
             refine steps_cons ?_ ?_
             ·rintro b a w' ⟨gb2, m2_, ha, Q_HBW, Q_HL2, Q_X2_⟩ hb_ hon hoff
              refine ⟨_, rfl, fun K hK => ?_⟩
              have e85 : a.tmps[85]? = some (.bool false) := by rw [ha]; exact putSel_on (e := (10, 85, .bool false)) 8 rfl rfl (hon 10 (by kernel_rfl)) rfl
              replace ha := Aside0.mk ha
              have HBW := Aside0.mk Q_HBW
              have HL2 := Aside0.mk (Q_HL2 (hon 2 (by kernel_rfl)))
              refine off_ (wanted_off rfl rfl rfl (e85.trans (by first | rfl | (simp [*]; done)))) ?_
              refine hK.out _ _ ⟨gb2, m2_, (by rw [ha.out]; exact putSel_upk 12 hb_ rfl rfl rfl), Q_HBW, Q_HL2, Q_X2_⟩
             refine steps_cons ?_ ?_
             ·rintro b a w' ⟨gb2, m2_, ha, Q_HBW, Q_HL2, Q_X2_⟩ hb_ hon hoff
              refine ⟨_, rfl, fun K hK => ?_⟩
              have e85 : a.tmps[85]? = some (.bool false) := by rw [ha]; exact putSel_on (e := (10, 85, .bool false)) 8 rfl rfl (hon 10 (by kernel_rfl)) rfl
              replace ha := Aside0.mk ha
              have HBW := Aside0.mk Q_HBW
              have HL2 := Aside0.mk (Q_HL2 (hon 2 (by kernel_rfl)))
              refine off_ (wanted_off rfl rfl rfl (e85.trans (by first | rfl | (simp [*]; done)))) ?_
              refine hK.out _ _ ⟨gb2, m2_, (by rw [ha.out]; exact putSel_upk 13 hb_ rfl rfl rfl), Q_HBW, Q_HL2, Q_X2_⟩
             refine steps_cons ?_ ?_
             ·rintro b a w' ⟨gb2, m2_, ha, Q_HBW, Q_HL2, Q_X2_⟩ hb_ hon hoff
              refine ⟨_, rfl, fun K hK => ?_⟩
              have e85 : a.tmps[85]? = some (.bool false) := by rw [ha]; exact putSel_on (e := (10, 85, .bool false)) 8 rfl rfl (hon 10 (by kernel_rfl)) rfl
              replace ha := Aside0.mk ha
              have HBW := Aside0.mk Q_HBW
              have HL2 := Aside0.mk (Q_HL2 (hon 2 (by kernel_rfl)))
              refine off_ (wanted_off rfl rfl rfl (e85.trans (by first | rfl | (simp [*]; done)))) ?_
              refine hK.out _ _ ⟨gb2, m2_, (by rw [ha.out]; exact putSel_upk 14 hb_ rfl rfl rfl), Q_HBW, Q_HL2, Q_X2_⟩
             refine steps_cons ?_ ?_
             ·rintro b a w' ⟨gb2, m2_, ha, Q_HBW, Q_HL2, Q_X2_⟩ hb_ hon hoff
              refine ⟨_, rfl, fun K hK => ?_⟩
              have e85 : a.tmps[85]? = some (.bool false) := by rw [ha]; exact putSel_on (e := (10, 85, .bool false)) 8 rfl rfl (hon 10 (by kernel_rfl)) rfl
              replace ha := Aside0.mk ha
              have HBW := Aside0.mk Q_HBW
              have HL2 := Aside0.mk (Q_HL2 (hon 2 (by kernel_rfl)))
              refine off_ (wanted_off rfl rfl rfl (e85.trans (by first | rfl | (simp [*]; done)))) ?_
              refine hK.out _ _ ⟨gb2, m2_, (by rw [ha.out]; exact putSel_upk 15 hb_ rfl rfl rfl), Q_HBW, Q_HL2, Q_X2_⟩
             refine steps_cons ?_ ?_
             ·rintro b a w' ⟨gb2, m2_, ha, Q_HBW, Q_HL2, Q_X2_⟩ hb_ hon hoff
              refine ⟨_, rfl, fun K hK => ?_⟩
              have e85 : a.tmps[85]? = some (.bool false) := by rw [ha]; exact putSel_on (e := (10, 85, .bool false)) 8 rfl rfl (hon 10 (by kernel_rfl)) rfl
              replace ha := Aside0.mk ha
              have HBW := Aside0.mk Q_HBW
              have HL2 := Aside0.mk (Q_HL2 (hon 2 (by kernel_rfl)))
              refine off_ (wanted_off rfl rfl rfl (e85.trans (by first | rfl | (simp [*]; done)))) ?_
              refine hK.out _ _ ⟨gb2, m2_, (by rw [ha.out]; exact putSel_upk 16 hb_ rfl rfl rfl), Q_HBW, Q_HL2, Q_X2_⟩
             refine steps_cons ?_ ?_
             ·rintro b a w' ⟨gb2, m2_, ha, Q_HBW, Q_HL2, Q_X2_⟩ hb_ hon hoff
              refine ⟨_, rfl, fun K hK => ?_⟩
              have e85 : a.tmps[85]? = some (.bool false) := by rw [ha]; exact putSel_on (e := (10, 85, .bool false)) 8 rfl rfl (hon 10 (by kernel_rfl)) rfl
              replace ha := Aside0.mk ha
              have HBW := Aside0.mk Q_HBW
              have HL2 := Aside0.mk (Q_HL2 (hon 2 (by kernel_rfl)))
              refine off_ (wanted_off rfl rfl rfl (e85.trans (by first | rfl | (simp [*]; done)))) ?_
              refine hK.out _ _ ⟨gb2, m2_, (by rw [ha.out]; exact putSel_upk 17 hb_ rfl rfl rfl), Q_HBW, Q_HL2, Q_X2_⟩
             refine steps_cons ?_ ?_
             ·rintro b a w' ⟨gb2, m2_, ha, Q_HBW, Q_HL2, Q_X2_⟩ hb_ hon hoff
              refine ⟨_, rfl, fun K hK => ?_⟩
              have e85 : a.tmps[85]? = some (.bool false) := by rw [ha]; exact putSel_on (e := (10, 85, .bool false)) 8 rfl rfl (hon 10 (by kernel_rfl)) rfl
              replace ha := Aside0.mk ha
              have HBW := Aside0.mk Q_HBW
              have HL2 := Aside0.mk (Q_HL2 (hon 2 (by kernel_rfl)))
              refine off_ (wanted_off rfl rfl rfl (e85.trans (by first | rfl | (simp [*]; done)))) ?_
              refine hK.out _ _ ⟨gb2, m2_, (by rw [ha.out]; exact putSel_upk 18 hb_ rfl rfl rfl), Q_HBW, Q_HL2, Q_X2_⟩
             refine steps_cons ?_ ?_
             ·rintro b a w' ⟨gb2, m2_, ha, Q_HBW, Q_HL2, Q_X2_⟩ hb_ hon hoff
              refine ⟨_, rfl, fun K hK => ?_⟩
              have e85 : a.tmps[85]? = some (.bool false) := by rw [ha]; exact putSel_on (e := (10, 85, .bool false)) 8 rfl rfl (hon 10 (by kernel_rfl)) rfl
              replace ha := Aside0.mk ha
              have HBW := Aside0.mk Q_HBW
              have HL2 := Aside0.mk (Q_HL2 (hon 2 (by kernel_rfl)))
              refine off_ (wanted_off rfl rfl rfl (e85.trans (by first | rfl | (simp [*]; done)))) ?_
              refine hK.out _ _ ⟨gb2, m2_, (by rw [ha.out]; exact putSel_upk 19 hb_ rfl rfl rfl), Q_HBW, Q_HL2, Q_X2_⟩
             refine steps_cons ?_ ?_
             ·rintro b a w' ⟨gb2, m2_, ha, Q_HBW, Q_HL2, Q_X2_⟩ hb_ hon hoff
              refine ⟨_, rfl, fun K hK => ?_⟩
              have e85 : a.tmps[85]? = some (.bool false) := by rw [ha]; exact putSel_on (e := (10, 85, .bool false)) 8 rfl rfl (hon 10 (by kernel_rfl)) rfl
              replace ha := Aside0.mk ha
              have HBW := Aside0.mk Q_HBW
              have HL2 := Aside0.mk (Q_HL2 (hon 2 (by kernel_rfl)))
              refine off_ (wanted_off rfl rfl rfl (e85.trans (by first | rfl | (simp [*]; done)))) ?_
              refine hK.out _ _ ⟨gb2, m2_, (by rw [ha.out]; exact putSel_upk 20 hb_ rfl rfl rfl), Q_HBW, Q_HL2, Q_X2_⟩
             refine steps_cons ?_ ?_
             ·rintro b a w' ⟨gb2, m2_, ha, Q_HBW, Q_HL2, Q_X2_⟩ hb_ hon hoff
              refine ⟨_, rfl, fun K hK => ?_⟩
              have e85 : a.tmps[85]? = some (.bool false) := by rw [ha]; exact putSel_on (e := (10, 85, .bool false)) 8 rfl rfl (hon 10 (by kernel_rfl)) rfl
              replace ha := Aside0.mk ha
              have HBW := Aside0.mk Q_HBW
              have HL2 := Aside0.mk (Q_HL2 (hon 2 (by kernel_rfl)))
              refine off_ (wanted_off rfl rfl rfl (e85.trans (by first | rfl | (simp [*]; done)))) ?_
              refine hK.out _ _ ⟨gb2, m2_, (by rw [ha.out]; exact putSel_upk 21 hb_ rfl rfl rfl), Q_HBW, Q_HL2, Q_X2_⟩
             refine steps_cons ?_ ?_
             ·rintro b a w' ⟨gb2, m2_, ha, Q_HBW, Q_HL2, Q_X2_⟩ hb_ hon hoff
              refine ⟨_, rfl, fun K hK => ?_⟩
              have e85 : a.tmps[85]? = some (.bool false) := by rw [ha]; exact putSel_on (e := (10, 85, .bool false)) 8 rfl rfl (hon 10 (by kernel_rfl)) rfl
              replace ha := Aside0.mk ha
              have HBW := Aside0.mk Q_HBW
              have HL2 := Aside0.mk (Q_HL2 (hon 2 (by kernel_rfl)))
              refine off_ (wanted_off rfl rfl rfl (e85.trans (by first | rfl | (simp [*]; done)))) ?_
              refine hK.out _ _ ⟨gb2, m2_, (by rw [ha.out]; exact putSel_upk 22 hb_ rfl rfl rfl), Q_HBW, Q_HL2, Q_X2_⟩
             refine steps_cons ?_ ?_
             ·rintro b a w' ⟨gb2, m2_, ha, Q_HBW, Q_HL2, Q_X2_⟩ hb_ hon hoff
              refine ⟨_, rfl, fun K hK => ?_⟩
              have e85 : a.tmps[85]? = some (.bool false) := by rw [ha]; exact putSel_on (e := (10, 85, .bool false)) 8 rfl rfl (hon 10 (by kernel_rfl)) rfl
              have e99 : a.tmps[99]? = some (undef) := by rw [ha]; exact putSel_on (e := (24, 99, undef)) 22 rfl rfl (hon 24 (by kernel_rfl)) rfl
              replace ha := Aside0.mk ha
              have HBW := Aside0.mk Q_HBW
              have HL2 := Aside0.mk (Q_HL2 (hon 2 (by kernel_rfl)))
              refine value_ (w1 := w') (v := .bool false) (by rfl) rfl ?_ ?_
              ·go_simp
               (try simp only [i64_w])
               try rfl
              refine hK.out _ _ ⟨gb2, m2_, (by rw [ha.out]; exact putSel_upk 23 hb_ rfl rfl rfl), Q_HBW, Q_HL2, Q_X2_⟩
             refine steps_cons ?_ ?_
             ·rintro b a w' ⟨gb2, m2_, ha, Q_HBW, Q_HL2, Q_X2_⟩ hb_ hon hoff
              refine ⟨_, rfl, fun K hK => ?_⟩
              have e100 : a.tmps[100]? = some (.bool false) := by rw [ha]; exact putSel_on (e := (25, 100, .bool false)) 23 rfl rfl (hon 25 (by kernel_rfl)) rfl
              replace ha := Aside0.mk ha
              have HBW := Aside0.mk Q_HBW
              have HL2 := Aside0.mk (Q_HL2 (hon 2 (by kernel_rfl)))
              refine value_ (w1 := w') (v := .bool false) (by rfl) rfl ?_ ?_
              ·go_simp
               (try simp only [i64_w])
               try rfl
              refine hK.out _ _ ⟨gb2, m2_, (by rw [ha.out]; exact putSel_upk 24 hb_ rfl rfl rfl), Q_HBW, Q_HL2, Q_X2_⟩
             refine steps_cons ?_ ?_
             ·rintro b a w' ⟨gb2, m2_, ha, Q_HBW, Q_HL2, Q_X2_⟩ hb_ hon hoff
              refine ⟨_, rfl, fun K hK => ?_⟩
              have e101 : a.tmps[101]? = some (.bool false) := by rw [ha]; exact putSel_on (e := (26, 101, .bool false)) 24 rfl rfl (hon 26 (by kernel_rfl)) rfl
              replace ha := Aside0.mk ha
              have HBW := Aside0.mk Q_HBW
              have HL2 := Aside0.mk (Q_HL2 (hon 2 (by kernel_rfl)))
              refine off_ (wanted_off rfl rfl rfl (e101.trans (by first | rfl | (simp [*]; done)))) ?_
              refine hK.out _ _ ⟨gb2, m2_, (by rw [ha.out]; exact putSel_upk 25 hb_ rfl rfl rfl), Q_HBW, Q_HL2, Q_X2_⟩
             refine steps_cons ?_ ?_
             ·rintro b a w' ⟨gb2, m2_, ha, Q_HBW, Q_HL2, Q_X2_⟩ hb_ hon hoff
              refine ⟨_, rfl, fun K hK => ?_⟩
              have e101 : a.tmps[101]? = some (.bool false) := by rw [ha]; exact putSel_on (e := (26, 101, .bool false)) 24 rfl rfl (hon 26 (by kernel_rfl)) rfl
              have e102 : a.tmps[102]? = some (undef) := by rw [ha]; exact putSel_on (e := (27, 102, undef)) 25 rfl rfl (hon 27 (by kernel_rfl)) rfl
              replace ha := Aside0.mk ha
              have HBW := Aside0.mk Q_HBW
              have HL2 := Aside0.mk (Q_HL2 (hon 2 (by kernel_rfl)))
              refine value_ (w1 := w') (v := .bool false) (by rfl) rfl ?_ ?_
              ·go_simp
               (try simp only [i64_w])
               try rfl
              refine hK.out _ _ ⟨gb2, m2_, (by rw [ha.out]; exact putSel_upk 26 hb_ rfl rfl rfl), Q_HBW, Q_HL2, Q_X2_⟩
             refine steps_cons ?_ ?_
             ·rintro b a w' ⟨gb2, m2_, ha, Q_HBW, Q_HL2, Q_X2_⟩ hb_ hon hoff
              refine ⟨_, rfl, fun K hK => ?_⟩
              have e103 : a.tmps[103]? = some (.bool false) := by rw [ha]; exact putSel_on (e := (28, 103, .bool false)) 26 rfl rfl (hon 28 (by kernel_rfl)) rfl
              replace ha := Aside0.mk ha
              have HBW := Aside0.mk Q_HBW
              have HL2 := Aside0.mk (Q_HL2 (hon 2 (by kernel_rfl)))
              refine value_ (w1 := w') (v := .bool false) (by rfl) rfl ?_ ?_
              ·go_simp
               (try simp only [i64_w])
               try rfl
              refine hK.out _ _ ⟨gb2, m2_, (by rw [ha.out]; exact putSel_upk 27 hb_ rfl rfl rfl), Q_HBW, Q_HL2, Q_X2_⟩
             exact steps_nil
            ·rintro b a w' hall ⟨gb2, m2_, ha, Q_HBW, Q_HL2, Q_X2_⟩
             clear HBW
             have hb2_ := hall 2 (by kernel_rfl)
             have hb3_ := hall 3 (by kernel_rfl)
             have hb4_ := hall 4 (by kernel_rfl)
             have hb5_ := hall 5 (by kernel_rfl)
             have hb6_ := hall 6 (by kernel_rfl)
             have hb7_ := hall 7 (by kernel_rfl)
             have hb8_ := hall 8 (by kernel_rfl)
             have hb9_ := hall 9 (by kernel_rfl)
             have hb10_ := hall 10 (by kernel_rfl)
             have hb11_ := hall 11 (by kernel_rfl)
             have hb12_ := hall 12 (by kernel_rfl)
             have hb13_ := hall 13 (by kernel_rfl)
             have hb14_ := hall 14 (by kernel_rfl)
             have hb15_ := hall 15 (by kernel_rfl)
             have hb16_ := hall 16 (by kernel_rfl)
             have hb17_ := hall 17 (by kernel_rfl)
             have hb18_ := hall 18 (by kernel_rfl)
             have hb19_ := hall 19 (by kernel_rfl)
             have hb20_ := hall 20 (by kernel_rfl)
             have hb21_ := hall 21 (by kernel_rfl)
             have hb22_ := hall 22 (by kernel_rfl)
             have hb23_ := hall 23 (by kernel_rfl)
             have hb24_ := hall 24 (by kernel_rfl)
             have hb25_ := hall 25 (by kernel_rfl)
             have hb26_ := hall 26 (by kernel_rfl)
             have hb27_ := hall 27 (by kernel_rfl)
             have hb28_ := hall 28 (by kernel_rfl)
             have hb29_ := hall 29 (by kernel_rfl)
             subst ha
             obtain rfl := Q_X2_ hb2_
             simp only [putSel, hb2_, hb3_, hb4_, hb5_, hb6_, hb7_, hb8_, hb9_, hb10_, hb11_, hb12_, hb13_, hb14_, hb15_, hb16_, hb17_, hb18_, hb19_, hb20_, hb21_, hb22_, hb23_, hb24_, hb25_, hb26_, hb27_, hb28_, hb29_, if_true, Act.put, List.setIfInBounds_toArray, List.set_cons_zero, List.set_cons_succ]
             have HBW := Aside0.mk Q_HBW
             clear Q_HBW
             have HL2 := Aside0.mk (Q_HL2 hb2_)
             clear Q_HL2
             clear hall hb2_ hb3_ hb4_ hb5_ hb6_ hb7_ hb8_ hb9_ hb10_ hb11_ hb12_ hb13_ hb14_ hb15_ hb16_ hb17_ hb18_ hb19_ hb20_ hb21_ hb22_ hb23_ hb24_ hb25_ hb26_ hb27_ hb28_ hb29_
             have n0_ := Aside0.mk (below_step HB.out HBW.out)
             clear HB
             clear HBW
             have HB := n0_
             clear n0_
             try go_wp2
             all_goals go_ret
             all_goals exact ⟨by first | rfl | (simp [errW_none, errW_some] <;> rfl) | (simp only [← hji9, ← hji17]; first | rfl | (simp [errW_none, errW_some] <;> rfl)) | (simp [*, errW_none, errW_some] <;> rfl), by repeat (first | (with_reducible first | exact HB.out | apply below_alloc | apply pw_below_drewN | apply below_drew1) | exact HB.out)⟩
         ·rw [if_neg c26] at H
          have c26b0 : (t115 == t118) = false := beq_eq_false_iff_ne.mpr c26
          have c26b1 : (t115 != t118) = true := bne_iff_ne.mpr c26
          obtain rfl := Option.some.inj H
          have c8n := beq_eq_false_iff_ne.mp c8b0
          go_enter Tryd.func9, Tryd.ntmps9
          try go_wp2
          have n0_ := Aside0.mk (below_drew1 HB.out)
          clear HB
          have HB := n0_
          clear n0_
          obtain ⟨i087, hi087, _, hsz87, _⟩ := info_parts info5
          obtain ⟨hcut87, hA87, hC87⟩ := print_take_of (P := Tryd.prog) (Value.int .u8) 0 24 5 .i64 Tryd.underlying24 hi087 hsz87 A0 c0 l0 (ji9) (of_decide_eq_true (by first | (with_reducible assumption) | assumption)) (of_decide_eq_true (by first | (with_reducible assumption) | assumption)) HC0.out
          have HR108 := Aside0.mk (Kd.C_of_reads (h1 := fun _ => rfl) (hA87 _ (Kd.reads_of_C HR0.out)))
          have HC108 := Aside0.mk hC87
          clear hA87 hC87 hi087 hsz87
          (try (have e_ := (hcut87 w).symm.trans (hcut39 w); injection e_ with e1_ e2_; injection e1_ with e3_ e4_ e5_; subst e3_))
          (try (have e_ := (hcut87 w).symm.trans (hcut51 w); injection e_ with e1_ e2_; injection e1_ with e3_ e4_ e5_; subst e3_))
          (try (have e_ := (hcut87 w).symm.trans (hcut57 w); injection e_ with e1_ e2_; injection e1_ with e3_ e4_ e5_; subst e3_))
          (try (have e_ := (hcut87 w).symm.trans (hcut69 w); injection e_ with e1_ e2_; injection e1_ with e3_ e4_ e5_; subst e3_))
          (try (have e_ := (hcut87 w).symm.trans (hcut74 w); injection e_ with e1_ e2_; injection e1_ with e3_ e4_ e5_; subst e3_))
          obtain ⟨i088, hi088, _, hsz88, _⟩ := info_parts info5
          obtain ⟨A88, hcut88, hA88, hC88⟩ := print_mid_of (P := Tryd.prog) (Value.int .u8) 0 24 5 .i64 .i64 Tryd.underlying24 hi088 hsz88 A0 c0 l0 (ji9) (ji17) (of_decide_eq_true (by first | (with_reducible assumption) | assumption)) (by first | omega | exact of_decide_eq_true (by first | (with_reducible assumption) | assumption)) (of_decide_eq_true (by first | (with_reducible assumption) | assumption)) HC0.out
          have HR110 := Aside0.mk (Kd.C_of_reads (h1 := fun _ => rfl) (hA88 _ (Kd.reads_of_C HR0.out)))
          have HC110 := Aside0.mk hC88
          clear hA88 hC88 hi088 hsz88
          (try (have e_ := (hcut88 w).symm.trans (hcut40 w); injection e_ with e1_ e2_; injection e1_ with e3_ e4_ e5_; subst e3_))
          (try (have e_ := (hcut88 w).symm.trans (hcut52 w); injection e_ with e1_ e2_; injection e1_ with e3_ e4_ e5_; subst e3_))
          (try (have e_ := (hcut88 w).symm.trans (hcut58 w); injection e_ with e1_ e2_; injection e1_ with e3_ e4_ e5_; subst e3_))
          (try (have e_ := (hcut88 w).symm.trans (hcut70 w); injection e_ with e1_ e2_; injection e1_ with e3_ e4_ e5_; subst e3_))
          (try (have e_ := (hcut88 w).symm.trans (hcut75 w); injection e_ with e1_ e2_; injection e1_ with e3_ e4_ e5_; subst e3_))
          obtain ⟨i089, hi089, _, hsz89, _⟩ := info_parts info5
          obtain ⟨A89, hcut89, hA89, hC89⟩ := print_drop_of (P := Tryd.prog) (Value.int .u8) 0 24 5 .i64 Tryd.underlying24 hi089 hsz89 A0 c0 l0 (ji17) (of_decide_eq_true (by first | (with_reducible assumption) | assumption)) (of_decide_eq_true (by first | (with_reducible assumption) | assumption)) HC0.out
          have HR112 := Aside0.mk (Kd.C_of_reads (h1 := fun _ => rfl) (hA89 _ (Kd.reads_of_C HR0.out)))
          have HC112 := Aside0.mk hC89
          clear hA89 hC89 hi089 hsz89
          (try (have e_ := (hcut89 w).symm.trans (hcut41 w); injection e_ with e1_ e2_; injection e1_ with e3_ e4_ e5_; subst e3_))
          (try (have e_ := (hcut89 w).symm.trans (hcut53 w); injection e_ with e1_ e2_; injection e1_ with e3_ e4_ e5_; subst e3_))
          (try (have e_ := (hcut89 w).symm.trans (hcut59 w); injection e_ with e1_ e2_; injection e1_ with e3_ e4_ e5_; subst e3_))
          (try (have e_ := (hcut89 w).symm.trans (hcut71 w); injection e_ with e1_ e2_; injection e1_ with e3_ e4_ e5_; subst e3_))
          (try (have e_ := (hcut89 w).symm.trans (hcut76 w); injection e_ with e1_ e2_; injection e1_ with e3_ e4_ e5_; subst e3_))
          obtain ⟨N1_, hN1_⟩ : ∃ n_ : Nat, (l0.take (ji9 : Int).toNat).length = n_ := ⟨_, rfl⟩
          rw [hN1_] at hcut87 HR108 HC108
          have HN1 := Aside0.mk hN1_
          clear hN1_
          obtain ⟨N2_, hN2_⟩ : ∃ n_ : Nat, ((l0.take (ji17 : Int).toNat).drop (ji9 : Int).toNat).length = n_ := ⟨_, rfl⟩
          rw [hN2_] at hcut88 HR110 HC110
          have HN2 := Aside0.mk hN2_
          clear hN2_
          obtain ⟨N3_, hN3_⟩ : ∃ n_ : Nat, (l0.drop (ji17 : Int).toNat).length = n_ := ⟨_, rfl⟩
          rw [hN3_] at hcut89 HR112 HC112
          have HN3 := Aside0.mk hN3_
          clear hN3_
          obtain ⟨P2_, hP2_⟩ : ∃ n_ : Nat, c0 - (ji9 : Int).toNat = n_ := ⟨_, rfl⟩
          rw [hP2_] at hcut88 HC110
          clear hP2_
          obtain ⟨P3_, hP3_⟩ : ∃ n_ : Nat, c0 - (ji17 : Int).toNat = n_ := ⟨_, rfl⟩
          rw [hP3_] at hcut89 HC112
          clear hP3_
          have K1 := Aside0.mk (Option.some.inj A12.out)
          have K2 := Aside0.mk (Option.some.inj A16.out)
          have K3 := Aside0.mk (Option.some.inj A20.out)
          have K0 := Aside0.mk (Option.some.inj A25.out)
          have CN15 := Aside0.mk (show Kd.C (Kd.int .u8) (w.drew) A0 N1_ (l0.take (ji9 : Int).toNat) from Kd.C_below HR108.out HB.out)
          have CN25 := Aside0.mk (show Kd.C (Kd.int .u8) (w.drew) A88 N2_ ((l0.take (ji17 : Int).toNat).drop (ji9 : Int).toNat) from Kd.C_below HR110.out HB.out)
          have CN35 := Aside0.mk (show Kd.C (Kd.int .u8) (w.drew) A89 N3_ (l0.drop (ji17 : Int).toNat) from Kd.C_below HR112.out HB.out)
          have WG5 := Aside0.mk (GT.below HG.out HB.out)
          refine start_ (n := 19) (S := fun w' => True) (ds := []) #[F_,F_,F_,F_,F_,F_,F_,F_,F_,F_,F_,F_,F_,F_,F_,F_,F_,F_,F_] (by kernel_rfl) rfl rfl trivial (fun hHeld => ?_)
          have HBW := True.intro
          refine with_tabW remoralaw02_CrcParts.tab5 remoralaw02_CrcParts.bits5 (fun HT_ HW_ => ?_)
          generalize w.drew = w86 at HB CN15 CN25 CN35 WG5 hHeld ⊢
          refine pure_ (i := 0) (N := some 34) (v := ?_) (a' := ?_) #[T_,F_,F_,F_,F_,F_,F_,F_,F_,F_,F_,F_,F_,F_,F_,F_,F_,F_,F_] rfl rfl (any_of HT_.out (by kernel_rfl)) (fun _ _ _ h => h) (Or.inl ⟨by rfl, ?_⟩) ?_ ?_
          rotate_left
          ·intro w'
           go_simp
           with_reducible rfl
          rotate_left
          ·simp only [Act.put, List.setIfInBounds_toArray, List.set_cons_zero, List.set_cons_succ, i64_w, i32_w]
           rfl
          refine pure_ (i := 1) (N := some 35) (v := ?_) (a' := ?_) #[T_,T_,F_,F_,F_,F_,F_,F_,F_,F_,F_,F_,F_,F_,F_,F_,F_,F_,F_] rfl rfl (any_of HT_.out (by kernel_rfl)) (fun _ _ _ h => h) (Or.inl ⟨by rfl, ?_⟩) ?_ ?_
          rotate_left
          ·intro w'
           go_simp
           with_reducible rfl
          rotate_left
          ·simp only [Act.put, List.setIfInBounds_toArray, List.set_cons_zero, List.set_cons_succ, i64_w, i32_w]
           rfl
          refine pure_ (i := 2) (N := some 36) (v := ?_) (a' := ?_) #[T_,T_,T_,F_,F_,F_,F_,F_,F_,F_,F_,F_,F_,F_,F_,F_,F_,F_,F_] rfl rfl (any_of HT_.out (by kernel_rfl)) (fun _ _ _ h => h) (Or.inl ⟨by rfl, ?_⟩) ?_ ?_
          rotate_left
          ·intro w'
           go_simp
           with_reducible rfl
          rotate_left
          ·simp only [Act.put, List.setIfInBounds_toArray, List.set_cons_zero, List.set_cons_succ, i64_w, i32_w]
           rfl
          refine pure_ (i := 5) (N := some 39) (v := ?_) (a' := ?_) #[T_,T_,T_,F_,F_,T_,F_,F_,F_,F_,F_,F_,F_,F_,F_,F_,F_,F_,F_] rfl rfl (any_of HT_.out (by kernel_rfl)) (fun _ _ _ h => h) (Or.inl ⟨by rfl, ?_⟩) ?_ ?_
          rotate_left
          ·intro w'
           go_simp
           with_reducible rfl
          rotate_left
          ·simp only [Act.put, List.setIfInBounds_toArray, List.set_cons_zero, List.set_cons_succ, i64_w, i32_w]
           rfl
          refine pure_ (i := 6) (N := some 40) (v := ?_) (a' := ?_) #[T_,T_,T_,F_,F_,T_,T_,F_,F_,F_,F_,F_,F_,F_,F_,F_,F_,F_,F_] rfl rfl (any_of HT_.out (by kernel_rfl)) (fun _ _ _ h => h) (Or.inl ⟨by rfl, ?_⟩) ?_ ?_
          rotate_left
          ·intro w'
           go_simp
           with_reducible rfl
          rotate_left
          ·simp only [Act.put, List.setIfInBounds_toArray, List.set_cons_zero, List.set_cons_succ, i64_w, i32_w]
           rfl
          refine pure_ (i := 7) (N := some 41) (v := ?_) (a' := ?_) #[T_,T_,T_,F_,F_,T_,T_,T_,F_,F_,F_,F_,F_,F_,F_,F_,F_,F_,F_] rfl rfl (any_of HT_.out (by kernel_rfl)) (fun _ _ _ h => h) (Or.inl ⟨by rfl, ?_⟩) ?_ ?_
          rotate_left
          ·intro w'
           go_simp
           with_reducible rfl
          rotate_left
          ·simp only [Act.put, List.setIfInBounds_toArray, List.set_cons_zero, List.set_cons_succ, i64_w, i32_w]
           rfl
          refine pure_ (i := 8) (N := some 42) (v := ?_) (a' := ?_) #[T_,T_,T_,F_,F_,T_,T_,T_,T_,F_,F_,F_,F_,F_,F_,F_,F_,F_,F_] rfl rfl (any_of HT_.out (by kernel_rfl)) (fun _ _ _ h => h) (Or.inl ⟨by rfl, ?_⟩) ?_ ?_
          rotate_left
          ·intro w'
           go_simp
           with_reducible rfl
          rotate_left
          ·simp only [Act.put, List.setIfInBounds_toArray, List.set_cons_zero, List.set_cons_succ, i64_w, i32_w]
           rfl
          refine pure_ (i := 11) (N := some 45) (v := ?_) (a' := ?_) #[T_,T_,T_,F_,F_,T_,T_,T_,T_,F_,F_,T_,F_,F_,F_,F_,F_,F_,F_] rfl rfl (any_of HT_.out (by kernel_rfl)) (fun _ _ _ h => h) (Or.inl ⟨by rfl, ?_⟩) ?_ ?_
          rotate_left
          ·intro w'
           go_simp
           with_reducible rfl
          rotate_left
          ·simp only [Act.put, List.setIfInBounds_toArray, List.set_cons_zero, List.set_cons_succ, i64_w, i32_w]
           rfl
          refine pure_ (i := 12) (N := some 46) (v := ?_) (a' := ?_) #[T_,T_,T_,F_,F_,T_,T_,T_,T_,F_,F_,T_,T_,F_,F_,F_,F_,F_,F_] rfl rfl (any_of HT_.out (by kernel_rfl)) (fun _ _ _ h => h) (Or.inl ⟨by rfl, ?_⟩) ?_ ?_
          rotate_left
          ·intro w'
           go_simp
           with_reducible rfl
          rotate_left
          ·simp only [Act.put, List.setIfInBounds_toArray, List.set_cons_zero, List.set_cons_succ, i64_w, i32_w]
           rfl
          refine pure_ (i := 13) (N := some 47) (v := ?_) (a' := ?_) #[T_,T_,T_,F_,F_,T_,T_,T_,T_,F_,F_,T_,T_,T_,F_,F_,F_,F_,F_] rfl rfl (any_of HT_.out (by kernel_rfl)) (fun _ _ _ h => h) (Or.inl ⟨by rfl, ?_⟩) ?_ ?_
          rotate_left
          ·intro w'
           go_simp
           with_reducible rfl
          rotate_left
          ·simp only [Act.put, List.setIfInBounds_toArray, List.set_cons_zero, List.set_cons_succ, i64_w, i32_w]
           rfl
          refine inv_at [3, 4, 9, 10, 14, 15, 16, 17, 18] (fun a0_ b a w' => ∃ (gb3 : Nat) (gb9 : Nat) (gb14 : Nat) (m3_ : Value) (m9_ : Value) (m14_ : Value), a = putSel a0_ b [(3, 37, m3_), (4, 38, .int .u32 t109), (9, 43, m9_), (10, 44, .int .u32 t111), (14, 48, m14_), (15, 49, .int .u32 t113), (16, 9, .int .u32 t109), (17, 10, .int .u32 t111), (18, 11, .int .u32 t113)] ∧ (Below w86.heap.size w86 w') ∧ (b 3 = true → w'.cell? ⟨gb3, 0, none⟩ = some (.slice A0 N1_ c0)) ∧ (b 9 = true → w'.cell? ⟨gb9, 0, none⟩ = some (.slice A88 N2_ P2_)) ∧ (b 14 = true → w'.cell? ⟨gb14, 0, none⟩ = some (.slice A89 N3_ P3_)) ∧ (b 3 = true → (m3_ : Value) = .slice (some ⟨gb3, 0, none⟩) 1 1) ∧ (b 9 = true → (m9_ : Value) = .slice (some ⟨gb9, 0, none⟩) 1 1) ∧ (b 14 = true → (m14_ : Value) = .slice (some ⟨gb14, 0, none⟩) 1 1)) HT_.out HW_.out (by kernel_rfl) (by kernel_rfl) ?_ ?_ ?_
          ·exact ⟨0, 0, 0, .bool false, .bool false, .bool false, by simp only [putSel, Bool.false_eq_true, if_false], Below.refl _ _, fun h_ => absurd h_ (by decide), fun h_ => absurd h_ (by decide), fun h_ => absurd h_ (by decide), fun h_ => absurd h_ (by decide), fun h_ => absurd h_ (by decide), fun h_ => absurd h_ (by decide)⟩
          ·skip
           clear HBW
           refine steps_cons ?_ ?_
           ·rintro b a w' ⟨gb3, gb9, gb14, m3_, m9_, m14_, ha, Q_HBW, Q_HL3, Q_HL9, Q_HL14, Q_X3_, Q_X9_, Q_X14_⟩ hb_ hon hoff
            refine ⟨_, rfl, fun K hK => ?_⟩
            have e36 : a.tmps[36]? = some (.slice A0 N1_ c0) := by rw [ha]; exact (putSel_off rfl).trans rfl
            replace ha := Aside0.mk ha
            have HBW := Aside0.mk Q_HBW
            refine value_ (w1 := w'.alloc (.cells #[.slice A0 N1_ c0] 24 (0, 0))) (v := .slice (some ⟨w'.heap.size, 0, none⟩) 1 1) (by rfl) rfl ?_ ?_
            ·go_simp
             try rfl
            refine hK.out _ _ ⟨w'.heap.size, gb9, gb14, (.slice (some ⟨w'.heap.size, 0, none⟩) 1 1), m9_, m14_, (by rw [ha.out]; exact putSel_upk 0 hb_ rfl rfl rfl), below_alloc HBW.out _, fun _ => by simp, fun h0_ => pw_cell_below (below_alloc (Below.refl _ _) _) (Q_HL9 h0_), fun h0_ => pw_cell_below (below_alloc (Below.refl _ _) _) (Q_HL14 h0_), fun _ => rfl, Q_X9_, Q_X14_⟩
           refine steps_cons ?_ ?_
           ·rintro b a w' ⟨gb3, gb9, gb14, m3_, m9_, m14_, ha, Q_HBW, Q_HL3, Q_HL9, Q_HL14, Q_X3_, Q_X9_, Q_X14_⟩ hb_ hon hoff
            refine ⟨_, rfl, fun K hK => ?_⟩
            have e37 : a.tmps[37]? = some (m3_) := by rw [ha]; exact putSel_on (e := (3, 37, m3_)) 0 rfl rfl (hon 3 (by kernel_rfl)) rfl
            rw [Q_X3_ (hon 3 (by kernel_rfl))] at e37
            replace ha := Aside0.mk ha
            have HBW := Aside0.mk Q_HBW
            have HL3 := Aside0.mk (Q_HL3 (hon 3 (by kernel_rfl)))
            refine goes_ Tryd.func11 (by kernel_rfl) rfl #[.slice (some ⟨gb3, 0, none⟩) 1 1] (by rfl) rfl rfl (by first | (simp only [List.map_toArray, List.map_cons, List.map_nil, Act.eval, Array.getD_eq_getD_getElem?, Option.getD_some, e37]; done) | (simp only [List.map_toArray, List.map_cons, List.map_nil, Act.eval, Array.getD_eq_getD_getElem?, Option.getD_some, e37]; rfl)) ?_
            with_reducible refine (crc_Of.oneV ⟨gb3, 0, none⟩ N1_ c0 A0 (l0.take (ji9 : Int).toNat) t109 w' (GT.below WG5.out HBW.out) HL3.out (Kd.C_below CN15.out HBW.out) HC108.out HN1.out K1.out).mono ?_
            rintro e w3_ ⟨rfl, hw_⟩
            subst hw_
            refine ⟨_, rfl, ?_⟩
            refine hK.out _ _ ⟨gb3, gb9, gb14, m3_, m9_, m14_, (by rw [ha.out]; exact putSel_upk 1 hb_ rfl rfl rfl), HBW.out, fun _ => HL3.out, fun h0_ => (Q_HL9 h0_), fun h0_ => (Q_HL14 h0_), Q_X3_, Q_X9_, Q_X14_⟩
           refine steps_cons ?_ ?_
           ·rintro b a w' ⟨gb3, gb9, gb14, m3_, m9_, m14_, ha, Q_HBW, Q_HL3, Q_HL9, Q_HL14, Q_X3_, Q_X9_, Q_X14_⟩ hb_ hon hoff
            refine ⟨_, rfl, fun K hK => ?_⟩
            have e42 : a.tmps[42]? = some (.slice A88 N2_ P2_) := by rw [ha]; exact (putSel_off rfl).trans rfl
            replace ha := Aside0.mk ha
            have HBW := Aside0.mk Q_HBW
            refine value_ (w1 := w'.alloc (.cells #[.slice A88 N2_ P2_] 24 (0, 0))) (v := .slice (some ⟨w'.heap.size, 0, none⟩) 1 1) (by rfl) rfl ?_ ?_
            ·go_simp
             try rfl
            refine hK.out _ _ ⟨gb3, w'.heap.size, gb14, m3_, (.slice (some ⟨w'.heap.size, 0, none⟩) 1 1), m14_, (by rw [ha.out]; exact putSel_upk 2 hb_ rfl rfl rfl), below_alloc HBW.out _, fun h0_ => pw_cell_below (below_alloc (Below.refl _ _) _) (Q_HL3 h0_), fun _ => by simp, fun h0_ => pw_cell_below (below_alloc (Below.refl _ _) _) (Q_HL14 h0_), Q_X3_, fun _ => rfl, Q_X14_⟩
           refine steps_cons ?_ ?_
           ·rintro b a w' ⟨gb3, gb9, gb14, m3_, m9_, m14_, ha, Q_HBW, Q_HL3, Q_HL9, Q_HL14, Q_X3_, Q_X9_, Q_X14_⟩ hb_ hon hoff
            refine ⟨_, rfl, fun K hK => ?_⟩
            have e43 : a.tmps[43]? = some (m9_) := by rw [ha]; exact putSel_on (e := (9, 43, m9_)) 2 rfl rfl (hon 9 (by kernel_rfl)) rfl
            rw [Q_X9_ (hon 9 (by kernel_rfl))] at e43
            replace ha := Aside0.mk ha
            have HBW := Aside0.mk Q_HBW
            have HL3 := Aside0.mk (Q_HL3 (hon 3 (by kernel_rfl)))
            have HL9 := Aside0.mk (Q_HL9 (hon 9 (by kernel_rfl)))
            refine goes_ Tryd.func11 (by kernel_rfl) rfl #[.slice (some ⟨gb9, 0, none⟩) 1 1] (by rfl) rfl rfl (by first | (simp only [List.map_toArray, List.map_cons, List.map_nil, Act.eval, Array.getD_eq_getD_getElem?, Option.getD_some, e43]; done) | (simp only [List.map_toArray, List.map_cons, List.map_nil, Act.eval, Array.getD_eq_getD_getElem?, Option.getD_some, e43]; rfl)) ?_
            with_reducible refine (crc_Of.oneV ⟨gb9, 0, none⟩ N2_ P2_ A88 ((l0.take (ji17 : Int).toNat).drop (ji9 : Int).toNat) t111 w' (GT.below WG5.out HBW.out) HL9.out (Kd.C_below CN25.out HBW.out) HC110.out HN2.out K2.out).mono ?_
            rintro e w3_ ⟨rfl, hw_⟩
            subst hw_
            refine ⟨_, rfl, ?_⟩
            refine hK.out _ _ ⟨gb3, gb9, gb14, m3_, m9_, m14_, (by rw [ha.out]; exact putSel_upk 3 hb_ rfl rfl rfl), HBW.out, fun _ => HL3.out, fun _ => HL9.out, fun h0_ => (Q_HL14 h0_), Q_X3_, Q_X9_, Q_X14_⟩
           refine steps_cons ?_ ?_
           ·rintro b a w' ⟨gb3, gb9, gb14, m3_, m9_, m14_, ha, Q_HBW, Q_HL3, Q_HL9, Q_HL14, Q_X3_, Q_X9_, Q_X14_⟩ hb_ hon hoff
            refine ⟨_, rfl, fun K hK => ?_⟩
            have e47 : a.tmps[47]? = some (.slice A89 N3_ P3_) := by rw [ha]; exact (putSel_off rfl).trans rfl
            replace ha := Aside0.mk ha
            have HBW := Aside0.mk Q_HBW
            refine value_ (w1 := w'.alloc (.cells #[.slice A89 N3_ P3_] 24 (0, 0))) (v := .slice (some ⟨w'.heap.size, 0, none⟩) 1 1) (by rfl) rfl ?_ ?_
            ·go_simp
             try rfl
            refine hK.out _ _ ⟨gb3, gb9, w'.heap.size, m3_, m9_, (.slice (some ⟨w'.heap.size, 0, none⟩) 1 1), (by rw [ha.out]; exact putSel_upk 4 hb_ rfl rfl rfl), below_alloc HBW.out _, fun h0_ => pw_cell_below (below_alloc (Below.refl _ _) _) (Q_HL3 h0_), fun h0_ => pw_cell_below (below_alloc (Below.refl _ _) _) (Q_HL9 h0_), fun _ => by simp, Q_X3_, Q_X9_, fun _ => rfl⟩
           refine steps_cons ?_ ?_
           ·rintro b a w' ⟨gb3, gb9, gb14, m3_, m9_, m14_, ha, Q_HBW, Q_HL3, Q_HL9, Q_HL14, Q_X3_, Q_X9_, Q_X14_⟩ hb_ hon hoff
            refine ⟨_, rfl, fun K hK => ?_⟩
            have e48 : a.tmps[48]? = some (m14_) := by rw [ha]; exact putSel_on (e := (14, 48, m14_)) 4 rfl rfl (hon 14 (by kernel_rfl)) rfl
            rw [Q_X14_ (hon 14 (by kernel_rfl))] at e48
            replace ha := Aside0.mk ha
            have HBW := Aside0.mk Q_HBW
            have HL3 := Aside0.mk (Q_HL3 (hon 3 (by kernel_rfl)))
            have HL9 := Aside0.mk (Q_HL9 (hon 9 (by kernel_rfl)))
            have HL14 := Aside0.mk (Q_HL14 (hon 14 (by kernel_rfl)))
            refine goes_ Tryd.func11 (by kernel_rfl) rfl #[.slice (some ⟨gb14, 0, none⟩) 1 1] (by rfl) rfl rfl (by first | (simp only [List.map_toArray, List.map_cons, List.map_nil, Act.eval, Array.getD_eq_getD_getElem?, Option.getD_some, e48]; done) | (simp only [List.map_toArray, List.map_cons, List.map_nil, Act.eval, Array.getD_eq_getD_getElem?, Option.getD_some, e48]; rfl)) ?_
            with_reducible refine (crc_Of.oneV ⟨gb14, 0, none⟩ N3_ P3_ A89 (l0.drop (ji17 : Int).toNat) t113 w' (GT.below WG5.out HBW.out) HL14.out (Kd.C_below CN35.out HBW.out) HC112.out HN3.out K3.out).mono ?_
            rintro e w3_ ⟨rfl, hw_⟩
            subst hw_
            refine ⟨_, rfl, ?_⟩
            refine hK.out _ _ ⟨gb3, gb9, gb14, m3_, m9_, m14_, (by rw [ha.out]; exact putSel_upk 5 hb_ rfl rfl rfl), HBW.out, fun _ => HL3.out, fun _ => HL9.out, fun _ => HL14.out, Q_X3_, Q_X9_, Q_X14_⟩
           refine steps_cons ?_ ?_
           ·rintro b a w' ⟨gb3, gb9, gb14, m3_, m9_, m14_, ha, Q_HBW, Q_HL3, Q_HL9, Q_HL14, Q_X3_, Q_X9_, Q_X14_⟩ hb_ hon hoff
            refine ⟨_, rfl, fun K hK => ?_⟩
            have e38 : a.tmps[38]? = some (.int .u32 t109) := by rw [ha]; exact putSel_on (e := (4, 38, .int .u32 t109)) 1 rfl rfl (hon 4 (by kernel_rfl)) rfl
            replace ha := Aside0.mk ha
            have HBW := Aside0.mk Q_HBW
            have HL3 := Aside0.mk (Q_HL3 (hon 3 (by kernel_rfl)))
            have HL9 := Aside0.mk (Q_HL9 (hon 9 (by kernel_rfl)))
            have HL14 := Aside0.mk (Q_HL14 (hon 14 (by kernel_rfl)))
            refine value_ (w1 := w') (v := .int .u32 t109) (by rfl) rfl ?_ ?_
            ·go_simp
             (try simp only [i64_w])
             try rfl
            refine hK.out _ _ ⟨gb3, gb9, gb14, m3_, m9_, m14_, (by rw [ha.out]; exact putSel_upk 6 hb_ rfl rfl rfl), Q_HBW, Q_HL3, Q_HL9, Q_HL14, Q_X3_, Q_X9_, Q_X14_⟩
           refine steps_cons ?_ ?_
           ·rintro b a w' ⟨gb3, gb9, gb14, m3_, m9_, m14_, ha, Q_HBW, Q_HL3, Q_HL9, Q_HL14, Q_X3_, Q_X9_, Q_X14_⟩ hb_ hon hoff
            refine ⟨_, rfl, fun K hK => ?_⟩
            have e44 : a.tmps[44]? = some (.int .u32 t111) := by rw [ha]; exact putSel_on (e := (10, 44, .int .u32 t111)) 3 rfl rfl (hon 10 (by kernel_rfl)) rfl
            replace ha := Aside0.mk ha
            have HBW := Aside0.mk Q_HBW
            have HL3 := Aside0.mk (Q_HL3 (hon 3 (by kernel_rfl)))
            have HL9 := Aside0.mk (Q_HL9 (hon 9 (by kernel_rfl)))
            have HL14 := Aside0.mk (Q_HL14 (hon 14 (by kernel_rfl)))
            refine value_ (w1 := w') (v := .int .u32 t111) (by rfl) rfl ?_ ?_
            ·go_simp
             (try simp only [i64_w])
             try rfl
            refine hK.out _ _ ⟨gb3, gb9, gb14, m3_, m9_, m14_, (by rw [ha.out]; exact putSel_upk 7 hb_ rfl rfl rfl), Q_HBW, Q_HL3, Q_HL9, Q_HL14, Q_X3_, Q_X9_, Q_X14_⟩
           refine steps_cons ?_ ?_
           ·rintro b a w' ⟨gb3, gb9, gb14, m3_, m9_, m14_, ha, Q_HBW, Q_HL3, Q_HL9, Q_HL14, Q_X3_, Q_X9_, Q_X14_⟩ hb_ hon hoff
            refine ⟨_, rfl, fun K hK => ?_⟩
            have e49 : a.tmps[49]? = some (.int .u32 t113) := by rw [ha]; exact putSel_on (e := (15, 49, .int .u32 t113)) 5 rfl rfl (hon 15 (by kernel_rfl)) rfl
            replace ha := Aside0.mk ha
            have HBW := Aside0.mk Q_HBW
            have HL3 := Aside0.mk (Q_HL3 (hon 3 (by kernel_rfl)))
            have HL9 := Aside0.mk (Q_HL9 (hon 9 (by kernel_rfl)))
            have HL14 := Aside0.mk (Q_HL14 (hon 14 (by kernel_rfl)))
            refine value_ (w1 := w') (v := .int .u32 t113) (by rfl) rfl ?_ ?_
            ·go_simp
             (try simp only [i64_w])
             try rfl
            refine hK.out _ _ ⟨gb3, gb9, gb14, m3_, m9_, m14_, (by rw [ha.out]; exact putSel_upk 8 hb_ rfl rfl rfl), Q_HBW, Q_HL3, Q_HL9, Q_HL14, Q_X3_, Q_X9_, Q_X14_⟩
           exact steps_nil
          ·rintro b a w' hall ⟨gb3, gb9, gb14, m3_, m9_, m14_, ha, Q_HBW, Q_HL3, Q_HL9, Q_HL14, Q_X3_, Q_X9_, Q_X14_⟩
           clear HBW
           have hb3_ := hall 3 (by kernel_rfl)
           have hb4_ := hall 4 (by kernel_rfl)
           have hb9_ := hall 9 (by kernel_rfl)
           have hb10_ := hall 10 (by kernel_rfl)
           have hb14_ := hall 14 (by kernel_rfl)
           have hb15_ := hall 15 (by kernel_rfl)
           have hb16_ := hall 16 (by kernel_rfl)
           have hb17_ := hall 17 (by kernel_rfl)
           have hb18_ := hall 18 (by kernel_rfl)
           subst ha
           obtain rfl := Q_X3_ hb3_
           obtain rfl := Q_X9_ hb9_
           obtain rfl := Q_X14_ hb14_
           simp only [putSel, hb3_, hb4_, hb9_, hb10_, hb14_, hb15_, hb16_, hb17_, hb18_, if_true, Act.put, List.setIfInBounds_toArray, List.set_cons_zero, List.set_cons_succ]
           have HBW := Aside0.mk Q_HBW
           clear Q_HBW
           have HL3 := Aside0.mk (Q_HL3 hb3_)
           clear Q_HL3
           have HL9 := Aside0.mk (Q_HL9 hb9_)
           clear Q_HL9
           have HL14 := Aside0.mk (Q_HL14 hb14_)
           clear Q_HL14
           clear hall hb3_ hb4_ hb9_ hb10_ hb14_ hb15_ hb16_ hb17_ hb18_
           have n0_ := Aside0.mk (below_step HB.out HBW.out)
           clear HB
           clear HBW
           have HB := n0_
           clear n0_
           try go_wp2_with (first | ((with_reducible refine gate_callee (f := 17) rfl ?_); refine goesL_ (some 55) rfl rfl Tryd.func17 (by kernel_rfl) rfl #[.int .u32 t109, .int .u32 t111, .int .i64 (wrap64 ((ji17) - (ji9)))] rfl (by (try simp only [List.map_toArray, List.map_cons, List.map_nil]); first | done | (simp only [hji17, hji9]; rfl) | rfl | (simp only [List.length_drop, List.length_take]; rfl) | (simp; done) | (simp; (repeat' apply And.intro) <;> rfl)) ?_; (with_reducible refine (crc_Join.calls t109 t111 (wrap64 ((ji17) - (ji9))) t114 _ A21.out).mono ?_); rintro e w93 ⟨rfl, hb⟩; refine ⟨_, rfl, ?_⟩; have n0_ := Aside0.mk (below_step (by repeat (first | (with_reducible first | exact HB.out | apply below_alloc | apply pw_below_drewN | apply below_drew1) | exact HB.out)) hb); clear HB; have HB := n0_; clear n0_; (try clear hb); (try clear hb2); (try clear hk); (try clear hi)) | ((with_reducible refine gate_callee (f := 17) rfl ?_); refine goesL_ (some 61) rfl rfl Tryd.func17 (by kernel_rfl) rfl #[.int .u32 t114, .int .u32 t113, .int .i64 (wrap64 ((l0.length : Int) - (ji17)))] rfl (by (try simp only [List.map_toArray, List.map_cons, List.map_nil]); first | done | (simp only [hji17]; rfl) | rfl | (simp only [List.length_drop, List.length_take]; rfl) | (simp; done) | (simp; (repeat' apply And.intro) <;> rfl)) ?_; (with_reducible refine (crc_Join.calls t114 t113 (wrap64 ((l0.length : Int) - (ji17))) t115 _ A22.out).mono ?_); rintro e w94 ⟨rfl, hb⟩; refine ⟨_, rfl, ?_⟩; have n0_ := Aside0.mk (below_step (by repeat (first | (with_reducible first | exact HB.out | apply below_alloc | apply pw_below_drewN | apply below_drew1) | exact HB.out)) hb); clear HB; have HB := n0_; clear n0_; (try clear hb); (try clear hb2); (try clear hk); (try clear hi)) | ((with_reducible refine gate_callee (f := 17) rfl ?_); refine goesL_ (some 69) rfl rfl Tryd.func17 (by kernel_rfl) rfl #[.int .u32 t111, .int .u32 t113, .int .i64 (wrap64 ((l0.length : Int) - (ji17)))] rfl (by (try simp only [List.map_toArray, List.map_cons, List.map_nil]); first | done | (simp only [hji17]; rfl) | rfl | (simp only [List.length_drop, List.length_take]; rfl) | (simp; done) | (simp; (repeat' apply And.intro) <;> rfl)) ?_; (with_reducible refine (crc_Join.calls t111 t113 (wrap64 ((l0.length : Int) - (ji17))) t116 _ A23.out).mono ?_); rintro e w95 ⟨rfl, hb⟩; refine ⟨_, rfl, ?_⟩; have n0_ := Aside0.mk (below_step (by repeat (first | (with_reducible first | exact HB.out | apply below_alloc | apply pw_below_drewN | apply below_drew1) | exact HB.out)) hb); clear HB; have HB := n0_; clear n0_; (try clear hb); (try clear hb2); (try clear hk); (try clear hi)) | ((with_reducible refine gate_callee (f := 17) rfl ?_); refine goesL_ (some 74) rfl rfl Tryd.func17 (by kernel_rfl) rfl #[.int .u32 t109, .int .u32 t116, .int .i64 (wrap64 ((l0.length : Int) - (ji9)))] rfl (by (try simp only [List.map_toArray, List.map_cons, List.map_nil]); first | done | (simp only [hji9]; rfl) | rfl | (simp only [List.length_drop, List.length_take]; rfl) | (simp; done) | (simp; (repeat' apply And.intro) <;> rfl)) ?_; (with_reducible refine (crc_Join.calls t109 t116 (wrap64 ((l0.length : Int) - (ji9))) t117 _ A24.out).mono ?_); rintro e w96 ⟨rfl, hb⟩; refine ⟨_, rfl, ?_⟩; have n0_ := Aside0.mk (below_step (by repeat (first | (with_reducible first | exact HB.out | apply below_alloc | apply pw_below_drewN | apply below_drew1) | exact HB.out)) hb); clear HB; have HB := n0_; clear n0_; (try clear hb); (try clear hb2); (try clear hk); (try clear hi)))
           have n0_ := Aside0.mk (below_drew1 HB.out)
           clear HB
           have HB := n0_
           clear n0_
           have CN18 := Aside0.mk (show Kd.C (Kd.int .u8) (w96.drew) A0 N1_ (l0.take (ji9 : Int).toNat) from Kd.C_below HR108.out HB.out)
           have CN28 := Aside0.mk (show Kd.C (Kd.int .u8) (w96.drew) A88 N2_ ((l0.take (ji17 : Int).toNat).drop (ji9 : Int).toNat) from Kd.C_below HR110.out HB.out)
           have CN38 := Aside0.mk (show Kd.C (Kd.int .u8) (w96.drew) A89 N3_ (l0.drop (ji17 : Int).toNat) from Kd.C_below HR112.out HB.out)
           have CN08 := Aside0.mk (show Kd.C (Kd.int .u8) (w96.drew) A0 l0.length l0 from Kd.C_below HR0.out HB.out)
           have HN0 : Aside0 (l0.length = l0.length) := ⟨rfl⟩
           have WG8 := Aside0.mk (GT.below HG.out HB.out)
           refine start_ (n := 30) (S := fun w' => True) (ds := []) #[F_,F_,F_,F_,F_,F_,F_,F_,F_,F_,F_,F_,F_,F_,F_,F_,F_,F_,F_,F_,F_,F_,F_,F_,F_,F_,F_,F_,F_,F_] (by kernel_rfl) rfl rfl trivial (fun hHeld => ?_)
           have HBW := True.intro
           refine with_tabW remoralaw02_CrcParts.tab8 remoralaw02_CrcParts.bits8 (fun HT_ HW_ => ?_)
           generalize w96.drew = w97 at HB CN08 CN18 CN28 CN38 WG8 hHeld ⊢
           refine pure_ (i := 0) (N := some 75) (v := ?_) (a' := ?_) #[T_,F_,F_,F_,F_,F_,F_,F_,F_,F_,F_,F_,F_,F_,F_,F_,F_,F_,F_,F_,F_,F_,F_,F_,F_,F_,F_,F_,F_,F_] rfl rfl (any_of HT_.out (by kernel_rfl)) (fun _ _ _ h => h) (Or.inl ⟨by rfl, ?_⟩) ?_ ?_
           rotate_left
           ·intro w'
            go_simp
            with_reducible rfl
           rotate_left
           ·simp only [Act.put, List.setIfInBounds_toArray, List.set_cons_zero, List.set_cons_succ, i64_w, i32_w]
            rfl
           refine pure_ (i := 1) (N := some 76) (v := ?_) (a' := ?_) #[T_,T_,F_,F_,F_,F_,F_,F_,F_,F_,F_,F_,F_,F_,F_,F_,F_,F_,F_,F_,F_,F_,F_,F_,F_,F_,F_,F_,F_,F_] rfl rfl (any_of HT_.out (by kernel_rfl)) (fun _ _ _ h => h) (Or.inl ⟨by rfl, ?_⟩) ?_ ?_
           rotate_left
           ·intro w'
            go_simp
            with_reducible rfl
           rotate_left
           ·simp only [Act.put, List.setIfInBounds_toArray, List.set_cons_zero, List.set_cons_succ, i64_w, i32_w]
            rfl
           refine inv_at [2, 3, 4, 5, 6, 7, 8, 9, 10, 11, 12, 13, 14, 15, 16, 17, 18, 19, 20, 21, 22, 23, 24, 25, 26, 27, 28, 29] (fun a0_ b a w' => ∃ (gb2 : Nat) (m2_ : Value), a = putSel a0_ b [(2, 77, m2_), (3, 78, .int .u32 t118), (4, 79, .bool false), (5, 80, .bool false), (6, 81, undef), (7, 82, undef), (8, 83, undef), (9, 84, .bool false), (10, 85, .bool false), (11, 86, undef), (12, 87, undef), (13, 88, undef), (14, 89, undef), (15, 90, undef), (16, 91, undef), (17, 92, undef), (18, 93, undef), (19, 94, undef), (20, 95, undef), (21, 96, undef), (22, 97, undef), (23, 98, undef), (24, 99, undef), (25, 100, .bool false), (26, 101, .bool false), (27, 102, undef), (28, 103, .bool false), (29, 6, .bool false)] ∧ (Below w97.heap.size w97 w') ∧ (b 2 = true → w'.cell? ⟨gb2, 0, none⟩ = some (.slice A0 l0.length c0)) ∧ (b 2 = true → (m2_ : Value) = .slice (some ⟨gb2, 0, none⟩) 1 1)) HT_.out HW_.out (by kernel_rfl) (by kernel_rfl) ?_ ?_ ?_
           ·exact ⟨0, .bool false, by simp only [putSel, Bool.false_eq_true, if_false], Below.refl _ _, fun h_ => absurd h_ (by decide), fun h_ => absurd h_ (by decide)⟩
           ·skip
            clear HBW
            refine steps_cons ?_ ?_
            ·rintro b a w' ⟨gb2, m2_, ha, Q_HBW, Q_HL2, Q_X2_⟩ hb_ hon hoff
             refine ⟨_, rfl, fun K hK => ?_⟩
             have e76 : a.tmps[76]? = some (.slice A0 l0.length c0) := by rw [ha]; exact (putSel_off rfl).trans rfl
             replace ha := Aside0.mk ha
             have HBW := Aside0.mk Q_HBW
             refine value_ (w1 := w'.alloc (.cells #[.slice A0 l0.length c0] 24 (0, 0))) (v := .slice (some ⟨w'.heap.size, 0, none⟩) 1 1) (by rfl) rfl ?_ ?_
             ·go_simp
              try rfl
             refine hK.out _ _ ⟨w'.heap.size, (.slice (some ⟨w'.heap.size, 0, none⟩) 1 1), (by rw [ha.out]; exact putSel_upk 0 hb_ rfl rfl rfl), below_alloc HBW.out _, fun _ => by simp, fun _ => rfl⟩
            refine steps_cons ?_ ?_
            ·rintro b a w' ⟨gb2, m2_, ha, Q_HBW, Q_HL2, Q_X2_⟩ hb_ hon hoff
             refine ⟨_, rfl, fun K hK => ?_⟩
             have e77 : a.tmps[77]? = some (m2_) := by rw [ha]; exact putSel_on (e := (2, 77, m2_)) 0 rfl rfl (hon 2 (by kernel_rfl)) rfl
             rw [Q_X2_ (hon 2 (by kernel_rfl))] at e77
             replace ha := Aside0.mk ha
             have HBW := Aside0.mk Q_HBW
             have HL2 := Aside0.mk (Q_HL2 (hon 2 (by kernel_rfl)))
             refine goes_ Tryd.func11 (by kernel_rfl) rfl #[.slice (some ⟨gb2, 0, none⟩) 1 1] (by rfl) rfl rfl (by first | (simp only [List.map_toArray, List.map_cons, List.map_nil, Act.eval, Array.getD_eq_getD_getElem?, Option.getD_some, e77]; done) | (simp only [List.map_toArray, List.map_cons, List.map_nil, Act.eval, Array.getD_eq_getD_getElem?, Option.getD_some, e77]; rfl)) ?_
             with_reducible refine (crc_Of.oneV ⟨gb2, 0, none⟩ l0.length c0 A0 l0 t118 w' (GT.below WG8.out HBW.out) HL2.out (Kd.C_below CN08.out HBW.out) HC0.out HN0.out K0.out).mono ?_
             rintro e w3_ ⟨rfl, hw_⟩
             subst hw_
             refine ⟨_, rfl, ?_⟩
             refine hK.out _ _ ⟨gb2, m2_, (by rw [ha.out]; exact putSel_upk 1 hb_ rfl rfl rfl), HBW.out, fun _ => HL2.out, Q_X2_⟩
            refine steps_cons ?_ ?_
            ·rintro b a w' ⟨gb2, m2_, ha, Q_HBW, Q_HL2, Q_X2_⟩ hb_ hon hoff
             refine ⟨_, rfl, fun K hK => ?_⟩
             have e75 : a.tmps[75]? = some (.int .u32 t115) := by rw [ha]; exact (putSel_off rfl).trans rfl
             have e78 : a.tmps[78]? = some (.int .u32 t118) := by rw [ha]; exact putSel_on (e := (3, 78, .int .u32 t118)) 1 rfl rfl (hon 3 (by kernel_rfl)) rfl
             replace ha := Aside0.mk ha
             have HBW := Aside0.mk Q_HBW
             have HL2 := Aside0.mk (Q_HL2 (hon 2 (by kernel_rfl)))
             refine value_ (w1 := w') (v := .bool false) (by rfl) rfl ?_ ?_
             ·go_simp
              (try simp only [i64_w])
              try rfl
             refine hK.out _ _ ⟨gb2, m2_, (by rw [ha.out]; exact putSel_upk 2 hb_ rfl rfl rfl), Q_HBW, Q_HL2, Q_X2_⟩
            refine steps_cons ?_ ?_
            ·rintro b a w' ⟨gb2, m2_, ha, Q_HBW, Q_HL2, Q_X2_⟩ hb_ hon hoff
             refine ⟨_, rfl, fun K hK => ?_⟩
             have e79 : a.tmps[79]? = some (.bool false) := by rw [ha]; exact putSel_on (e := (4, 79, .bool false)) 2 rfl rfl (hon 4 (by kernel_rfl)) rfl
             replace ha := Aside0.mk ha
             have HBW := Aside0.mk Q_HBW
             have HL2 := Aside0.mk (Q_HL2 (hon 2 (by kernel_rfl)))
             refine value_ (w1 := w') (v := .bool false) (by rfl) rfl ?_ ?_
             ·go_simp
              (try simp only [i64_w])
              try rfl
             refine hK.out _ _ ⟨gb2, m2_, (by rw [ha.out]; exact putSel_upk 3 hb_ rfl rfl rfl), Q_HBW, Q_HL2, Q_X2_⟩
            refine steps_cons ?_ ?_
            ·rintro b a w' ⟨gb2, m2_, ha, Q_HBW, Q_HL2, Q_X2_⟩ hb_ hon hoff
             refine ⟨_, rfl, fun K hK => ?_⟩
             have e80 : a.tmps[80]? = some (.bool false) := by rw [ha]; exact putSel_on (e := (5, 80, .bool false)) 3 rfl rfl (hon 5 (by kernel_rfl)) rfl
             replace ha := Aside0.mk ha
             have HBW := Aside0.mk Q_HBW
             have HL2 := Aside0.mk (Q_HL2 (hon 2 (by kernel_rfl)))
             refine off_ (wanted_off rfl rfl rfl (e80.trans (by first | rfl | (simp [*]; done)))) ?_
             refine hK.out _ _ ⟨gb2, m2_, (by rw [ha.out]; exact putSel_upk 4 hb_ rfl rfl rfl), Q_HBW, Q_HL2, Q_X2_⟩
            refine steps_cons ?_ ?_
            ·rintro b a w' ⟨gb2, m2_, ha, Q_HBW, Q_HL2, Q_X2_⟩ hb_ hon hoff
             refine ⟨_, rfl, fun K hK => ?_⟩
             have e80 : a.tmps[80]? = some (.bool false) := by rw [ha]; exact putSel_on (e := (5, 80, .bool false)) 3 rfl rfl (hon 5 (by kernel_rfl)) rfl
             replace ha := Aside0.mk ha
             have HBW := Aside0.mk Q_HBW
             have HL2 := Aside0.mk (Q_HL2 (hon 2 (by kernel_rfl)))
             refine off_ (wanted_off rfl rfl rfl (e80.trans (by first | rfl | (simp [*]; done)))) ?_
             refine hK.out _ _ ⟨gb2, m2_, (by rw [ha.out]; exact putSel_upk 5 hb_ rfl rfl rfl), Q_HBW, Q_HL2, Q_X2_⟩
            refine steps_cons ?_ ?_
            ·rintro b a w' ⟨gb2, m2_, ha, Q_HBW, Q_HL2, Q_X2_⟩ hb_ hon hoff
             refine ⟨_, rfl, fun K hK => ?_⟩
             have e80 : a.tmps[80]? = some (.bool false) := by rw [ha]; exact putSel_on (e := (5, 80, .bool false)) 3 rfl rfl (hon 5 (by kernel_rfl)) rfl
             replace ha := Aside0.mk ha
             have HBW := Aside0.mk Q_HBW
             have HL2 := Aside0.mk (Q_HL2 (hon 2 (by kernel_rfl)))
             refine off_ (wanted_off rfl rfl rfl (e80.trans (by first | rfl | (simp [*]; done)))) ?_
             refine hK.out _ _ ⟨gb2, m2_, (by rw [ha.out]; exact putSel_upk 6 hb_ rfl rfl rfl), Q_HBW, Q_HL2, Q_X2_⟩
            refine steps_cons ?_ ?_
            ·rintro b a w' ⟨gb2, m2_, ha, Q_HBW, Q_HL2, Q_X2_⟩ hb_ hon hoff
             refine ⟨_, rfl, fun K hK => ?_⟩
             have e80 : a.tmps[80]? = some (.bool false) := by rw [ha]; exact putSel_on (e := (5, 80, .bool false)) 3 rfl rfl (hon 5 (by kernel_rfl)) rfl
             have e83 : a.tmps[83]? = some (undef) := by rw [ha]; exact putSel_on (e := (8, 83, undef)) 6 rfl rfl (hon 8 (by kernel_rfl)) rfl
             replace ha := Aside0.mk ha
             have HBW := Aside0.mk Q_HBW
             have HL2 := Aside0.mk (Q_HL2 (hon 2 (by kernel_rfl)))
             refine value_ (w1 := w') (v := .bool false) (by rfl) rfl ?_ ?_
             ·go_simp
              (try simp only [i64_w])
              try rfl
             refine hK.out _ _ ⟨gb2, m2_, (by rw [ha.out]; exact putSel_upk 7 hb_ rfl rfl rfl), Q_HBW, Q_HL2, Q_X2_⟩
            refine steps_cons ?_ ?_
            ·rintro b a w' ⟨gb2, m2_, ha, Q_HBW, Q_HL2, Q_X2_⟩ hb_ hon hoff
             refine ⟨_, rfl, fun K hK => ?_⟩
             have e84 : a.tmps[84]? = some (.bool false) := by rw [ha]; exact putSel_on (e := (9, 84, .bool false)) 7 rfl rfl (hon 9 (by kernel_rfl)) rfl
             replace ha := Aside0.mk ha
             have HBW := Aside0.mk Q_HBW
             have HL2 := Aside0.mk (Q_HL2 (hon 2 (by kernel_rfl)))
             refine value_ (w1 := w') (v := .bool false) (by rfl) rfl ?_ ?_
             ·go_simp
              (try simp only [i64_w])
              try rfl
             refine hK.out _ _ ⟨gb2, m2_, (by rw [ha.out]; exact putSel_upk 8 hb_ rfl rfl rfl), Q_HBW, Q_HL2, Q_X2_⟩
            refine steps_cons ?_ ?_
            ·rintro b a w' ⟨gb2, m2_, ha, Q_HBW, Q_HL2, Q_X2_⟩ hb_ hon hoff
             refine ⟨_, rfl, fun K hK => ?_⟩
             have e85 : a.tmps[85]? = some (.bool false) := by rw [ha]; exact putSel_on (e := (10, 85, .bool false)) 8 rfl rfl (hon 10 (by kernel_rfl)) rfl
             replace ha := Aside0.mk ha
             have HBW := Aside0.mk Q_HBW
             have HL2 := Aside0.mk (Q_HL2 (hon 2 (by kernel_rfl)))
             refine off_ (wanted_off rfl rfl rfl (e85.trans (by first | rfl | (simp [*]; done)))) ?_
             refine hK.out _ _ ⟨gb2, m2_, (by rw [ha.out]; exact putSel_upk 9 hb_ rfl rfl rfl), Q_HBW, Q_HL2, Q_X2_⟩
            refine steps_cons ?_ ?_
            ·rintro b a w' ⟨gb2, m2_, ha, Q_HBW, Q_HL2, Q_X2_⟩ hb_ hon hoff
             refine ⟨_, rfl, fun K hK => ?_⟩
             have e85 : a.tmps[85]? = some (.bool false) := by rw [ha]; exact putSel_on (e := (10, 85, .bool false)) 8 rfl rfl (hon 10 (by kernel_rfl)) rfl
             replace ha := Aside0.mk ha
             have HBW := Aside0.mk Q_HBW
             have HL2 := Aside0.mk (Q_HL2 (hon 2 (by kernel_rfl)))
             refine off_ (wanted_off rfl rfl rfl (e85.trans (by first | rfl | (simp [*]; done)))) ?_
             refine hK.out _ _ ⟨gb2, m2_, (by rw [ha.out]; exact putSel_upk 10 hb_ rfl rfl rfl), Q_HBW, Q_HL2, Q_X2_⟩
            refine steps_cons ?_ ?_
            ·rintro b a w' ⟨gb2, m2_, ha, Q_HBW, Q_HL2, Q_X2_⟩ hb_ hon hoff
             refine ⟨_, rfl, fun K hK => ?_⟩
             have e85 : a.tmps[85]? = some (.bool false) := by rw [ha]; exact putSel_on (e := (10, 85, .bool false)) 8 rfl rfl (hon 10 (by kernel_rfl)) rfl
             replace ha := Aside0.mk ha
             have HBW := Aside0.mk Q_HBW
             have HL2 := Aside0.mk (Q_HL2 (hon 2 (by kernel_rfl)))
             refine off_ (wanted_off rfl rfl rfl (e85.trans (by first | rfl | (simp [*]; done)))) ?_
             refine hK.out _ _ ⟨gb2, m2_, (by rw [ha.out]; exact putSel_upk 11 hb_ rfl rfl rfl), Q_HBW, Q_HL2, Q_X2_⟩
            refine steps_cons ?_ ?_
            ·rintro b a w' ⟨gb2, m2_, ha, Q_HBW, Q_HL2, Q_X2_⟩ hb_ hon hoff
             refine ⟨_, rfl, fun K hK => ?_⟩
             have e85 : a.tmps[85]? = some (.bool false) := by rw [ha]; exact putSel_on (e := (10, 85, .bool false)) 8 rfl rfl (hon 10 (by kernel_rfl)) rfl
             replace ha := Aside0.mk ha
             have HBW := Aside0.mk Q_HBW
             have HL2 := Aside0.mk (Q_HL2 (hon 2 (by kernel_rfl)))
             refine off_ (wanted_off rfl rfl rfl (e85.trans (by first | rfl | (simp [*]; done)))) ?_
             refine hK.out _ _ ⟨gb2, m2_, (by rw [ha.out]; exact putSel_upk 12 hb_ rfl rfl rfl), Q_HBW, Q_HL2, Q_X2_⟩
            refine steps_cons ?_ ?_
            ·rintro b a w' ⟨gb2, m2_, ha, Q_HBW, Q_HL2, Q_X2_⟩ hb_ hon hoff
             refine ⟨_, rfl, fun K hK => ?_⟩
             have e85 : a.tmps[85]? = some (.bool false) := by rw [ha]; exact putSel_on (e := (10, 85, .bool false)) 8 rfl rfl (hon 10 (by kernel_rfl)) rfl
             replace ha := Aside0.mk ha
             have HBW := Aside0.mk Q_HBW
             have HL2 := Aside0.mk (Q_HL2 (hon 2 (by kernel_rfl)))
             refine off_ (wanted_off rfl rfl rfl (e85.trans (by first | rfl | (simp [*]; done)))) ?_
             refine hK.out _ _ ⟨gb2, m2_, (by rw [ha.out]; exact putSel_upk 13 hb_ rfl rfl rfl), Q_HBW, Q_HL2, Q_X2_⟩
            refine steps_cons ?_ ?_
            ·rintro b a w' ⟨gb2, m2_, ha, Q_HBW, Q_HL2, Q_X2_⟩ hb_ hon hoff
             refine ⟨_, rfl, fun K hK => ?_⟩
             have e85 : a.tmps[85]? = some (.bool false) := by rw [ha]; exact putSel_on (e := (10, 85, .bool false)) 8 rfl rfl (hon 10 (by kernel_rfl)) rfl
             replace ha := Aside0.mk ha
             have HBW := Aside0.mk Q_HBW
             have HL2 := Aside0.mk (Q_HL2 (hon 2 (by kernel_rfl)))
             refine off_ (wanted_off rfl rfl rfl (e85.trans (by first | rfl | (simp [*]; done)))) ?_
             refine hK.out _ _ ⟨gb2, m2_, (by rw [ha.out]; exact putSel_upk 14 hb_ rfl rfl rfl), Q_HBW, Q_HL2, Q_X2_⟩
            refine steps_cons ?_ ?_
            ·rintro b a w' ⟨gb2, m2_, ha, Q_HBW, Q_HL2, Q_X2_⟩ hb_ hon hoff
             refine ⟨_, rfl, fun K hK => ?_⟩
             have e85 : a.tmps[85]? = some (.bool false) := by rw [ha]; exact putSel_on (e := (10, 85, .bool false)) 8 rfl rfl (hon 10 (by kernel_rfl)) rfl
             replace ha := Aside0.mk ha
             have HBW := Aside0.mk Q_HBW
             have HL2 := Aside0.mk (Q_HL2 (hon 2 (by kernel_rfl)))
             refine off_ (wanted_off rfl rfl rfl (e85.trans (by first | rfl | (simp [*]; done)))) ?_
             refine hK.out _ _ ⟨gb2, m2_, (by rw [ha.out]; exact putSel_upk 15 hb_ rfl rfl rfl), Q_HBW, Q_HL2, Q_X2_⟩
            refine steps_cons ?_ ?_
            ·rintro b a w' ⟨gb2, m2_, ha, Q_HBW, Q_HL2, Q_X2_⟩ hb_ hon hoff
             refine ⟨_, rfl, fun K hK => ?_⟩
             have e85 : a.tmps[85]? = some (.bool false) := by rw [ha]; exact putSel_on (e := (10, 85, .bool false)) 8 rfl rfl (hon 10 (by kernel_rfl)) rfl
             replace ha := Aside0.mk ha
             have HBW := Aside0.mk Q_HBW
             have HL2 := Aside0.mk (Q_HL2 (hon 2 (by kernel_rfl)))
             refine off_ (wanted_off rfl rfl rfl (e85.trans (by first | rfl | (simp [*]; done)))) ?_
             refine hK.out _ _ ⟨gb2, m2_, (by rw [ha.out]; exact putSel_upk 16 hb_ rfl rfl rfl), Q_HBW, Q_HL2, Q_X2_⟩
            refine steps_cons ?_ ?_
            ·rintro b a w' ⟨gb2, m2_, ha, Q_HBW, Q_HL2, Q_X2_⟩ hb_ hon hoff
             refine ⟨_, rfl, fun K hK => ?_⟩
             have e85 : a.tmps[85]? = some (.bool false) := by rw [ha]; exact putSel_on (e := (10, 85, .bool false)) 8 rfl rfl (hon 10 (by kernel_rfl)) rfl
             replace ha := Aside0.mk ha
             have HBW := Aside0.mk Q_HBW
             have HL2 := Aside0.mk (Q_HL2 (hon 2 (by kernel_rfl)))
             refine off_ (wanted_off rfl rfl rfl (e85.trans (by first | rfl | (simp [*]; done)))) ?_
             refine hK.out _ _ ⟨gb2, m2_, (by rw [ha.out]; exact putSel_upk 17 hb_ rfl rfl rfl), Q_HBW, Q_HL2, Q_X2_⟩
            refine steps_cons ?_ ?_
            ·rintro b a w' ⟨gb2, m2_, ha, Q_HBW, Q_HL2, Q_X2_⟩ hb_ hon hoff
             refine ⟨_, rfl, fun K hK => ?_⟩
             have e85 : a.tmps[85]? = some (.bool false) := by rw [ha]; exact putSel_on (e := (10, 85, .bool false)) 8 rfl rfl (hon 10 (by kernel_rfl)) rfl
             replace ha := Aside0.mk ha
             have HBW := Aside0.mk Q_HBW
             have HL2 := Aside0.mk (Q_HL2 (hon 2 (by kernel_rfl)))
             refine off_ (wanted_off rfl rfl rfl (e85.trans (by first | rfl | (simp [*]; done)))) ?_
             refine hK.out _ _ ⟨gb2, m2_, (by rw [ha.out]; exact putSel_upk 18 hb_ rfl rfl rfl), Q_HBW, Q_HL2, Q_X2_⟩
            refine steps_cons ?_ ?_
            ·rintro b a w' ⟨gb2, m2_, ha, Q_HBW, Q_HL2, Q_X2_⟩ hb_ hon hoff
             refine ⟨_, rfl, fun K hK => ?_⟩
             have e85 : a.tmps[85]? = some (.bool false) := by rw [ha]; exact putSel_on (e := (10, 85, .bool false)) 8 rfl rfl (hon 10 (by kernel_rfl)) rfl
             replace ha := Aside0.mk ha
             have HBW := Aside0.mk Q_HBW
             have HL2 := Aside0.mk (Q_HL2 (hon 2 (by kernel_rfl)))
             refine off_ (wanted_off rfl rfl rfl (e85.trans (by first | rfl | (simp [*]; done)))) ?_
             refine hK.out _ _ ⟨gb2, m2_, (by rw [ha.out]; exact putSel_upk 19 hb_ rfl rfl rfl), Q_HBW, Q_HL2, Q_X2_⟩
            refine steps_cons ?_ ?_
            ·rintro b a w' ⟨gb2, m2_, ha, Q_HBW, Q_HL2, Q_X2_⟩ hb_ hon hoff
             refine ⟨_, rfl, fun K hK => ?_⟩
             have e85 : a.tmps[85]? = some (.bool false) := by rw [ha]; exact putSel_on (e := (10, 85, .bool false)) 8 rfl rfl (hon 10 (by kernel_rfl)) rfl
             replace ha := Aside0.mk ha
             have HBW := Aside0.mk Q_HBW
             have HL2 := Aside0.mk (Q_HL2 (hon 2 (by kernel_rfl)))
             refine off_ (wanted_off rfl rfl rfl (e85.trans (by first | rfl | (simp [*]; done)))) ?_
             refine hK.out _ _ ⟨gb2, m2_, (by rw [ha.out]; exact putSel_upk 20 hb_ rfl rfl rfl), Q_HBW, Q_HL2, Q_X2_⟩
            refine steps_cons ?_ ?_
            ·rintro b a w' ⟨gb2, m2_, ha, Q_HBW, Q_HL2, Q_X2_⟩ hb_ hon hoff
             refine ⟨_, rfl, fun K hK => ?_⟩
             have e85 : a.tmps[85]? = some (.bool false) := by rw [ha]; exact putSel_on (e := (10, 85, .bool false)) 8 rfl rfl (hon 10 (by kernel_rfl)) rfl
             replace ha := Aside0.mk ha
             have HBW := Aside0.mk Q_HBW
             have HL2 := Aside0.mk (Q_HL2 (hon 2 (by kernel_rfl)))
             refine off_ (wanted_off rfl rfl rfl (e85.trans (by first | rfl | (simp [*]; done)))) ?_
             refine hK.out _ _ ⟨gb2, m2_, (by rw [ha.out]; exact putSel_upk 21 hb_ rfl rfl rfl), Q_HBW, Q_HL2, Q_X2_⟩
            refine steps_cons ?_ ?_
            ·rintro b a w' ⟨gb2, m2_, ha, Q_HBW, Q_HL2, Q_X2_⟩ hb_ hon hoff
             refine ⟨_, rfl, fun K hK => ?_⟩
             have e85 : a.tmps[85]? = some (.bool false) := by rw [ha]; exact putSel_on (e := (10, 85, .bool false)) 8 rfl rfl (hon 10 (by kernel_rfl)) rfl
             replace ha := Aside0.mk ha
             have HBW := Aside0.mk Q_HBW
             have HL2 := Aside0.mk (Q_HL2 (hon 2 (by kernel_rfl)))
             refine off_ (wanted_off rfl rfl rfl (e85.trans (by first | rfl | (simp [*]; done)))) ?_
             refine hK.out _ _ ⟨gb2, m2_, (by rw [ha.out]; exact putSel_upk 22 hb_ rfl rfl rfl), Q_HBW, Q_HL2, Q_X2_⟩
            refine steps_cons ?_ ?_
            ·rintro b a w' ⟨gb2, m2_, ha, Q_HBW, Q_HL2, Q_X2_⟩ hb_ hon hoff
             refine ⟨_, rfl, fun K hK => ?_⟩
             have e85 : a.tmps[85]? = some (.bool false) := by rw [ha]; exact putSel_on (e := (10, 85, .bool false)) 8 rfl rfl (hon 10 (by kernel_rfl)) rfl
             have e99 : a.tmps[99]? = some (undef) := by rw [ha]; exact putSel_on (e := (24, 99, undef)) 22 rfl rfl (hon 24 (by kernel_rfl)) rfl
             replace ha := Aside0.mk ha
             have HBW := Aside0.mk Q_HBW
             have HL2 := Aside0.mk (Q_HL2 (hon 2 (by kernel_rfl)))
             refine value_ (w1 := w') (v := .bool false) (by rfl) rfl ?_ ?_
             ·go_simp
              (try simp only [i64_w])
              try rfl
             refine hK.out _ _ ⟨gb2, m2_, (by rw [ha.out]; exact putSel_upk 23 hb_ rfl rfl rfl), Q_HBW, Q_HL2, Q_X2_⟩
            refine steps_cons ?_ ?_
            ·rintro b a w' ⟨gb2, m2_, ha, Q_HBW, Q_HL2, Q_X2_⟩ hb_ hon hoff
             refine ⟨_, rfl, fun K hK => ?_⟩
             have e100 : a.tmps[100]? = some (.bool false) := by rw [ha]; exact putSel_on (e := (25, 100, .bool false)) 23 rfl rfl (hon 25 (by kernel_rfl)) rfl
             replace ha := Aside0.mk ha
             have HBW := Aside0.mk Q_HBW
             have HL2 := Aside0.mk (Q_HL2 (hon 2 (by kernel_rfl)))
             refine value_ (w1 := w') (v := .bool false) (by rfl) rfl ?_ ?_
             ·go_simp
              (try simp only [i64_w])
              try rfl
             refine hK.out _ _ ⟨gb2, m2_, (by rw [ha.out]; exact putSel_upk 24 hb_ rfl rfl rfl), Q_HBW, Q_HL2, Q_X2_⟩
            refine steps_cons ?_ ?_
            ·rintro b a w' ⟨gb2, m2_, ha, Q_HBW, Q_HL2, Q_X2_⟩ hb_ hon hoff
             refine ⟨_, rfl, fun K hK => ?_⟩
             have e101 : a.tmps[101]? = some (.bool false) := by rw [ha]; exact putSel_on (e := (26, 101, .bool false)) 24 rfl rfl (hon 26 (by kernel_rfl)) rfl
             replace ha := Aside0.mk ha
             have HBW := Aside0.mk Q_HBW
             have HL2 := Aside0.mk (Q_HL2 (hon 2 (by kernel_rfl)))
             refine off_ (wanted_off rfl rfl rfl (e101.trans (by first | rfl | (simp [*]; done)))) ?_
             refine hK.out _ _ ⟨gb2, m2_, (by rw [ha.out]; exact putSel_upk 25 hb_ rfl rfl rfl), Q_HBW, Q_HL2, Q_X2_⟩
            refine steps_cons ?_ ?_
            ·rintro b a w' ⟨gb2, m2_, ha, Q_HBW, Q_HL2, Q_X2_⟩ hb_ hon hoff
             refine ⟨_, rfl, fun K hK => ?_⟩
             have e101 : a.tmps[101]? = some (.bool false) := by rw [ha]; exact putSel_on (e := (26, 101, .bool false)) 24 rfl rfl (hon 26 (by kernel_rfl)) rfl
             have e102 : a.tmps[102]? = some (undef) := by rw [ha]; exact putSel_on (e := (27, 102, undef)) 25 rfl rfl (hon 27 (by kernel_rfl)) rfl
             replace ha := Aside0.mk ha
             have HBW := Aside0.mk Q_HBW
             have HL2 := Aside0.mk (Q_HL2 (hon 2 (by kernel_rfl)))
             refine value_ (w1 := w') (v := .bool false) (by rfl) rfl ?_ ?_
             ·go_simp
              (try simp only [i64_w])
              try rfl
             refine hK.out _ _ ⟨gb2, m2_, (by rw [ha.out]; exact putSel_upk 26 hb_ rfl rfl rfl), Q_HBW, Q_HL2, Q_X2_⟩
            refine steps_cons ?_ ?_
            ·rintro b a w' ⟨gb2, m2_, ha, Q_HBW, Q_HL2, Q_X2_⟩ hb_ hon hoff
             refine ⟨_, rfl, fun K hK => ?_⟩
             have e103 : a.tmps[103]? = some (.bool false) := by rw [ha]; exact putSel_on (e := (28, 103, .bool false)) 26 rfl rfl (hon 28 (by kernel_rfl)) rfl
             replace ha := Aside0.mk ha
             have HBW := Aside0.mk Q_HBW
             have HL2 := Aside0.mk (Q_HL2 (hon 2 (by kernel_rfl)))
             refine value_ (w1 := w') (v := .bool false) (by rfl) rfl ?_ ?_
             ·go_simp
              (try simp only [i64_w])
              try rfl
             refine hK.out _ _ ⟨gb2, m2_, (by rw [ha.out]; exact putSel_upk 27 hb_ rfl rfl rfl), Q_HBW, Q_HL2, Q_X2_⟩
            exact steps_nil
           ·rintro b a w' hall ⟨gb2, m2_, ha, Q_HBW, Q_HL2, Q_X2_⟩
            clear HBW
            have hb2_ := hall 2 (by kernel_rfl)
            have hb3_ := hall 3 (by kernel_rfl)
            have hb4_ := hall 4 (by kernel_rfl)
            have hb5_ := hall 5 (by kernel_rfl)
            have hb6_ := hall 6 (by kernel_rfl)
            have hb7_ := hall 7 (by kernel_rfl)
            have hb8_ := hall 8 (by kernel_rfl)
            have hb9_ := hall 9 (by kernel_rfl)
            have hb10_ := hall 10 (by kernel_rfl)
            have hb11_ := hall 11 (by kernel_rfl)
            have hb12_ := hall 12 (by kernel_rfl)
            have hb13_ := hall 13 (by kernel_rfl)
            have hb14_ := hall 14 (by kernel_rfl)
            have hb15_ := hall 15 (by kernel_rfl)
            have hb16_ := hall 16 (by kernel_rfl)
            have hb17_ := hall 17 (by kernel_rfl)
            have hb18_ := hall 18 (by kernel_rfl)
            have hb19_ := hall 19 (by kernel_rfl)
            have hb20_ := hall 20 (by kernel_rfl)
            have hb21_ := hall 21 (by kernel_rfl)
            have hb22_ := hall 22 (by kernel_rfl)
            have hb23_ := hall 23 (by kernel_rfl)
            have hb24_ := hall 24 (by kernel_rfl)
            have hb25_ := hall 25 (by kernel_rfl)
            have hb26_ := hall 26 (by kernel_rfl)
            have hb27_ := hall 27 (by kernel_rfl)
            have hb28_ := hall 28 (by kernel_rfl)
            have hb29_ := hall 29 (by kernel_rfl)
            subst ha
            obtain rfl := Q_X2_ hb2_
            simp only [putSel, hb2_, hb3_, hb4_, hb5_, hb6_, hb7_, hb8_, hb9_, hb10_, hb11_, hb12_, hb13_, hb14_, hb15_, hb16_, hb17_, hb18_, hb19_, hb20_, hb21_, hb22_, hb23_, hb24_, hb25_, hb26_, hb27_, hb28_, hb29_, if_true, Act.put, List.setIfInBounds_toArray, List.set_cons_zero, List.set_cons_succ]
            have HBW := Aside0.mk Q_HBW
            clear Q_HBW
            have HL2 := Aside0.mk (Q_HL2 hb2_)
            clear Q_HL2
            clear hall hb2_ hb3_ hb4_ hb5_ hb6_ hb7_ hb8_ hb9_ hb10_ hb11_ hb12_ hb13_ hb14_ hb15_ hb16_ hb17_ hb18_ hb19_ hb20_ hb21_ hb22_ hb23_ hb24_ hb25_ hb26_ hb27_ hb28_ hb29_
            have n0_ := Aside0.mk (below_step HB.out HBW.out)
            clear HB
            clear HBW
            have HB := n0_
            clear n0_
            try go_wp2
            all_goals go_ret
            all_goals exact ⟨by first | rfl | (simp [errW_none, errW_some] <;> rfl) | (simp only [← hji9, ← hji17]; first | rfl | (simp [errW_none, errW_some] <;> rfl)) | (simp [*, errW_none, errW_some] <;> rfl), by repeat (first | (with_reducible first | exact HB.out | apply below_alloc | apply pw_below_drewN | apply below_drew1) | exact HB.out)⟩
        ·rw [if_neg c18] at H
         exact absurd H (by simp)
       ·rw [if_neg c15] at H
        exact absurd H (by simp)
      ·rw [if_neg c14] at H
       exact absurd H (by simp)
     ·rw [if_neg c11] at H
      exact absurd H (by simp)
    ·rw [if_neg c10] at H
     exact absurd H (by simp)

/-- THE ONE PURE STATEMENT of remoralaw02_CrcParts: yours. -/
def remoralaw02_CrcParts.Pure : Prop := ∀ (l0 : List Int) (a1 : Int) (a2 : Int), l0.length ≤ maxLen → l0.length * 1 ≤ 140737488351232 → (∀ x ∈ l0, (Lit.int .u8 x).wf = true) → (Lit.int .u16 a1).wf = true → (Lit.int .u16 a2).wf = true → remoralaw02_CrcParts.f l0 a1 a2 = some true
theorem remoralaw02_CrcParts.walk (P : remoralaw02_CrcParts.Pure) (a0 : Option Addr) (len0 cap0 : Nat) (z0 : List Int) (a1 : Int) (a2 : Int) (w : World) (hG : GT w) (w0 : (a0 = none ∧ len0 = 0 ∧ cap0 = 0 ∧ z0 = []) ∨ ∃ x, a0 = some x ∧ len0 ≤ cap0 ∧ cap0 ≤ maxLen ∧ z0.length = cap0 ∧ (∀ i, i < z0.length → w.cell? (x.add i) = some (.int .u8 (z0.getD i 0))) ∧ ∀ n ∈ z0, (Lit.int .u8 n).wf = true) (y0 : len0 * 1 ≤ 140737488351232) (w1 : (Lit.int .u16 a1).wf = true) (w2 : (Lit.int .u16 a2).wf = true) :
  Calls Tryd.prog 9 #[.slice a0 len0 cap0, .int .u16 a1, .int .u16 a2] w fun e w' => e = .returned (.bool true) ∧ Below w.heap.size w w' := by
 obtain ⟨l0, rfl, hr0, hm0, hw0, hc0⟩ := ReadsInt.ofRowC w0
 have h := P l0 a1 a2 hm0 y0 hw0 w1 w2
 refine (remoralaw02_CrcParts.calls _ _ l0 a1 a2 true w hG (Kd.C_of_reads (d := (0 : Int)) (h1 := fun _ => rfl) hr0) hc0 h).mono ?_
 rintro e w' ⟨rfl, hd⟩
 exact ⟨rfl, hd⟩


end Go.Proofs.YtplpckppejnicaaDoor.P
