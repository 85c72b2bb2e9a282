/- What Get tells at the head of any bytes. -/
import Derived.Test.YthehhbfiaaadgaaDoorFrameSpec
import Derived.Test.YthehhbfiaaadgaaDoorPx6
set_option linter.unusedVariables false
namespace Go.Proofs.YthehhbfiaaadgaaDoor.Pure
open Go.RowKit Go.Proofs.YthehhbfiaaadgaaDoor.P Go.Proofs.YthehhbfiaaadgaaDoorW.PrintWords Go.Proofs.YthehhbfiaaadgaaDoorW.PrintLast Go.Proofs.YthehhbfiaaadgaaDoorW.PrintMore Go.Proofs.YthehhbfiaaadgaaDoor.Num
theorem open_cases (l : List Int) (h4 : 4 ≤ l.length) (hl : l.length ≤ 140737488355328) : ∃ o1 o2, crc_Open.f l = some (o1, o2) ∧ (o2 = 0 ∨ o2 = 6) := by
  unfold crc_Open.f
  rw [if_neg (by omega), if_pos hl]
  split
  · exact ⟨_, _, rfl, .inl rfl⟩
  · exact ⟨_, _, rfl, .inr rfl⟩
theorem get_facts (l : List Int) (hb : Byte l) (hl : l.length ≤ 140737488351232) (k : Nat) (hk : 20 ≤ k) : ∃ x, frame_Get.f (k + 1) l 0 = some x ∧
    ((x.2.2.2 = 0 ∧ 0 ≤ x.1 ∧ x.1 ≤ 255 ∧ Byte x.2.1 ∧ x.2.1.length ≤ l.length ∧ 0 < x.2.2.1 ∧ x.2.2.1 ≤ (l.length : Int)) ∨ (x.2.2.2 ≠ 0 ∧ x = (0, [], 0, x.2.2.2))) := by
  unfold frame_Get.f
  rw [if_neg (show ¬ ((0 : Int) < 0 ∨ (l.length : Int) < 0) by omega)]
  by_cases h3 : (0 : Int) = (l.length : Int)
  · rw [if_pos h3]
    exact ⟨_, rfl, .inr ⟨by show (4 : Int) ≠ 0; decide, rfl⟩⟩
  have hpos : 0 < (l.length : Int) := by omega
  rw [if_neg h3, get_f (k + 1) l (0 + 1) (by omega) hb (by omega), Option.bind_some]
  rcases getS_range l (0 + 1) hb with ⟨hw, _⟩ | ⟨hw, x, hn, hx, _, hf, hfl, _⟩
  · rw [if_neg hw]
    exact ⟨_, rfl, .inr ⟨hw, rfl⟩⟩
  rw [if_pos hw]
  have hp := enc_pos x
  have h9 := enc_len9 (n := x) (by omega)
  generalize hfr : (getS l (0 + 1)).2.1 = fr at hf ⊢
  generalize hnn : (getS l (0 + 1)).1 = n at hn ⊢
  clear hfr hnn hw
  have hfr2 : 0 + 1 ≤ fr ∧ fr ≤ (l.length : Int) ∧ fr ≤ 0 + 10 := by omega
  clear hf hfl
  by_cases h4 : n ≤ 524288
  rotate_left
  · rw [if_neg h4]
    exact ⟨_, rfl, .inr ⟨by show (7 : Int) ≠ 0; decide, rfl⟩⟩
  rw [if_pos h4, w64' (n := n + 4) (by omega) (by omega), w64' (n := (l.length : Int) - fr) (by omega) (by omega)]
  by_cases h5 : n + 4 ≤ (l.length : Int) - fr
  rotate_left
  · rw [if_neg h5]
    exact ⟨_, rfl, .inr ⟨by show (4 : Int) ≠ 0; decide, rfl⟩⟩
  rw [if_pos h5, w64' (n := fr + n) (by omega) (by omega), w64' (n := fr + n + 4) (by omega) (by omega), if_pos ⟨by omega, by omega, by omega, by omega, by omega, by omega⟩]
  have hLO : ((l.take (fr + n + 4).toNat).drop (0 : Int).toNat).length = (fr + n + 4 - 0).toNat := by rw [List.length_drop, List.length_take]; omega
  obtain ⟨o1, o2, ho, ho2⟩ := open_cases ((l.take (fr + n + 4).toNat).drop (0 : Int).toNat) (by rw [hLO]; omega) (by rw [hLO]; omega)
  rw [ho, Option.bind_some]
  dsimp only
  have hB : ((l.take (fr + n).toNat).drop fr.toNat).length = n.toNat := by rw [List.length_drop, List.length_take]; omega
  rcases ho2 with rfl | rfl
  · rw [if_pos rfl]
    have hr := rd_byt (show Byt l from hb) 0
    exact ⟨_, rfl, .inl ⟨rfl, by rw [w64' (by omega) (by omega)]; exact hr.1, by rw [w64' (by omega) (by omega)]; exact hr.2, fun y hy => hb y (List.mem_of_mem_take (List.mem_of_mem_drop hy)), by rw [hB]; omega, by show 0 < fr + n + 4; omega, by show fr + n + 4 ≤ _; omega⟩⟩
  · rw [if_neg (show ¬ ((6 : Int) = 0) by decide)]
    exact ⟨_, rfl, .inr ⟨by show (6 : Int) ≠ 0; decide, rfl⟩⟩
/-- What Get tells at the head of these bytes. -/
def getH (l : List Int) : Int × List Int × Int × Int := (frame_Get.f 2000001 l 0).getD (0, [], 0, 4)
theorem getH_f (l : List Int) (hb : Byte l) (hl : l.length ≤ 140737488351232) : frame_Get.f 2000001 l 0 = some (getH l) ∧
    (((getH l).2.2.2 = 0 ∧ 0 ≤ (getH l).1 ∧ (getH l).1 ≤ 255 ∧ Byte (getH l).2.1 ∧ (getH l).2.1.length ≤ l.length ∧ 0 < (getH l).2.2.1 ∧ (getH l).2.2.1 ≤ (l.length : Int)) ∨ ((getH l).2.2.2 ≠ 0 ∧ getH l = (0, [], 0, (getH l).2.2.2))) := by
  obtain ⟨x, hx, h⟩ := get_facts l hb hl 2000000 (by omega)
  have e : getH l = x := by unfold getH; rw [hx]; rfl
  rw [e]
  exact ⟨hx, h⟩
end Go.Proofs.YthehhbfiaaadgaaDoor.Pure
