/- The law FrameGets: Get agrees with the reference. For every bytes and every place. -/
import Derived.Test.YtmllikjhflnngaaDoorNumRef
import Derived.Test.YtmllikjhflnngaaDoorCrcOpenRef
import Derived.Test.YtmllikjhflnngaaDoorPx13
import Derived.Test.YtmllikjhflnngaaDoorPx14
import Derived.Test.YtmllikjhflnngaaDoorPx18
import Derived.Test.YtmllikjhflnngaaDoorPx19
set_option linter.unusedVariables false
namespace Go.Proofs.YtmllikjhflnngaaDoor.Pure
open Go.RowKit Go.Proofs.YtmllikjhflnngaaDoor.P Go.Proofs.YtmllikjhflnngaaDoorW.PrintWords Go.Proofs.YtmllikjhflnngaaDoorW.PrintLast Go.Proofs.YtmllikjhflnngaaDoorW.PrintMore Go.Proofs.YtmllikjhflnngaaDoor.Crc Go.Proofs.YtmllikjhflnngaaDoor.Num
theorem open_cases (l : List Int) (h4 : 4 ≤ l.length) (hl : l.length ≤ 140737488355328) : ∃ o1 o2, crc_Open.f l = some (o1, o2) ∧ (o2 = 0 ∨ o2 = 6) := by
  unfold crc_Open.f
  rw [if_neg (by omega), if_pos hl]
  split
  · exact ⟨_, _, rfl, .inl rfl⟩
  · exact ⟨_, _, rfl, .inr rfl⟩
theorem gets_eq (l : List Int) (hb : Byte l) (hl : l.length ≤ 140737488351232) (a : Int) (k : Nat) (hk : 2000000 ≤ k) : ∃ x, frame_Get.f (k + 1) l a = some x ∧ remoraref29_Get.f (k + 1) l a = some x := by
  unfold frame_Get.f remoraref29_Get.f
  by_cases h1 : a < 0
  · rw [if_pos (.inl h1), if_pos h1]
    exact ⟨_, rfl, by simp only [remoraref29_Get.j0]; rfl⟩
  rw [if_neg h1]
  simp only [remoraref29_Get.j0]
  by_cases h2 : (l.length : Int) < a
  · rw [if_pos (.inr h2), if_pos (decide_eq_true h2)]
    exact ⟨_, rfl, rfl⟩
  have e2 : decide (a > (l.length : Int)) = false := decide_eq_false h2
  rw [if_neg (fun h => h.elim h1 h2), e2, if_neg (show ¬ (false = true) by simp)]
  by_cases h3 : a = (l.length : Int)
  · rw [if_pos h3, if_pos h3]
    exact ⟨_, rfl, rfl⟩
  rw [if_neg h3, if_neg h3, w64' (n := a + 1) (by omega) (by omega), get_f (k + 1) l (a + 1) (by omega) hb (by omega), refGet_f k l (a + 1) (by omega) hb (by omega), Option.bind_some, Option.bind_some]
  rcases getS_range l (a + 1) hb with ⟨hw, _⟩ | ⟨hw, x, hn, hx, _, hf, hfl, _⟩
  · rw [if_neg hw, if_neg hw]
    exact ⟨_, rfl, rfl⟩
  rw [if_pos hw, if_pos hw]
  have hp := enc_pos x
  have h9 := enc_len9 (n := x) (by omega)
  generalize hfr : (getS l (a + 1)).2.1 = fr at hf ⊢
  generalize hnn : (getS l (a + 1)).1 = n at hn ⊢
  clear hfr hnn hw
  have hfr2 : a + 1 ≤ fr ∧ fr ≤ (l.length : Int) ∧ fr ≤ a + 10 := by omega
  clear hf hfl
  by_cases h4 : n ≤ 524288
  rotate_left
  · rw [if_neg h4, if_pos (show n > 524288 by omega)]
    exact ⟨_, rfl, rfl⟩
  rw [if_pos h4, if_neg (show ¬ n > 524288 by omega), w64' (n := n + 4) (by omega) (by omega), w64' (n := (l.length : Int) - fr) (by omega) (by omega)]
  by_cases h5 : n + 4 ≤ (l.length : Int) - fr
  rotate_left
  · rw [if_neg h5, if_pos (show n + 4 > (l.length : Int) - fr by omega)]
    exact ⟨_, rfl, rfl⟩
  rw [if_pos h5, if_neg (show ¬ (n + 4 > (l.length : Int) - fr) by omega), w64' (n := fr + n) (by omega) (by omega), w64' (n := fr + n + 4) (by omega) (by omega), if_pos ⟨by omega, by omega, by omega, by omega, by omega, by omega⟩]
  have hLO : ((l.take (fr + n + 4).toNat).drop a.toNat).length = (fr + n + 4 - a).toNat := by rw [List.length_drop, List.length_take]; omega
  have hLOb : Byte ((l.take (fr + n + 4).toNat).drop a.toNat) := fun y hy => hb y (List.mem_of_mem_take (List.mem_of_mem_drop hy))
  obtain ⟨o1, o2, ho, ho2⟩ := open_cases ((l.take (fr + n + 4).toNat).drop a.toNat) (by rw [hLO]; omega) (by rw [hLO]; omega)
  rw [if_pos (show 0 ≤ a by omega), if_pos (show a ≤ fr + n + 4 by omega), if_pos (show fr + n + 4 ≤ (l.length : Int) by omega), refOpen_f k _ hLOb (by rw [hLO]; omega) (by rw [hLO]; omega), ho, Option.bind_some, Option.bind_some]
  dsimp only
  have hB : ((l.take (fr + n).toNat).drop fr.toNat).length = n.toNat := by rw [List.length_drop, List.length_take]; omega
  rcases ho2 with rfl | rfl
  · rw [if_pos rfl, if_pos rfl, if_pos (show a < (l.length : Int) by omega), if_pos (show 0 ≤ fr by omega), if_pos (show fr ≤ fr + n by omega), if_pos (show fr + n ≤ (l.length : Int) by omega), if_pos (by rw [hB]; simp only [List.length_nil]; omega)]
    exact ⟨_, rfl, by rw [List.nil_append]⟩
  · rw [if_neg (show ¬ ((6 : Int) = 0) by decide), if_neg (show ¬ ((6 : Int) = 0) by decide)]
    exact ⟨_, rfl, rfl⟩
theorem FrameGets : remoralaw29_FrameGets.Pure := by
  intro l a _ hl hw _
  obtain ⟨⟨x1, x2, x3, x4⟩, h1, h2⟩ := gets_eq l (wf_byte hw) (by omega) a 2000000 (Nat.le_refl _)
  refine ⟨2000000 + 1, ?_⟩
  unfold remoralaw29_FrameGets.f
  rw [h1, Option.bind_some, h2, Option.bind_some]
  simp [remoralaw29_same.f, remoralaw29_awake.f]
end Go.Proofs.YtmllikjhflnngaaDoor.Pure
