/- The law FramePuts: Put agrees with the reference. For every kind and every body. -/
import Derived.Test.YtmllikjhflnngaaDoorNumRef
import Derived.Test.YtmllikjhflnngaaDoorCrcOpenRef
import Derived.Test.YtmllikjhflnngaaDoorPx4
import Derived.Test.YtmllikjhflnngaaDoorPx10
import Derived.Test.YtmllikjhflnngaaDoorPx15
set_option linter.unusedVariables false
namespace Go.Proofs.YtmllikjhflnngaaDoor.Pure
open Go.RowKit Go.Proofs.YtmllikjhflnngaaDoor.P Go.Proofs.YtmllikjhflnngaaDoorW.PrintWords Go.Proofs.YtmllikjhflnngaaDoorW.PrintLast Go.Proofs.YtmllikjhflnngaaDoorW.PrintMore Go.Proofs.YtmllikjhflnngaaDoor.Crc Go.Proofs.YtmllikjhflnngaaDoor.Num
theorem puts_j (b : Bool) (a : Int) (l : List Int) (hb : Byte l) (k : Nat) (hk : 2000000 ≤ k) : ∃ x, frame_Put.j0 (k + 1) b a l = some x ∧ remoraref29_Put.j0 (k + 1) b a l = some x := by
  simp only [frame_Put.j0, remoraref29_Put.j0]
  by_cases h1 : b = true
  · rw [if_pos h1, if_pos h1]
    exact ⟨_, rfl, rfl⟩
  rw [if_neg h1, if_neg h1]
  by_cases h2 : (l.length : Int) > 524288
  · rw [if_pos h2, if_pos h2]
    exact ⟨_, rfl, rfl⟩
  rw [if_neg h2, if_neg h2, put_f k [a % 256] (l.length : Int) (by omega) (by simp), refPut_f k [a % 256] (l.length : Int) (by omega) (by simp), Option.bind_some, Option.bind_some]
  have h9 := enc_len9 (n := cl (l.length : Int)) (by have := cl_le (l.length : Int); omega)
  have hP : Byte ([a % 256] ++ enc (cl (l.length : Int))) := fun y hy => by
    rcases List.mem_append.1 hy with hy | hy
    · rw [List.mem_singleton.1 hy]; omega
    · exact enc_byt _ y hy
  have hX : Byte (([a % 256] ++ enc (cl (l.length : Int))) ++ l) := byte_append hP hb
  have hlp : ([a % 256] ++ enc (cl (l.length : Int))).length ≤ 10 := by simp only [List.length_append, List.length_singleton]; omega
  generalize [a % 256] ++ enc (cl (l.length : Int)) = p at hX hlp ⊢
  have hlx : (p ++ l).length ≤ 524298 := by rw [List.length_append]; omega
  rw [if_pos (show p.length + l.length < 140737488355328 by omega), if_pos (show p.length + l.length < 140737488355328 by omega), refSeal_f k _ hX (by omega) (by omega)]
  unfold crc_Seal.f
  rw [if_pos (by omega)]
  exact ⟨_, rfl, rfl⟩
theorem FramePuts : remoralaw29_FramePuts.Pure := by
  intro a l _ _ hl hw
  have hb := wf_byte hw
  refine ⟨2000000 + 1, ?_⟩
  have h : ∃ x, frame_Put.f (2000000 + 1) a l = some x ∧ remoraref29_Put.f (2000000 + 1) a l = some x := by
    unfold frame_Put.f remoraref29_Put.f
    by_cases h0 : a < 0
    · rw [if_pos h0, if_pos h0]
      exact puts_j _ _ _ hb _ (Nat.le_refl _)
    · rw [if_neg h0, if_neg h0]
      exact puts_j _ _ _ hb _ (Nat.le_refl _)
  obtain ⟨x, h1, h2⟩ := h
  unfold remoralaw29_FramePuts.f
  rw [h1, Option.bind_some, h2, Option.bind_some, if_pos rfl, if_pos rfl]
  rfl
end Go.Proofs.YtmllikjhflnngaaDoor.Pure
