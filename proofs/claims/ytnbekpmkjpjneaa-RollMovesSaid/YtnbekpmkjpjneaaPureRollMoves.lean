/- The law RollMoves: of any sums, numbers and bytes the moved sums are the reference's. -/
import Derived.Test.YtnbekpmkjpjneaaRoll
import Derived.Test.YtnbekpmkjpjneaaPx2
namespace Go.Proofs.Ytnbekpmkjpjneaa.Pure
open Go.RowKit Go.Proofs.Ytnbekpmkjpjneaa.P Go.Proofs.YtnbekpmkjpjneaaW.PrintWords Go.Proofs.YtnbekpmkjpjneaaW.PrintLast Go.Proofs.YtnbekpmkjpjneaaW.PrintMore Go.Proofs.Ytnbekpmkjpjneaa.Num
theorem low_f (a : Int) (h : 0 ≤ a ∧ a ≤ 4294967295) : remoraref04_low.f a = some (a % 65536) := by
  unfold remoraref04_low.f; rw [Int.tmod_eq_emod_of_nonneg (by omega), w64 (by omega) (by omega)]
theorem high_f (a : Int) (h : 0 ≤ a ∧ a ≤ 4294967295) : remoraref04_high.f a = some (a / 65536) := by
  unfold remoraref04_high.f; rw [Int.tdiv_eq_ediv_of_nonneg (by omega)]; congr 1; omega
theorem tmod_range (n : Int) : -65535 ≤ Int.tmod n 65536 ∧ Int.tmod n 65536 ≤ 65535 ∧ (Int.tmod n 65536) % 65536 = n % 65536 := by
  have := Int.tmod_eq_emod (a := n) (b := 65536)
  split at this
  · rw [this]; omega
  · rw [this]; simp; omega
theorem tmul (n x : Int) (hx : 0 ≤ x ∧ x ≤ 65535) : (Int.tmod n 65536 * x) % 65536 = (n * x) % 65536 ∧ -4294901760 ≤ Int.tmod n 65536 * x ∧ Int.tmod n 65536 * x ≤ 4294901760 := by
  obtain ⟨h0, h1, h2⟩ := tmod_range n
  refine ⟨by rw [Int.mul_emod, h2, ← Int.mul_emod], ?_, ?_⟩
  · have := Int.mul_le_mul_of_nonneg_right (c := x) (show -65535 ≤ Int.tmod n 65536 from h0) hx.1
    omega
  · have := Int.mul_le_mul_of_nonneg_right (c := x) h1 hx.1
    omega
theorem refIn_f (a n c : Int) (h : 0 ≤ a ∧ a ≤ 4294967295) (hc : 0 ≤ c ∧ c ≤ 255) : remoraref04_In.f a n c = some (sIn a c) := by
  unfold remoraref04_In.f
  rw [low_f a h, Option.bind_some, high_f a h, Option.bind_some, w64 (n := c) (by omega) (by omega), w64 (n := a % 65536 + c) (by omega) (by omega), w64 (n := a % 65536 + c + 31) (by omega) (by omega), w64 (by omega) (by omega), whole_f _ _ (by omega) (by omega), Option.bind_some]
  rfl
theorem refOut_f (a n c : Int) (h : 0 ≤ a ∧ a ≤ 4294967295) (hc : 0 ≤ c ∧ c ≤ 255) : remoraref04_Out.f a n c = some (sOut a n c) := by
  obtain ⟨e, h1, h2⟩ := tmul n (c + 31) (by omega)
  unfold remoraref04_Out.f
  rw [low_f a h, Option.bind_some, high_f a h, Option.bind_some, w64 (n := c) (by omega) (by omega), w64 (n := c + 31) (by omega) (by omega)]
  unfold sOut
  generalize Int.tmod n 65536 * (c + 31) = p at *
  generalize n * (c + 31) = q at *
  rw [w64 (n := a % 65536 - c) (by omega) (by omega), w64 (n := a % 65536 - c - 31) (by omega) (by omega), w64 (n := p) (by omega) (by omega), w64 (by omega) (by omega), whole_f _ _ (by omega) (by omega), Option.bind_some]
  congr 1
  apply jn_congr <;> omega
theorem refRoll_f (a n c d : Int) (h : 0 ≤ a ∧ a ≤ 4294967295) (hc : 0 ≤ c ∧ c ≤ 255) (hd : 0 ≤ d ∧ d ≤ 255) : remoraref04_Roll.f a n c d = some (sIn (sOut a n c) d) := by
  unfold remoraref04_Roll.f
  rw [refOut_f a n c h hc, Option.bind_some, refIn_f _ n d (sOut_range _ _ _) hd, Option.bind_some]
theorem refJoin_f (a b n : Int) (ha : 0 ≤ a ∧ a ≤ 4294967295) (hb : 0 ≤ b ∧ b ≤ 4294967295) : remoraref04_Join.f a b n = some (sJoin a b n) := by
  obtain ⟨e, h1, h2⟩ := tmul n (a % 65536) (by omega)
  unfold remoraref04_Join.f
  rw [low_f a ha, Option.bind_some, low_f b hb, Option.bind_some, high_f a ha, Option.bind_some, high_f b hb, Option.bind_some, Option.bind_some]
  unfold sJoin
  generalize Int.tmod n 65536 * (a % 65536) = p at *
  generalize n * (a % 65536) = q at *
  rw [w64 (n := a % 65536 + b % 65536) (by omega) (by omega), w64 (n := a / 65536 + b / 65536) (by omega) (by omega), w64 (n := p) (by omega) (by omega), w64 (by omega) (by omega), whole_f _ _ (by omega) (by omega), Option.bind_some]
  congr 1
  apply jn_congr <;> omega
/-- The one pure statement. -/
theorem moves (a b n c d : Int) (ha : (Lit.int .u32 a).wf = true) (hb : (Lit.int .u32 b).wf = true) (_ : (Lit.int .i64 n).wf = true) (hc : (Lit.int .u8 c).wf = true) (hd : (Lit.int .u8 d).wf = true) : remoralaw04_RollMoves.f a b n c d = some true := by
  have ha' := wf_u32 ha
  have hb' := wf_u32 hb
  have hc' := wf_u8 hc
  have hd' := wf_u8 hd
  unfold remoralaw04_RollMoves.f
  rw [in_f a n c ha' hc', Option.bind_some, refIn_f a n c ha' hc', Option.bind_some, if_pos rfl, out_f a n c ha' hc', Option.bind_some, refOut_f a n c ha' hc', Option.bind_some, if_pos rfl,
    roll_f a n c d ha' hc' hd', Option.bind_some, refRoll_f a n c d ha' hc' hd', Option.bind_some, if_pos rfl, joinSums_f a b n ha' hb', Option.bind_some, refJoin_f a b n ha' hb', Option.bind_some, if_pos rfl]
  rfl
theorem RollMoves : remoralaw04_RollMoves.Pure := fun a b n c d ha hb hn hc hd => moves a b n c d ha hb hn hc hd
end Go.Proofs.Ytnbekpmkjpjneaa.Pure
