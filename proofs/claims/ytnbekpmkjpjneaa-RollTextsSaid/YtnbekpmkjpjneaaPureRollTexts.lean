/- The law RollTexts: the sums of a text with a byte more, without its first, with both done, and of two texts joined, come from the sums alone. (At most 100,000 bytes.) -/
import Derived.Test.YtnbekpmkjpjneaaRoll
import Derived.Test.YtnbekpmkjpjneaaPx3
namespace Go.Proofs.Ytnbekpmkjpjneaa.Pure
open Go.RowKit Go.Proofs.Ytnbekpmkjpjneaa.P Go.Proofs.YtnbekpmkjpjneaaW.PrintWords Go.Proofs.YtnbekpmkjpjneaaW.PrintLast Go.Proofs.YtnbekpmkjpjneaaW.PrintMore Go.Proofs.Ytnbekpmkjpjneaa.Num
theorem RollTexts : remoralaw04_RollTexts.Pure := by
  intro a b c ha1 ha2 ha3 hb1 hb2 hb3 hc
  have ha := byt_of ha3
  have hb := byt_of hb3
  have hcb := wf_u8 hc
  have hsing : Byt [c] := by intro x hx; rw [List.mem_singleton.mp hx]; exact hcb
  have hac : Byt (a ++ [c]) := by intro x hx; exact (List.mem_append.mp hx).elim (fun h => ha x h) (fun h => hsing x h)
  have hab : Byt (a ++ b) := by intro x hx; exact (List.mem_append.mp hx).elim (fun h => ha x h) (fun h => hb x h)
  refine ⟨a.length + b.length + 3, ?_⟩
  unfold remoralaw04_RollTexts.f
  by_cases h : (a.length : Int) > 100000
  · rw [if_pos h]; rfl
  rw [if_neg h]
  by_cases h2 : (b.length : Int) > 100000
  · rw [if_pos h2]; rfl
  have e : ([] : List Int).length = 0 := rfl
  have l1 : (a ++ [c]).length = a.length + 1 := by simp
  have l2 : (a ++ b).length = a.length + b.length := by simp
  rw [if_neg h2, if_pos (by omega), Option.bind_some, List.nil_append, if_pos (by omega), Option.bind_some, if_pos (by omega), Option.bind_some,
    of_f _ a (by omega) ha (by omega), Option.bind_some, of_f _ b (by omega) hb (by omega), Option.bind_some, joinSums_f _ _ _ (sS_range a) (sS_range b), Option.bind_some, sS_join,
    of_f _ (a ++ b) (by omega) hab (by omega), Option.bind_some]
  rw [if_pos (show sS (a ++ b) = sS (a ++ b) from rfl), in_f _ _ _ (sS_range a) hcb, Option.bind_some, sS_in, of_f _ (a ++ [c]) (by omega) hac (by omega), Option.bind_some]
  rw [if_pos (show sS (a ++ [c]) = sS (a ++ [c]) from rfl)]
  cases a with
  | nil => rw [if_pos (by simp)]; rfl
  | cons x t =>
    have hx : 0 ≤ x ∧ x ≤ 255 := ha x (by simp)
    have ht : Byt t := fun z hz => ha z (by simp [hz])
    have htc : Byt (t ++ [c]) := fun z hz => hac z (by simp at hz ⊢; exact .inr hz)
    have l3 : (x :: t).length = t.length + 1 := rfl
    have l4 : (t ++ [c]).length = t.length + 1 := by simp
    have l5 : (((x :: t).length : Nat) : Int) = (t.length : Int) + 1 := by simp
    have l6 : (((x :: t) ++ [c]).length : Int) = (t.length : Int) + 1 + 1 := by simp
    have er : rd (x :: t) 0 = x := rfl
    have ed : (x :: t).drop 1 = t := rfl
    have ed2 : ((x :: t) ++ [c]).drop 1 = t ++ [c] := rfl
    rw [if_neg (show ¬ (((x :: t).length : Int) = 0) by omega), if_pos (show 0 < ((x :: t).length : Int) by omega), er, ed, ed2, l5, l6,
      out_f _ _ _ (sS_range _) hx, Option.bind_some, sS_out, if_pos (show 1 ≤ (t.length : Int) + 1 by omega), of_f _ t (by omega) ht (by omega), Option.bind_some]
    rw [if_pos (show sS t = sS t from rfl), roll_f _ _ _ _ (sS_range _) hx hcb, Option.bind_some, sS_out, sS_in, if_pos (show 1 ≤ (t.length : Int) + 1 + 1 by omega), of_f _ (t ++ [c]) (by omega) htc (by omega), Option.bind_some]
    rw [if_pos (show sS (t ++ [c]) = sS (t ++ [c]) from rfl)]
    rfl
end Go.Proofs.Ytnbekpmkjpjneaa.Pure
