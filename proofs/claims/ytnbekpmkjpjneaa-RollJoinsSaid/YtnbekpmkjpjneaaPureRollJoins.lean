/- The law RollJoins: joining three texts' sums is the same whichever two are joined first; a text cut anywhere has its parts' sum. (At most 200,000 bytes in all.) -/
import Derived.Test.YtnbekpmkjpjneaaRoll
import Derived.Test.YtnbekpmkjpjneaaPx4
namespace Go.Proofs.Ytnbekpmkjpjneaa.Pure
open Go.RowKit Go.Proofs.Ytnbekpmkjpjneaa.P Go.Proofs.YtnbekpmkjpjneaaW.PrintWords Go.Proofs.YtnbekpmkjpjneaaW.PrintLast Go.Proofs.YtnbekpmkjpjneaaW.PrintMore Go.Proofs.Ytnbekpmkjpjneaa.Num
theorem RollJoins : remoralaw04_RollJoins.Pure := by
  intro a b c ha1 ha2 ha3 hb1 hb2 hb3 hc1 hc2 hc3
  have ha := byt_of ha3
  have hb := byt_of hb3
  have hc := byt_of hc3
  refine ⟨a.length + b.length + c.length + 1, ?_⟩
  unfold remoralaw04_RollJoins.f
  rw [w64 (n := (a.length : Int) + (b.length : Int)) (by omega) (by omega), w64 (n := (a.length : Int) + (b.length : Int) + (c.length : Int)) (by omega) (by omega)]
  by_cases h : (a.length : Int) + (b.length : Int) + (c.length : Int) > 200000
  · rw [if_pos h]; rfl
  · have e1 : sJoin (sS a) (sS (b ++ c)) ((b.length : Int) + (c.length : Int)) = sS (a ++ (b ++ c)) := by
      have := sS_join a (b ++ c)
      rwa [List.length_append, Int.natCast_add] at this
    have e2 : sJoin 0 (sS a) (a.length : Int) = sS a := by
      have := sS_join [] a
      simpa [sS, sA, sB, jn] using this
    have e3 : sJoin (sS a) 0 0 = sS a := by
      have := sS_join a []
      simpa [sS, sA, sB, jn] using this
    rw [if_neg h, of_f _ a (by omega) ha (by omega), Option.bind_some, of_f _ b (by omega) hb (by omega), Option.bind_some, of_f _ c (by omega) hc (by omega), Option.bind_some,
      joinSums_f _ _ _ (sS_range a) (sS_range b), Option.bind_some, sS_join, joinSums_f _ _ _ (sS_range (a ++ b)) (sS_range c), Option.bind_some, sS_join, joinSums_f _ _ _ (sS_range b) (sS_range c), Option.bind_some, sS_join,
      joinSums_f _ _ _ (sS_range a) (sS_range (b ++ c)), Option.bind_some, w64 (n := (b.length : Int) + (c.length : Int)) (by omega) (by omega), e1, List.append_assoc]
    simp only [if_true]
    rw [joinSums_f _ _ _ (by omega) (sS_range a), Option.bind_some, e2]
    simp only [if_true]
    rw [joinSums_f _ _ _ (sS_range a) (by omega), Option.bind_some, e3]
    simp only [if_true]
    rfl
end Go.Proofs.Ytnbekpmkjpjneaa.Pure
