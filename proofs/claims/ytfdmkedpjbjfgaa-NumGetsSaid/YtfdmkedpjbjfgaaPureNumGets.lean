/- The law NumGets of the numbers: Get and GetInt agree with the reference. For any bytes and any place. -/
import Derived.Test.YtfdmkedpjbjfgaaNumAwake
import Derived.Test.YtfdmkedpjbjfgaaNumMore
import Derived.Test.YtfdmkedpjbjfgaaNumRef
import Derived.Test.YtfdmkedpjbjfgaaPx2
namespace Go.Proofs.Ytfdmkedpjbjfgaa.Pure
open Go.RowKit Go.Proofs.Ytfdmkedpjbjfgaa.P Go.Proofs.YtfdmkedpjbjfgaaW.PrintWords Go.Proofs.YtfdmkedpjbjfgaaW.PrintLast Go.Proofs.YtfdmkedpjbjfgaaW.PrintMore Go.Proofs.Ytfdmkedpjbjfgaa.Num
theorem refGetInt_f (k : Nat) (l : List Int) (at_ : Int) (hk : 30 ≤ k) (hb : Byt l) (hl : l.length ≤ 140737488355328) : remoraref01_GetInt.f k l at_ = some (getIntS l at_) := by
  unfold remoraref01_GetInt.f getIntS
  rw [refGet_f k l at_ hk hb hl, Option.bind_some]
  rcases getS_range l at_ hb with ⟨h, _⟩ | ⟨h, x, hx, hm, _⟩
  · rw [if_neg h, if_neg h]
  · rw [if_pos h, if_pos h, hx, Int.tmod_eq_emod_of_nonneg (by omega), Int.tdiv_eq_ediv_of_nonneg (by omega)]
    unfold zag
    by_cases ho : (x : Int) % 2 = 1
    · rw [if_pos ho, if_pos ho, w64 (n := (x : Int) / 2) (by omega) (by omega), w64 (n := -((x : Int) / 2)) (by omega) (by omega), w64 (by omega) (by omega)]
    · rw [if_neg ho, if_neg ho, w64 (by omega) (by omega)]
theorem NumGets : remoralaw01_NumGets.Pure := by
  intro l a hm hl hb _
  have hb' := byt_of hb
  have hl' : l.length ≤ 140737488355328 := by omega
  refine ⟨40, ?_⟩
  unfold remoralaw01_NumGets.f
  rw [get_f 40 _ _ (by omega) hb' hl', Option.bind_some, refGet_f 40 _ _ (by omega) hb' hl', Option.bind_some, getInt_f 40 _ _ (by omega) hb' hl', Option.bind_some, refGetInt_f 40 _ _ (by omega) hb' hl', Option.bind_some,
    if_pos rfl, if_pos rfl, if_pos rfl, if_pos rfl, if_pos rfl, if_pos rfl]
  exact awake_end 40 (by omega)
end Go.Proofs.Ytfdmkedpjbjfgaa.Pure
