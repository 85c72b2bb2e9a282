/- The law CrcOpens: Open agrees with the reference, and opens what the reference sealed. For every slice of bytes. -/
import Derived.Test.YtplpckppejnicaaDoorCrcOpenRef
import Derived.Test.YtplpckppejnicaaDoorPx9
namespace Go.Proofs.YtplpckppejnicaaDoor.Pure
open Go.RowKit Go.Proofs.YtplpckppejnicaaDoor.P Go.Proofs.YtplpckppejnicaaDoorW.PrintWords Go.Proofs.YtplpckppejnicaaDoorW.PrintLast Go.Proofs.YtplpckppejnicaaDoorW.PrintMore Go.Proofs.YtplpckppejnicaaDoor.Crc
theorem CrcOpens : remoralaw02_CrcOpens.Pure := by
  intro l h1 h2 hw
  have hb := wf_byte hw
  refine ⟨l.length + 100, ?_⟩
  unfold remoralaw02_CrcOpens.f
  by_cases c : (l.length : Int) > 1000
  · rw [if_pos c]; rfl
  · rw [if_neg c, refOpen_f _ l hb (by omega) (by omega), refSeal_f _ l hb (by omega) (by omega)]
    obtain ⟨r, hr⟩ : ∃ r, crc_Open.f l = some r := by
      unfold crc_Open.f
      rw [if_pos (show l.length ≤ 140737488355328 by omega)]
      split
      · exact ⟨_, rfl⟩
      · split <;> exact ⟨_, rfl⟩
    rw [hr, Option.bind_some, Option.bind_some, Option.bind_some, open_seal l hb (by omega), Option.bind_some, if_pos rfl, if_pos rfl, if_pos (show (strOfNums l).toList = (strOfNums l).toList from rfl), if_pos rfl]
    rfl
end Go.Proofs.YtplpckppejnicaaDoor.Pure
