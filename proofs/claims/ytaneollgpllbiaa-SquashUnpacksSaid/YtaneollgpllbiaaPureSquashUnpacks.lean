/- The law SquashUnpacks: what any bytes make, how long it is, or what is wrong, is the document's. -/
import Derived.Test.YtaneollgpllbiaaSquashTxt
import Derived.Test.YtaneollgpllbiaaSquashTok
import Derived.Test.YtaneollgpllbiaaPx12
set_option linter.unusedSimpArgs false
namespace Go.Proofs.Ytaneollgpllbiaa.Pure
open Go.RowKit Go.Proofs.Ytaneollgpllbiaa.P Go.Proofs.YtaneollgpllbiaaW.PrintWords Go.Proofs.YtaneollgpllbiaaW.PrintLast Go.Proofs.Ytaneollgpllbiaa.Num

theorem SquashUnpacks : remoralaw10_SquashUnpacks.Pure := by
  intro l a hl1 hl2 hw ha
  have hb := byt_of hw
  by_cases c : (l.length : Int) > 5000
  · refine ⟨0, ?_⟩
    unfold remoralaw10_SquashUnpacks.f
    rw [if_pos c, awake_f, Option.bind_some]
  · refine ⟨1000000, ?_⟩
    unfold remoralaw10_SquashUnpacks.f squash_Unpack.f squash_Check.f remoraref10_Unpack.f remoraref10_Check.f
    rw [if_neg c, unpacked_f l hb (by omega), text_f 1000000 l hb (by omega) (by omega)]
    simp only [Option.bind_some]
    generalize txt0 l = r
    obtain ⟨T, e⟩ := r
    unfold fin_
    dsimp only
    by_cases he : e = 0
    · subst he
      simp only [if_true]
      by_cases c1 : (T.length : Int) > mx a 0
      · have h1 : (T.length : Int) > a ∧ (T.length : Int) > 0 := by unfold mx at c1; split at c1 <;> omega
        rw [if_pos c1, if_pos h1.1, if_pos h1.2]
        simp only [Option.bind_some, same_f, awake_f, if_true]
      · have h1 : (T.length : Int) ≤ a ∨ (T.length : Int) ≤ 0 := by unfold mx at c1; split at c1 <;> omega
        rw [if_neg c1]
        by_cases h2 : (T.length : Int) > a
        · rw [if_pos h2, if_neg (by omega)]
          simp only [Option.bind_some, same_f, awake_f, if_true]
        · rw [if_neg h2]
          simp only [Option.bind_some, same_f, awake_f, if_true]
    · simp only [if_neg he, Option.bind_some, same_f, awake_f, if_true, List.length_nil]
      rfl
end Go.Proofs.Ytaneollgpllbiaa.Pure
