/- The reference's functions of numbers with a sign, and of texts, that read. -/
import Derived.Test.YtniboafnkiijcaaDoorNumMore
import Derived.Test.YtniboafnkiijcaaDoorNumRef
import Derived.Test.YtniboafnkiijcaaDoorPx2

set_option linter.unusedVariables false
set_option linter.unusedSimpArgs false
namespace Go.Proofs.YtniboafnkiijcaaDoor.P
open Go.RowKit Go.Proofs.YtniboafnkiijcaaDoorW.PrintWords Go.Proofs.YtniboafnkiijcaaDoorW.PrintLast Go.Proofs.YtniboafnkiijcaaDoorW.PrintMore Go.Proofs.YtniboafnkiijcaaDoor.Num
theorem refGetInt_f (k : Nat) (l : List Int) (at_ : Int) (hk : 30 ≤ k) (hb : Byt l) (hl : l.length ≤ 140737488355328) : remoraref01_GetInt.f k l at_ = some (getIntS l at_) := by
  unfold remoraref01_GetInt.f getIntS
  rw [refGet_f k l at_ hk hb hl, Option.bind_some]
  rcases getS_range l at_ hb with ⟨h, _⟩ | ⟨h, x, hx, hm, _⟩
  · rw [if_neg h, if_neg h]
  · rw [if_pos h, if_pos h, hx, Int.tmod_eq_emod_of_nonneg (by omega), Int.tdiv_eq_ediv_of_nonneg (by omega)]
    unfold zag
    by_cases ho : (x : Int) % 2 = 1
    · rw [if_pos ho, if_pos ho, w64 (n := (x : Int) / 2) (by omega) (by omega), w64 (n := -((x : Int) / 2)) (by omega) (by omega), w64 (by omega) (by omega)]
    · rw [if_neg ho, if_neg ho, w64 (by omega) (by omega)]
theorem refGetText_f (k : Nat) (l : List Int) (at_ most : Int) (hk : 30 ≤ k) (hb : Byt l) (hl : l.length ≤ 140737488355328) : remoraref01_GetText.f k l at_ most = some (getTextS l at_ most) := by
  unfold remoraref01_GetText.f getTextS
  rw [refGet_f k l at_ hk hb hl, Option.bind_some]
  rcases getS_range l at_ hb with ⟨h, _⟩ | ⟨h, x, hx, hm, h0, hn, hle, _⟩
  · rw [if_neg h, if_neg h]
  · rw [if_pos h, if_pos h, held_f, Option.bind_some]
    have h1 := enc_pos x
    generalize getS l at_ = r at *
    obtain ⟨a, b, c⟩ := r
    simp only at hx hn h ⊢
    subst hx hn h
    have hcl : (x : Int) > mx most 0 ↔ (x : Int) > ((cl most : Nat) : Int) := by
      have := cl_eq most
      rw [← this]; unfold mn mx; split <;> split <;> omega
    by_cases c1 : (x : Int) > mx most 0
    · rw [if_pos c1, if_pos (hcl.1 c1)]
    · rw [if_neg c1, if_neg (fun h => c1 (hcl.2 h)), w64 (n := (l.length : Int) - (at_ + ((enc x).length : Int))) (by omega) (by omega)]
      by_cases c2 : (x : Int) > (l.length : Int) - (at_ + ((enc x).length : Int))
      · rw [if_pos c2, if_pos c2]
      · rw [if_neg c2, if_neg c2, w64 (n := at_ + ((enc x).length : Int) + (x : Int)) (by omega) (by omega), if_pos (by omega), if_pos (by omega), if_pos (by omega)]
end Go.Proofs.YtniboafnkiijcaaDoor.P
