/- The law NumTexts of the numbers: GetText agrees with the reference. For any bytes, any place and any greatest length. -/
import Derived.Test.YtfdmkedpjbjfgaaNumAwake
import Derived.Test.YtfdmkedpjbjfgaaNumMore
import Derived.Test.YtfdmkedpjbjfgaaNumRef
import Derived.Test.YtfdmkedpjbjfgaaPx3
namespace Go.Proofs.Ytfdmkedpjbjfgaa.Pure
open Go.RowKit Go.Proofs.Ytfdmkedpjbjfgaa.P Go.Proofs.YtfdmkedpjbjfgaaW.PrintWords Go.Proofs.YtfdmkedpjbjfgaaW.PrintLast Go.Proofs.YtfdmkedpjbjfgaaW.PrintMore Go.Proofs.Ytfdmkedpjbjfgaa.Num
theorem refGetText_f (k : Nat) (l : List Int) (at_ most : Int) (hk : 30 ≤ k) (hb : Byt l) (hl : l.length ≤ 140737488355328) : remoraref01_GetText.f k l at_ most = some (getTextS l at_ most) := by
  unfold remoraref01_GetText.f getTextS
  rw [refGet_f k l at_ hk hb hl, Option.bind_some]
  rcases getS_range l at_ hb with ⟨h, _⟩ | ⟨h, x, hx, hm, h0, hn, hle, _⟩
  · rw [if_neg h, if_neg h]
  · rw [if_pos h, if_pos h, held_f, Option.bind_some]
    have h1 := enc_pos x
    generalize getS l at_ = r at *
    obtain ⟨a, b, c⟩ := r
    simp only at hx hn h ⊢
    subst hx hn h
    have hcl : (x : Int) > mx most 0 ↔ (x : Int) > ((cl most : Nat) : Int) := by
      have := cl_eq most
      rw [← this]; unfold mn mx; split <;> split <;> omega
    by_cases c1 : (x : Int) > mx most 0
    · rw [if_pos c1, if_pos (hcl.1 c1)]
    · rw [if_neg c1, if_neg (fun h => c1 (hcl.2 h)), w64 (n := (l.length : Int) - (at_ + ((enc x).length : Int))) (by omega) (by omega)]
      by_cases c2 : (x : Int) > (l.length : Int) - (at_ + ((enc x).length : Int))
      · rw [if_pos c2, if_pos c2]
      · rw [if_neg c2, if_neg c2, w64 (n := at_ + ((enc x).length : Int) + (x : Int)) (by omega) (by omega), if_pos (by omega), if_pos (by omega), if_pos (by omega)]
theorem NumTexts : remoralaw01_NumTexts.Pure := by
  intro l a most hm hl hb _ _
  have hb' := byt_of hb
  have hl' : l.length ≤ 140737488355328 := by omega
  refine ⟨40, ?_⟩
  unfold remoralaw01_NumTexts.f
  rw [getText_f 40 _ _ _ (by omega) hb' hl', Option.bind_some, refGetText_f 40 _ _ _ (by omega) hb' hl', Option.bind_some, if_pos rfl, if_pos rfl, if_pos rfl]
  exact awake_end 40 (by omega)
end Go.Proofs.Ytfdmkedpjbjfgaa.Pure
