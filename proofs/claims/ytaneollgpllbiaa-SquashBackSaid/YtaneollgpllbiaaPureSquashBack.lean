/- The law SquashBack: what is packed of any text is unpacked as it was, within its length and not within less; it is within the bound. -/
import Derived.Test.YtaneollgpllbiaaSquashTok
import Derived.Test.YtaneollgpllbiaaPx21
set_option linter.unusedSimpArgs false
namespace Go.Proofs.Ytaneollgpllbiaa.Pure
open Go.RowKit Go.Proofs.Ytaneollgpllbiaa.P Go.Proofs.YtaneollgpllbiaaW.PrintWords Go.Proofs.YtaneollgpllbiaaW.PrintLast Go.Proofs.Ytaneollgpllbiaa.Num

theorem SquashBack : remoralaw10_SquashBack.Pure := by
  intro l a hl1 hl2 hw ha
  have hb := byt_of hw
  refine ⟨5, ?_⟩
  unfold remoralaw10_SquashBack.f
  by_cases c : (l.length : Int) > 65536
  · rw [if_pos c, pack_big l hb (by omega), Option.bind_some, if_pos (by rfl), awake_f, Option.bind_some]
  · have hB : l.length ≤ 65536 := by omega
    have hlen := ptoks_len l hB
    have hpb := ptoks_byt l hb
    have ht := txt0_flat (ptoks l) (ptoks_valid l hB)
    rw [ptoks_full l hB] at ht
    have hu : squash_unpacked.f (flat (ptoks l)) = some (l, 0) := by rw [unpacked_f _ hpb (by omega), ht]; rfl
    have hU : ∀ m : Int, squash_Unpack.f (flat (ptoks l)) m = if (l.length : Int) > mx m 0 then some ([], 7) else some (l, 0) := fun m => by
      unfold squash_Unpack.f
      rw [hu, Option.bind_some, if_pos rfl]
    rw [if_neg c, pack_f l hb hB, Option.bind_some, hU, if_neg (by unfold mx; split <;> omega), Option.bind_some]
    unfold squash_Check.f
    rw [hu]
    simp only [Option.bind_some, if_true, same_f, bound_f l.length hB]
    have hd : decide (((flat (ptoks l)).length : Int) > ((l.length + l.length / 64 + 3 : Nat) : Int)) = false := decide_eq_false (by omega)
    rw [hd]
    simp only [remoralaw10_SquashBack.j0]
    rw [if_neg (by decide)]
    by_cases c1 : a ≥ (l.length : Int)
    · rw [if_pos c1]
      simp only [remoralaw10_SquashBack.j1]
      rw [if_pos trivial, awake_f, Option.bind_some]
    · rw [if_neg c1]
      simp only [remoralaw10_SquashBack.j1]
      by_cases c2 : (l.length : Int) = 0
      · rw [if_pos (beq_iff_eq.mpr c2), awake_f, Option.bind_some]
      · rw [if_neg (by rw [beq_iff_eq]; exact c2), hU, if_pos (by unfold mx; split <;> omega), Option.bind_some, if_pos (by rfl), if_pos rfl, awake_f, Option.bind_some]
end Go.Proofs.Ytaneollgpllbiaa.Pure
