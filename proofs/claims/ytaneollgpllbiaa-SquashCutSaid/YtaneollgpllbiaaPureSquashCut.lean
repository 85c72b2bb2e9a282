/- The law SquashCut: a packing cut short is that of a beginning of the text, or it is none. -/
import Derived.Test.YtaneollgpllbiaaSquashTok
import Derived.Test.YtaneollgpllbiaaPx19
set_option linter.unusedSimpArgs false
namespace Go.Proofs.Ytaneollgpllbiaa.Pure
open Go.RowKit Go.Proofs.Ytaneollgpllbiaa.P Go.Proofs.YtaneollgpllbiaaW.PrintWords Go.Proofs.YtaneollgpllbiaaW.PrintLast Go.Proofs.Ytaneollgpllbiaa.Num

theorem SquashCut : remoralaw10_SquashCut.Pure := by
  intro l a hl1 hl2 hw ha
  have hb := byt_of hw
  have hwa : 0 ≤ a ∧ a ≤ 65535 := by simp [Lit.wf, IntKind.min, IntKind.max, IntKind.signed, IntKind.bits] at ha; omega
  unfold remoralaw10_SquashCut.f
  by_cases c : (l.length : Int) > 4000
  · rw [if_pos c, awake_f, Option.bind_some]
  · have hB : l.length ≤ 65536 := by omega
    have hlen := ptoks_len l hB
    have hpb := ptoks_byt l hb
    rw [if_neg c, pack_f l hb hB, Option.bind_some]
    have hfull := ptoks_full l hB
    have hcut := fun m => txt0_cut (ptoks l) m (ptoks_valid l hB)
    generalize hts : ptoks l = ts at hlen hpb hfull hcut ⊢
    have w1 : wrap64 (((flat ts).length : Int) + 1) = ((flat ts).length : Int) + 1 := w64 (by omega) (by omega)
    have w2 : wrap64 a = a := w64 (by omega) (by omega)
    rw [w1, w2, if_neg (by omega)]
    have ht : Int.tmod a (((flat ts).length : Int) + 1) = a % (((flat ts).length : Int) + 1) := Int.tmod_eq_emod_of_nonneg hwa.1
    rw [ht]
    have h0 : 0 ≤ a % (((flat ts).length : Int) + 1) := Int.emod_nonneg _ (by omega)
    have h1 : a % (((flat ts).length : Int) + 1) < ((flat ts).length : Int) + 1 := Int.emod_lt_of_pos _ (by omega)
    generalize a % (((flat ts).length : Int) + 1) = k at h0 h1 ⊢
    obtain ⟨m, rfl⟩ := Int.eq_ofNat_of_zero_le h0
    have hm : m ≤ (flat ts).length := by omega
    rw [if_pos h0, if_pos (by omega), Int.toNat_natCast]
    have hc := hcut m hm
    unfold squash_Unpack.f
    rw [unpacked_f _ (hpb.take m) (by rw [List.length_take]; omega), Option.bind_some]
    generalize hr : txt0 ((flat ts).take m) = r at hc
    obtain ⟨T, e⟩ := r
    unfold Cut at hc
    dsimp only at hc
    rcases hc with ⟨rfl, hp, hw⟩ | ⟨rfl, hlt⟩
    · rw [hfull] at hp hw
      have hle := hp.length_le
      have hT : T = l.take T.length := List.prefix_iff_eq_take.1 hp
      have hf : fin_ (T, 0) = (T, 0) := rfl
      rw [hf]
      dsimp only
      rw [if_pos rfl, if_neg (by unfold mx; split <;> omega), Option.bind_some]
      dsimp only
      rw [if_pos rfl, if_pos (by omega), if_pos (by omega), Int.toNat_natCast, ← hT, same_f, Option.bind_some, if_pos rfl]
      by_cases c1 : ((m : Nat) : Int) < ((flat ts).length : Int)
      · rw [if_pos c1, awake_f, Option.bind_some]
      · rw [if_neg c1, if_pos (by rw [hw (by omega)]), awake_f, Option.bind_some]
    · have hf : fin_ (T, 4) = ([], 4) := rfl
      rw [hf]
      dsimp only
      rw [if_neg (by decide), Option.bind_some]
      dsimp only
      rw [if_neg (by decide), if_pos rfl, if_pos (by rfl), if_pos (by omega), awake_f, Option.bind_some]
end Go.Proofs.Ytaneollgpllbiaa.Pure
