/- The law CrcSeals: Seal agrees with the reference, and what was handed in stays. For every slice of bytes. -/
import Derived.Test.YtplpckppejnicaaDoorCrcRef
import Derived.Test.YtplpckppejnicaaDoorPx6
namespace Go.Proofs.YtplpckppejnicaaDoor.Pure
open Go.RowKit Go.Proofs.YtplpckppejnicaaDoor.P Go.Proofs.YtplpckppejnicaaDoorW.PrintWords Go.Proofs.YtplpckppejnicaaDoorW.PrintLast Go.Proofs.YtplpckppejnicaaDoorW.PrintMore Go.Proofs.YtplpckppejnicaaDoor.Crc
theorem seals_loop (x : List Int) (s : ByteArray) (h : (strOfNums x).toList = s.toList) : ∀ (d i k : Nat) (l : List Int), i + d = l.length → d < k → l.length ≤ 1000000 →
    remoralaw02_CrcSeals.l0 k x s l (i : Int) = some true := by
  intro d
  induction d with
  | zero =>
    intro i k l hi hk hl
    obtain ⟨k, rfl⟩ : ∃ q, k = q + 1 := ⟨k - 1, by omega⟩
    simp only [remoralaw02_CrcSeals.l0]
    rw [if_neg (by omega), if_pos h]; rfl
  | succ d ih =>
    intro i k l hi hk hl
    obtain ⟨k, rfl⟩ : ∃ q, k = q + 1 := ⟨k - 1, by omega⟩
    simp only [remoralaw02_CrcSeals.l0]
    rw [if_pos (by omega), if_pos (by omega), w64' (n := (i : Int) + 1) (by omega) (by omega), show ((i : Int) + 1) = ((i + 1 : Nat) : Int) by omega]
    exact ih (i + 1) k _ (by simp; omega) (by omega) (by simp; omega)
theorem CrcSeals : remoralaw02_CrcSeals.Pure := by
  intro l h1 h2 hw
  have hb : Byte l := fun x hx => by
    have h := hw x hx
    simp [Lit.wf, IntKind.min, IntKind.max, IntKind.signed, IntKind.bits] at h; omega
  refine ⟨l.length + 100, ?_⟩
  unfold remoralaw02_CrcSeals.f
  by_cases c : (l.length : Int) > 1000
  · rw [if_pos c]; rfl
  · rw [if_neg c]
    have e1 : crc_Seal.f l = some (l ++ sealL (crcSum l)) := by unfold crc_Seal.f; rw [if_pos (by omega)]
    rw [e1, Option.bind_some, refSeal_f _ l hb (by omega) (by omega), Option.bind_some, if_pos (show (strOfNums (l ++ sealL (crcSum l))).toList = (strOfNums (l ++ sealL (crcSum l))).toList from rfl)]
    exact seals_loop l _ rfl (l ++ sealL (crcSum l)).length 0 _ _ (by omega) (by simp [sealL]) (by simp [sealL]; omega)
end Go.Proofs.YtplpckppejnicaaDoor.Pure
