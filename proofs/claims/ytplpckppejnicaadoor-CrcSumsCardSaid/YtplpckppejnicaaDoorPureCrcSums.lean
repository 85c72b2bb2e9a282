/- The law CrcSums: the sum of parts agrees with the reference. For every slice of slices of bytes. -/
import Derived.Test.YtplpckppejnicaaDoorCrcRef
import Derived.Test.YtplpckppejnicaaDoorPx4
namespace Go.Proofs.YtplpckppejnicaaDoor.Pure
open Go.RowKit Go.Proofs.YtplpckppejnicaaDoor.P Go.Proofs.YtplpckppejnicaaDoorW.PrintWords Go.Proofs.YtplpckppejnicaaDoorW.PrintLast Go.Proofs.YtplpckppejnicaaDoorW.PrintMore Go.Proofs.YtplpckppejnicaaDoor.Crc
theorem sum_small (l : List (List Int)) (h : ∀ x ∈ l, x.length ≤ 400) : (l.map List.length).sum ≤ 400 * l.length := by
  induction l with
  | nil => simp
  | cons a t ih =>
    have h1 := h a (by simp)
    have h2 := ih (fun x hx => h x (by simp [hx]))
    simp only [List.map_cons, List.sum_cons, List.length_cons]
    omega
theorem byte_of_wf {l : List Int} (h : ∀ x ∈ l, (Lit.int .u8 x).wf = true) : Byte l := fun x hx => by
  have h := h x hx
  simp [Lit.wf, IntKind.min, IntKind.max, IntKind.signed, IntKind.bits] at h; omega
theorem sums_loop (l : List (List Int)) (hb : ∀ x ∈ l, Byte x) (hn : l.length ≤ 20) : ∀ (d i k : Nat), i + d = l.length → d + 9000 ≤ k → (∀ j : Nat, j < i → ∀ h : j < l.length, l[j].length ≤ 400) →
    remoralaw02_CrcSums.l0 k l (i : Int) = some true := by
  intro d
  induction d with
  | zero =>
    intro i k hi hk hall
    obtain ⟨k, rfl⟩ : ∃ q, k = q + 1 := ⟨k - 1, by omega⟩
    have hs : ∀ x ∈ l, x.length ≤ 400 := fun x hx => by
      obtain ⟨j, hj, rfl⟩ := List.mem_iff_getElem.1 hx
      exact hall j (by omega) hj
    have hsum := sum_small l hs
    simp only [remoralaw02_CrcSums.l0]
    rw [if_neg (by omega)]
    have e1 : crc_Of.f l = some (Go.bits .xor .u32 4294967295 (l.foldl crcFold 4294967295)) := rfl
    rw [e1, Option.bind_some, refOf_f k l (fun x hx => ⟨hb x hx, by have := hs x hx; omega⟩) (by omega) (by omega), Option.bind_some]
    simp
    rfl
  | succ d ih =>
    intro i k hi hk hall
    obtain ⟨k, rfl⟩ : ∃ q, k = q + 1 := ⟨k - 1, by omega⟩
    have hlt : i < l.length := by omega
    have hrd : rd_L1 l (i : Int) = l[i] := by simp [rd_L1, hlt]
    simp only [remoralaw02_CrcSums.l0]
    rw [if_pos (by omega), if_pos (by omega), hrd]
    by_cases c : (l[i].length : Int) > 400
    · rw [if_pos c]; rfl
    · rw [if_neg c, w64' (n := (i : Int) + 1) (by omega) (by omega), show ((i : Int) + 1) = ((i + 1 : Nat) : Int) by omega]
      refine ih (i + 1) k (by omega) (by omega) (fun j hj h => ?_)
      by_cases hji : j < i
      · exact hall j hji h
      · have : j = i := by omega
        subst this
        omega
theorem CrcSums : remoralaw02_CrcSums.Pure := by
  intro l h1 h2 hw
  refine ⟨20000, ?_⟩
  unfold remoralaw02_CrcSums.f
  by_cases c : (l.length : Int) > 20
  · rw [if_pos c]; rfl
  · rw [if_neg c]
    exact sums_loop l (fun x hx => byte_of_wf (hw x hx).2.2) (by omega) l.length 0 20000 (by omega) (by omega) (fun j hj => absurd hj (by omega))
end Go.Proofs.YtplpckppejnicaaDoor.Pure
