/- What is read of bytes: the readers of the program and of the document compute the same. -/
import Derived.Test.YtniboafnkiijcaaDoorLedSpec
import Derived.Test.YtniboafnkiijcaaDoorNumRefGets
import Derived.Test.YtniboafnkiijcaaDoorCrcOpenLite
import Derived.Test.YtniboafnkiijcaaDoorPx2
set_option linter.unusedVariables false
set_option linter.unusedSimpArgs false
namespace Go.Proofs.YtniboafnkiijcaaDoor.P
open Go.RowKit Go.Proofs.YtniboafnkiijcaaDoorW.PrintWords Go.Proofs.YtniboafnkiijcaaDoorW.PrintLast Go.Proofs.YtniboafnkiijcaaDoorW.PrintMore Go.Proofs.YtniboafnkiijcaaDoor.Num Go.Proofs.YtniboafnkiijcaaDoor.Crc
theorem open_all (l : List Int) (hl : l.length ≤ 2000000) (hb : Byt l) : ∃ O eo, crc_Open.f l = some (O, eo) ∧ Byt O ∧ O.length ≤ l.length := by
  unfold crc_Open.f
  split
  · exact ⟨_, _, rfl, byt_nil, by simp⟩
  · rw [if_pos (by omega)]
    split
    · exact ⟨_, _, rfl, hb.take _, by rw [List.length_take]; omega⟩
    · exact ⟨_, _, rfl, byt_nil, by simp⟩
theorem openHyp (l : List Int) (hl : l.length ≤ 2000000) (hb : Byt l) : OpenHyp l := by
  obtain ⟨O, eo, h1, h2, h3⟩ := open_all l hl hb
  have hO : O.length ≤ 140737488355328 := by omega
  refine ⟨l.length + 30, O, eo, h1, by rw [refOpen_f _ l hb (by omega) (Nat.le_refl _)]; exact h1, h2, h3, fun a => get_f _ O a (by omega) h2 hO, fun a => getInt_f _ O a (by omega) h2 hO, fun a => getText_f _ O a 200 (by omega) h2 hO, fun a => refGet_f _ O a (by omega) h2 hO, fun a => refGetInt_f _ O a (by omega) h2 hO, fun a => refGetText_f _ O a 200 (by omega) h2 hO⟩
theorem sealL_len4 (s : Int) : (sealL s).length = 4 := rfl
theorem sealL_byt (s : Int) : Byt (sealL s) := fun x hx => by
  unfold sealL at hx
  simp only [List.mem_cons, List.not_mem_nil, or_false] at hx
  omega
theorem sealHyp (l : List Int) (hl : l.length ≤ 3000) (hb : Byt l) : ∃ k s, remoraref02_Seal.f k l = some s ∧ Byt s ∧ s.length ≤ 3004 :=
  ⟨l.length + 30, _, refSeal_f _ l hb (by omega) (Nat.le_refl _), hb.append (sealL_byt _), by rw [List.length_append, sealL_len4]; omega⟩
end Go.Proofs.YtniboafnkiijcaaDoor.P
