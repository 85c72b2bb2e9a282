/-
  DERIVED. GIVEN WITH THE SEED: THE CARDS: each row of YthehhbfiaaadgaaDoorRows.lean that lists a variable, with what it lists TIED to the program's text (the seventh form; the later family's looks); each row that meets fmt, with fmt's text TOLD by the authors' own Lean function (tested against real Go, not proved from fmt's source: count such statements apart). THE CARD IS WHAT COUNTS. Prove the row's statement (the work); the ties are given (YthehhbfiaaadgaaDoorTie.lean); close each card by the builder's one call (the guide's Derived/Test/ToyasCard.lean, 'card_holds'). Laid BY PROGRAM, IN A SANDBOX (cutbox-door.mjs). By AI agents, Wed Nov 11 2026. No macro, syntax, notation, axiom, sorry.
-/
import Derived.Test.YthehhbfiaaadgaaDoorRows
import GoSem.ClaimSeven
namespace Go.Proofs.YthehhbfiaaadgaaDoor
namespace Rows

/-- THE TIED CARD OF 'remoralaw31.MuxOrder'. -/
def muxOrderCard : Claim7 := { stood := { row := muxOrderRow, standIns := [], harness := (true, "861733ce1b00a62d47dddc9ec8f6548b55194869e06f02df5decdc6bf4090c1f"), looks := true }, kinds := [], alts := [], laidByText := true, laidKinds := [.data], laidTests := true, laidLooks := .later }
def MuxOrderCardSaid : Prop := Claim7.holds Tryd.pinned (.plain (OpenSpec.ofChange muxOrderSpec)) muxOrderCard

/-- THE TIED CARD OF 'remoralaw31.MuxNone'. -/
def muxNoneCard : Claim7 := { stood := { row := muxNoneRow, standIns := [], harness := (true, "861733ce1b00a62d47dddc9ec8f6548b55194869e06f02df5decdc6bf4090c1f"), looks := true }, kinds := [], alts := [], laidByText := true, laidKinds := [.data], laidTests := true, laidLooks := .later }
def MuxNoneCardSaid : Prop := Claim7.holds Tryd.pinned (.plain (OpenSpec.ofChange muxNoneSpec)) muxNoneCard

/-- THE TIED CARD OF 'remoralaw31.MuxPlays'. -/
def muxPlaysCard : Claim7 := { stood := { row := muxPlaysRow, standIns := [], harness := (true, "861733ce1b00a62d47dddc9ec8f6548b55194869e06f02df5decdc6bf4090c1f"), looks := true }, kinds := [], alts := [], laidByText := true, laidKinds := [.data], laidTests := true, laidLooks := .later }
def MuxPlaysCardSaid : Prop := Claim7.holds Tryd.pinned (.plain (OpenSpec.ofChange muxPlaysSpec)) muxPlaysCard

/-- THE TIED CARD OF 'remoralaw31.MuxSent'. -/
def muxSentCard : Claim7 := { stood := { row := muxSentRow, standIns := [], harness := (true, "861733ce1b00a62d47dddc9ec8f6548b55194869e06f02df5decdc6bf4090c1f"), looks := true }, kinds := [], alts := [], laidByText := true, laidKinds := [.data], laidTests := true, laidLooks := .later }
def MuxSentCardSaid : Prop := Claim7.holds Tryd.pinned (.plain (OpenSpec.ofChange muxSentSpec)) muxSentCard

/-- THE TIED CARD OF 'remoralaw31.MuxWrong'. -/
def muxWrongCard : Claim7 := { stood := { row := muxWrongRow, standIns := [], harness := (true, "861733ce1b00a62d47dddc9ec8f6548b55194869e06f02df5decdc6bf4090c1f"), looks := true }, kinds := [], alts := [], laidByText := true, laidKinds := [.data], laidTests := true, laidLooks := .later }
def MuxWrongCardSaid : Prop := Claim7.holds Tryd.pinned (.plain (OpenSpec.ofChange muxWrongSpec)) muxWrongCard

/-- THE TIED CARD OF 'remoralaw31.MuxNobody'. -/
def muxNobodyCard : Claim7 := { stood := { row := muxNobodyRow, standIns := [], harness := (true, "861733ce1b00a62d47dddc9ec8f6548b55194869e06f02df5decdc6bf4090c1f"), looks := true }, kinds := [], alts := [], laidByText := true, laidKinds := [.data], laidTests := true, laidLooks := .later }
def MuxNobodyCardSaid : Prop := Claim7.holds Tryd.pinned (.plain (OpenSpec.ofChange muxNobodySpec)) muxNobodyCard

/-- THE SECOND FORM's CARD OF 'remoralaw31.MuxOrder'. -/
def muxOrderUptoCard : Claim7 := { stood := { row := muxOrderUptoRow, standIns := [], harness := (true, "861733ce1b00a62d47dddc9ec8f6548b55194869e06f02df5decdc6bf4090c1f"), looks := true }, kinds := [], alts := [], laidByText := true, laidKinds := [.data], laidTests := true, laidLooks := .later }
def MuxOrderUptoCardSaid : Prop := Claim7.holds Tryd.pinned (.plain (OpenSpec.upto muxOrderSpec)) muxOrderUptoCard

/-- THE SECOND FORM's CARD OF 'remoralaw31.MuxNone'. -/
def muxNoneUptoCard : Claim7 := { stood := { row := muxNoneUptoRow, standIns := [], harness := (true, "861733ce1b00a62d47dddc9ec8f6548b55194869e06f02df5decdc6bf4090c1f"), looks := true }, kinds := [], alts := [], laidByText := true, laidKinds := [.data], laidTests := true, laidLooks := .later }
def MuxNoneUptoCardSaid : Prop := Claim7.holds Tryd.pinned (.plain (OpenSpec.upto muxNoneSpec)) muxNoneUptoCard

/-- THE SECOND FORM's CARD OF 'remoralaw31.MuxPlays'. -/
def muxPlaysUptoCard : Claim7 := { stood := { row := muxPlaysUptoRow, standIns := [], harness := (true, "861733ce1b00a62d47dddc9ec8f6548b55194869e06f02df5decdc6bf4090c1f"), looks := true }, kinds := [], alts := [], laidByText := true, laidKinds := [.data], laidTests := true, laidLooks := .later }
def MuxPlaysUptoCardSaid : Prop := Claim7.holds Tryd.pinned (.plain (OpenSpec.upto muxPlaysSpec)) muxPlaysUptoCard

/-- THE SECOND FORM's CARD OF 'remoralaw31.MuxSent'. -/
def muxSentUptoCard : Claim7 := { stood := { row := muxSentUptoRow, standIns := [], harness := (true, "861733ce1b00a62d47dddc9ec8f6548b55194869e06f02df5decdc6bf4090c1f"), looks := true }, kinds := [], alts := [], laidByText := true, laidKinds := [.data], laidTests := true, laidLooks := .later }
def MuxSentUptoCardSaid : Prop := Claim7.holds Tryd.pinned (.plain (OpenSpec.upto muxSentSpec)) muxSentUptoCard

/-- THE SECOND FORM's CARD OF 'remoralaw31.MuxWrong'. -/
def muxWrongUptoCard : Claim7 := { stood := { row := muxWrongUptoRow, standIns := [], harness := (true, "861733ce1b00a62d47dddc9ec8f6548b55194869e06f02df5decdc6bf4090c1f"), looks := true }, kinds := [], alts := [], laidByText := true, laidKinds := [.data], laidTests := true, laidLooks := .later }
def MuxWrongUptoCardSaid : Prop := Claim7.holds Tryd.pinned (.plain (OpenSpec.upto muxWrongSpec)) muxWrongUptoCard

/-- THE SECOND FORM's CARD OF 'remoralaw31.MuxNobody'. -/
def muxNobodyUptoCard : Claim7 := { stood := { row := muxNobodyUptoRow, standIns := [], harness := (true, "861733ce1b00a62d47dddc9ec8f6548b55194869e06f02df5decdc6bf4090c1f"), looks := true }, kinds := [], alts := [], laidByText := true, laidKinds := [.data], laidTests := true, laidLooks := .later }
def MuxNobodyUptoCardSaid : Prop := Claim7.holds Tryd.pinned (.plain (OpenSpec.upto muxNobodySpec)) muxNobodyUptoCard
end Rows
end Go.Proofs.YthehhbfiaaadgaaDoor
