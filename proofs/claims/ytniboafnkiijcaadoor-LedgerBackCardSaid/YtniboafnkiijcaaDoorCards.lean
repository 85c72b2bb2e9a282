/-
  DERIVED. GIVEN WITH THE SEED: THE CARDS: each row of YtniboafnkiijcaaDoorRows.lean that lists a variable, with what it lists TIED to the program's text (the seventh form; the later family's looks); each row that meets fmt, with fmt's text TOLD by the authors' own Lean function (tested against real Go, not proved from fmt's source: count such statements apart). THE CARD IS WHAT COUNTS. Prove the row's statement (the work); the ties are given (YtniboafnkiijcaaDoorTie.lean); close each card by the builder's one call (the guide's Derived/Test/ToyasCard.lean, 'card_holds'). Laid BY PROGRAM, IN A SANDBOX (cutbox-door.mjs). By AI agents, Wed Nov 11 2026. No macro, syntax, notation, axiom, sorry.
-/
import Derived.Test.YtniboafnkiijcaaDoorRows
import GoSem.ClaimSeven
namespace Go.Proofs.YtniboafnkiijcaaDoor
namespace Rows

/-- THE TIED CARD OF 'remoralaw33.LedgerBytes'. -/
def ledgerBytesCard : Claim7 := { stood := { row := ledgerBytesRow, standIns := [], harness := (true, "580ba2e93dcbc2a51b71c146aa701f74722ca0ed004b1876c6c9901b751fef3b"), looks := false }, kinds := [], alts := [], laidByText := true, laidKinds := [.data], laidTests := true, laidLooks := .later }
def LedgerBytesCardSaid : Prop := Claim7.holds Tryd.pinned (.plain (OpenSpec.ofChange ledgerBytesSpec)) ledgerBytesCard

/-- THE TIED CARD OF 'remoralaw33.LedgerPlays'. -/
def ledgerPlaysCard : Claim7 := { stood := { row := ledgerPlaysRow, standIns := [], harness := (true, "580ba2e93dcbc2a51b71c146aa701f74722ca0ed004b1876c6c9901b751fef3b"), looks := false }, kinds := [], alts := [], laidByText := true, laidKinds := [.data], laidTests := true, laidLooks := .later }
def LedgerPlaysCardSaid : Prop := Claim7.holds Tryd.pinned (.plain (OpenSpec.ofChange ledgerPlaysSpec)) ledgerPlaysCard

/-- THE TIED CARD OF 'remoralaw33.LedgerReads'. -/
def ledgerReadsCard : Claim7 := { stood := { row := ledgerReadsRow, standIns := [], harness := (true, "580ba2e93dcbc2a51b71c146aa701f74722ca0ed004b1876c6c9901b751fef3b"), looks := false }, kinds := [], alts := [], laidByText := true, laidKinds := [.data], laidTests := true, laidLooks := .later }
def LedgerReadsCardSaid : Prop := Claim7.holds Tryd.pinned (.plain (OpenSpec.ofChange ledgerReadsSpec)) ledgerReadsCard

/-- THE TIED CARD OF 'remoralaw33.LedgerBack'. -/
def ledgerBackCard : Claim7 := { stood := { row := ledgerBackRow, standIns := [], harness := (true, "580ba2e93dcbc2a51b71c146aa701f74722ca0ed004b1876c6c9901b751fef3b"), looks := false }, kinds := [], alts := [], laidByText := true, laidKinds := [.data], laidTests := true, laidLooks := .later }
def LedgerBackCardSaid : Prop := Claim7.holds Tryd.pinned (.plain (OpenSpec.ofChange ledgerBackSpec)) ledgerBackCard

/-- THE SECOND FORM's CARD OF 'remoralaw33.LedgerBytes'. -/
def ledgerBytesUptoCard : Claim7 := { stood := { row := ledgerBytesUptoRow, standIns := [], harness := (true, "580ba2e93dcbc2a51b71c146aa701f74722ca0ed004b1876c6c9901b751fef3b"), looks := false }, kinds := [], alts := [], laidByText := true, laidKinds := [.data], laidTests := true, laidLooks := .later }
def LedgerBytesUptoCardSaid : Prop := Claim7.holds Tryd.pinned (.plain (OpenSpec.upto ledgerBytesSpec)) ledgerBytesUptoCard

/-- THE SECOND FORM's CARD OF 'remoralaw33.LedgerPlays'. -/
def ledgerPlaysUptoCard : Claim7 := { stood := { row := ledgerPlaysUptoRow, standIns := [], harness := (true, "580ba2e93dcbc2a51b71c146aa701f74722ca0ed004b1876c6c9901b751fef3b"), looks := false }, kinds := [], alts := [], laidByText := true, laidKinds := [.data], laidTests := true, laidLooks := .later }
def LedgerPlaysUptoCardSaid : Prop := Claim7.holds Tryd.pinned (.plain (OpenSpec.upto ledgerPlaysSpec)) ledgerPlaysUptoCard

/-- THE SECOND FORM's CARD OF 'remoralaw33.LedgerReads'. -/
def ledgerReadsUptoCard : Claim7 := { stood := { row := ledgerReadsUptoRow, standIns := [], harness := (true, "580ba2e93dcbc2a51b71c146aa701f74722ca0ed004b1876c6c9901b751fef3b"), looks := false }, kinds := [], alts := [], laidByText := true, laidKinds := [.data], laidTests := true, laidLooks := .later }
def LedgerReadsUptoCardSaid : Prop := Claim7.holds Tryd.pinned (.plain (OpenSpec.upto ledgerReadsSpec)) ledgerReadsUptoCard

/-- THE SECOND FORM's CARD OF 'remoralaw33.LedgerBack'. -/
def ledgerBackUptoCard : Claim7 := { stood := { row := ledgerBackUptoRow, standIns := [], harness := (true, "580ba2e93dcbc2a51b71c146aa701f74722ca0ed004b1876c6c9901b751fef3b"), looks := false }, kinds := [], alts := [], laidByText := true, laidKinds := [.data], laidTests := true, laidLooks := .later }
def LedgerBackUptoCardSaid : Prop := Claim7.holds Tryd.pinned (.plain (OpenSpec.upto ledgerBackSpec)) ledgerBackUptoCard
end Rows
end Go.Proofs.YtniboafnkiijcaaDoor
