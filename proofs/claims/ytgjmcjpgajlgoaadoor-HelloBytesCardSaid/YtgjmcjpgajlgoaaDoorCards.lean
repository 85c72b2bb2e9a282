/-
  DERIVED. GIVEN WITH THE SEED: THE CARDS: each row of YtgjmcjpgajlgoaaDoorRows.lean that lists a variable, with what it lists TIED to the program's text (the seventh form; the later family's looks); each row that meets fmt, with fmt's text TOLD by the authors' own Lean function (tested against real Go, not proved from fmt's source: count such statements apart). THE CARD IS WHAT COUNTS. Prove the row's statement (the work); the ties are given (YtgjmcjpgajlgoaaDoorTie.lean); close each card by the builder's one call (the guide's Derived/Test/ToyasCard.lean, 'card_holds'). Laid BY PROGRAM, IN A SANDBOX (cutbox-door.mjs). By AI agents, Wed Nov 11 2026. No macro, syntax, notation, axiom, sorry.
-/
import Derived.Test.YtgjmcjpgajlgoaaDoorRows
import GoSem.ClaimSeven
namespace Go.Proofs.YtgjmcjpgajlgoaaDoor
namespace Rows

/-- THE TIED CARD OF 'remoralaw32.HelloBytes'. -/
def helloBytesCard : Claim7 := { stood := { row := helloBytesRow, standIns := [], harness := (true, "df7b8e27037246bf0fe36fde42ac4fb3f78088984aea83925aa1e0260e615d28"), looks := false }, kinds := [], alts := [], laidByText := true, laidKinds := [.data], laidTests := true, laidLooks := .later }
def HelloBytesCardSaid : Prop := Claim7.holds Tryd.pinned (.plain (OpenSpec.ofChange helloBytesSpec)) helloBytesCard

/-- THE TIED CARD OF 'remoralaw32.HelloBack'. -/
def helloBackCard : Claim7 := { stood := { row := helloBackRow, standIns := [], harness := (true, "df7b8e27037246bf0fe36fde42ac4fb3f78088984aea83925aa1e0260e615d28"), looks := false }, kinds := [], alts := [], laidByText := true, laidKinds := [.data], laidTests := true, laidLooks := .later }
def HelloBackCardSaid : Prop := Claim7.holds Tryd.pinned (.plain (OpenSpec.ofChange helloBackSpec)) helloBackCard

/-- THE SECOND FORM's CARD OF 'remoralaw32.HelloBytes'. -/
def helloBytesUptoCard : Claim7 := { stood := { row := helloBytesUptoRow, standIns := [], harness := (true, "df7b8e27037246bf0fe36fde42ac4fb3f78088984aea83925aa1e0260e615d28"), looks := false }, kinds := [], alts := [], laidByText := true, laidKinds := [.data], laidTests := true, laidLooks := .later }
def HelloBytesUptoCardSaid : Prop := Claim7.holds Tryd.pinned (.plain (OpenSpec.upto helloBytesSpec)) helloBytesUptoCard

/-- THE SECOND FORM's CARD OF 'remoralaw32.HelloBack'. -/
def helloBackUptoCard : Claim7 := { stood := { row := helloBackUptoRow, standIns := [], harness := (true, "df7b8e27037246bf0fe36fde42ac4fb3f78088984aea83925aa1e0260e615d28"), looks := false }, kinds := [], alts := [], laidByText := true, laidKinds := [.data], laidTests := true, laidLooks := .later }
def HelloBackUptoCardSaid : Prop := Claim7.holds Tryd.pinned (.plain (OpenSpec.upto helloBackSpec)) helloBackUptoCard
end Rows
end Go.Proofs.YtgjmcjpgajlgoaaDoor
