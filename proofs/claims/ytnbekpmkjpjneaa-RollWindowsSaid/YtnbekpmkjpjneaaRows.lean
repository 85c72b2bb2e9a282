/-
  No cell of these rows narrows 'for every input' (looked for: loops, veiled, ifaces, maps, wideKeys, modest, calm, conditions, laid).
  DERIVED. THE GIVEN ROWS OF THIS SEAT. 7 by the template 'for every input the law returns true; each argument reads behind the call as it read before'; 0 by the template 'total and deterministic' (their statements: YtnbekpmkjpjneaaTotals.lean).
  GIVEN WITH THE SEED: the statements are not yours to turn. If you find one false, say at which input.
  Laid BY PROGRAM, IN A SANDBOX (cutbox-rows.mjs): the forced cells as the released guide's own fill.sh prints them over the translation d3803c46f2e7856b… (all of the seat's roots in one cut). By AI agents, Wed Nov 11 2026. No macro, syntax, notation, axiom, sorry.
-/
import Derived.Test.YtnbekpmkjpjneaaChecked
import GoSem.Claim
import GoSem.ClaimJoined
import GoSem.ClaimMapViews
import Derived.JoinedTies
import Derived.KernelRfl
namespace Go.Proofs.Ytnbekpmkjpjneaa
/- THE CELL 'sum', in the pinned program and in every row, IS THE sha256 OF THE DUMP (.gsa) THAT YtnbekpmkjpjneaaProg.lean LOADS. Nothing in Lean hashes anything: it is a label: what it is worth is what the hold of that sum in a sandbox is worth. -/
noncomputable def Try.pinned : Pinned := { name := "ytnbekpmkjpjneaa", sum := "d3803c46f2e7856bca860125678ff87ebe9170e794169ecced36b6150ba0c3b4", checked := Try.checked }
namespace Rows
def none {H : Type} : Left H := { results := [], args := [] }

/-- 'remoralaw04.RollOf': WHATEVER THE INPUT: true; the input reads as it did. -/
def rollOfSpec : ChangeSpec := { name := "rollOf", fn := fun _ => fun
  | [d] => { results := [.lit (.bool true)], args := [d] }
  | _ => none }
def rollOfRow : OpenClaim := { program := "ytnbekpmkjpjneaa", sum := "d3803c46f2e7856bca860125678ff87ebe9170e794169ecced36b6150ba0c3b4", func := "remora/remoralaw04.RollOf", spec := "rollOf", apart := false }
def RollOfSaid : Prop := rollOfRow.holds Try.pinned (OpenSpec.ofChange rollOfSpec)

/-- ITS FALSE NEIGHBOUR: 'it returns false'. Refute it at one input. -/
def rollOfWrong : ChangeSpec := { name := "rollOf", fn := fun _ => fun
  | [d] => { results := [.lit (.bool false)], args := [d] }
  | _ => none }
def RollOfWrongFalsely : Prop := rollOfRow.holds Try.pinned (OpenSpec.ofChange rollOfWrong)

/-- 'remoralaw04.RollMoves': WHATEVER THE INPUT: true; the input reads as it did. -/
def rollMovesSpec : ChangeSpec := { name := "rollMoves", fn := fun _ => fun
  | [d] => { results := [.lit (.bool true)], args := [d] }
  | _ => none }
def rollMovesRow : OpenClaim := { program := "ytnbekpmkjpjneaa", sum := "d3803c46f2e7856bca860125678ff87ebe9170e794169ecced36b6150ba0c3b4", func := "remora/remoralaw04.RollMoves", spec := "rollMoves", apart := false }
def RollMovesSaid : Prop := rollMovesRow.holds Try.pinned (OpenSpec.ofChange rollMovesSpec)

/-- ITS FALSE NEIGHBOUR: 'it returns false'. Refute it at one input. -/
def rollMovesWrong : ChangeSpec := { name := "rollMoves", fn := fun _ => fun
  | [d] => { results := [.lit (.bool false)], args := [d] }
  | _ => none }
def RollMovesWrongFalsely : Prop := rollMovesRow.holds Try.pinned (OpenSpec.ofChange rollMovesWrong)

/-- 'remoralaw04.RollTexts': WHATEVER THE INPUT: true; the input reads as it did. -/
def rollTextsSpec : ChangeSpec := { name := "rollTexts", fn := fun _ => fun
  | [d1, d2, d3] => { results := [.lit (.bool true)], args := [d1, d2, d3] }
  | _ => none }
def rollTextsRow : OpenClaim := { program := "ytnbekpmkjpjneaa", sum := "d3803c46f2e7856bca860125678ff87ebe9170e794169ecced36b6150ba0c3b4", func := "remora/remoralaw04.RollTexts", spec := "rollTexts", apart := false }
def RollTextsSaid : Prop := rollTextsRow.holds Try.pinned (OpenSpec.ofChange rollTextsSpec)

/-- ITS FALSE NEIGHBOUR: 'it returns false'. Refute it at one input. -/
def rollTextsWrong : ChangeSpec := { name := "rollTexts", fn := fun _ => fun
  | [d1, d2, d3] => { results := [.lit (.bool false)], args := [d1, d2, d3] }
  | _ => none }
def RollTextsWrongFalsely : Prop := rollTextsRow.holds Try.pinned (OpenSpec.ofChange rollTextsWrong)

/-- 'remoralaw04.RollJoins': WHATEVER THE INPUT: true; the input reads as it did. -/
def rollJoinsSpec : ChangeSpec := { name := "rollJoins", fn := fun _ => fun
  | [d1, d2, d3] => { results := [.lit (.bool true)], args := [d1, d2, d3] }
  | _ => none }
def rollJoinsRow : OpenClaim := { program := "ytnbekpmkjpjneaa", sum := "d3803c46f2e7856bca860125678ff87ebe9170e794169ecced36b6150ba0c3b4", func := "remora/remoralaw04.RollJoins", spec := "rollJoins", apart := false }
def RollJoinsSaid : Prop := rollJoinsRow.holds Try.pinned (OpenSpec.ofChange rollJoinsSpec)

/-- ITS FALSE NEIGHBOUR: 'it returns false'. Refute it at one input. -/
def rollJoinsWrong : ChangeSpec := { name := "rollJoins", fn := fun _ => fun
  | [d1, d2, d3] => { results := [.lit (.bool false)], args := [d1, d2, d3] }
  | _ => none }
def RollJoinsWrongFalsely : Prop := rollJoinsRow.holds Try.pinned (OpenSpec.ofChange rollJoinsWrong)

/-- 'remoralaw04.RollSlides': WHATEVER THE INPUT: true; the input reads as it did. -/
def rollSlidesSpec : ChangeSpec := { name := "rollSlides", fn := fun _ => fun
  | [d1, d2] => { results := [.lit (.bool true)], args := [d1, d2] }
  | _ => none }
def rollSlidesRow : OpenClaim := { program := "ytnbekpmkjpjneaa", sum := "d3803c46f2e7856bca860125678ff87ebe9170e794169ecced36b6150ba0c3b4", func := "remora/remoralaw04.RollSlides", spec := "rollSlides", apart := false }
def RollSlidesSaid : Prop := rollSlidesRow.holds Try.pinned (OpenSpec.ofChange rollSlidesSpec)

/-- ITS FALSE NEIGHBOUR: 'it returns false'. Refute it at one input. -/
def rollSlidesWrong : ChangeSpec := { name := "rollSlides", fn := fun _ => fun
  | [d1, d2] => { results := [.lit (.bool false)], args := [d1, d2] }
  | _ => none }
def RollSlidesWrongFalsely : Prop := rollSlidesRow.holds Try.pinned (OpenSpec.ofChange rollSlidesWrong)

/-- 'remoralaw04.RollWindows': WHATEVER THE INPUT: true; the input reads as it did. -/
def rollWindowsSpec : ChangeSpec := { name := "rollWindows", fn := fun _ => fun
  | [d1, d2, d3] => { results := [.lit (.bool true)], args := [d1, d2, d3] }
  | _ => none }
def rollWindowsRow : OpenClaim := { program := "ytnbekpmkjpjneaa", sum := "d3803c46f2e7856bca860125678ff87ebe9170e794169ecced36b6150ba0c3b4", func := "remora/remoralaw04.RollWindows", spec := "rollWindows", apart := false }
def RollWindowsSaid : Prop := rollWindowsRow.holds Try.pinned (OpenSpec.ofChange rollWindowsSpec)

/-- ITS FALSE NEIGHBOUR: 'it returns false'. Refute it at one input. -/
def rollWindowsWrong : ChangeSpec := { name := "rollWindows", fn := fun _ => fun
  | [d1, d2, d3] => { results := [.lit (.bool false)], args := [d1, d2, d3] }
  | _ => none }
def RollWindowsWrongFalsely : Prop := rollWindowsRow.holds Try.pinned (OpenSpec.ofChange rollWindowsWrong)

/-- 'remoralaw04.RollNone': WHATEVER THE INPUT: true; the input reads as it did. -/
def rollNoneSpec : ChangeSpec := { name := "rollNone", fn := fun _ => fun
  | [d1, d2] => { results := [.lit (.bool true)], args := [d1, d2] }
  | _ => none }
def rollNoneRow : OpenClaim := { program := "ytnbekpmkjpjneaa", sum := "d3803c46f2e7856bca860125678ff87ebe9170e794169ecced36b6150ba0c3b4", func := "remora/remoralaw04.RollNone", spec := "rollNone", apart := false }
def RollNoneSaid : Prop := rollNoneRow.holds Try.pinned (OpenSpec.ofChange rollNoneSpec)

/-- ITS FALSE NEIGHBOUR: 'it returns false'. Refute it at one input. -/
def rollNoneWrong : ChangeSpec := { name := "rollNone", fn := fun _ => fun
  | [d1, d2] => { results := [.lit (.bool false)], args := [d1, d2] }
  | _ => none }
def RollNoneWrongFalsely : Prop := rollNoneRow.holds Try.pinned (OpenSpec.ofChange rollNoneWrong)

/- THE SECOND FORM. 'bulk': how many values and letters a reading holds, each counted each time it is reached (what is shared counts as often as it is met; a slice's spare places count too). A statement '..UptoSaid' is the law's where the arguments, and the package variables that the reading takes, are together of bulk at most 1048576: NARROWER than '..Said'. Prove '..Said' where nothing that the law and all that it calls make is longer than what came in: it says more and counts as full. Else prove '..UptoSaid'. A law counts once. -/
mutual
def uptoBulk {H : Type} : DataW H → Nat
  | .lit (.string bytes) => bytes.length + 1
  | .lit _ => 1
  | .nil => 1
  | .ptr d => uptoBulk d + 1
  | .slice elems spare => uptoBulkAll elems + uptoBulkAll spare + 1
  | .agg parts => uptoBulkAll parts + 1
  | .iface _ d => uptoBulk d + 1
  | .map entries => uptoBulkEntries entries + 1
  | .held _ => 1
def uptoBulkAll {H : Type} : List (DataW H) → Nat
  | [] => 0
  | d :: r => uptoBulk d + uptoBulkAll r
def uptoBulkEntries {H : Type} : List (Lit × DataW H) → Nat
  | [] => 0
  | x :: r => uptoBulkEntry x + uptoBulkEntries r
def uptoBulkEntry {H : Type} : Lit × DataW H → Nat
  | (.string bytes, d) => bytes.length + uptoBulk d + 1
  | (_, d) => uptoBulk d + 1
 end
def uptoSmall : (H : Type) → List (DataW H) → Bool := fun _ ds => decide (uptoBulkAll ds ≤ 1048576)
def OpenSpec.upto (s : _root_.Go.ChangeSpec) : _root_.Go.OpenSpec := { _root_.Go.OpenSpec.ofChange s with cond := some uptoSmall }

/-- 'remoralaw04.RollOf', WHERE WHAT IT READS IS OF BULK AT MOST 1048576: true; the input reads as it did. -/
def rollOfUptoRow : OpenClaim := { program := "ytnbekpmkjpjneaa", sum := "d3803c46f2e7856bca860125678ff87ebe9170e794169ecced36b6150ba0c3b4", func := "remora/remoralaw04.RollOf", spec := "rollOf", apart := false, narrowed := true }
def RollOfUptoSaid : Prop := rollOfUptoRow.holds Try.pinned (OpenSpec.upto rollOfSpec)

/-- 'remoralaw04.RollMoves', WHERE WHAT IT READS IS OF BULK AT MOST 1048576: true; the input reads as it did. -/
def rollMovesUptoRow : OpenClaim := { program := "ytnbekpmkjpjneaa", sum := "d3803c46f2e7856bca860125678ff87ebe9170e794169ecced36b6150ba0c3b4", func := "remora/remoralaw04.RollMoves", spec := "rollMoves", apart := false, narrowed := true }
def RollMovesUptoSaid : Prop := rollMovesUptoRow.holds Try.pinned (OpenSpec.upto rollMovesSpec)

/-- 'remoralaw04.RollTexts', WHERE WHAT IT READS IS OF BULK AT MOST 1048576: true; the input reads as it did. -/
def rollTextsUptoRow : OpenClaim := { program := "ytnbekpmkjpjneaa", sum := "d3803c46f2e7856bca860125678ff87ebe9170e794169ecced36b6150ba0c3b4", func := "remora/remoralaw04.RollTexts", spec := "rollTexts", apart := false, narrowed := true }
def RollTextsUptoSaid : Prop := rollTextsUptoRow.holds Try.pinned (OpenSpec.upto rollTextsSpec)

/-- 'remoralaw04.RollJoins', WHERE WHAT IT READS IS OF BULK AT MOST 1048576: true; the input reads as it did. -/
def rollJoinsUptoRow : OpenClaim := { program := "ytnbekpmkjpjneaa", sum := "d3803c46f2e7856bca860125678ff87ebe9170e794169ecced36b6150ba0c3b4", func := "remora/remoralaw04.RollJoins", spec := "rollJoins", apart := false, narrowed := true }
def RollJoinsUptoSaid : Prop := rollJoinsUptoRow.holds Try.pinned (OpenSpec.upto rollJoinsSpec)

/-- 'remoralaw04.RollSlides', WHERE WHAT IT READS IS OF BULK AT MOST 1048576: true; the input reads as it did. -/
def rollSlidesUptoRow : OpenClaim := { program := "ytnbekpmkjpjneaa", sum := "d3803c46f2e7856bca860125678ff87ebe9170e794169ecced36b6150ba0c3b4", func := "remora/remoralaw04.RollSlides", spec := "rollSlides", apart := false, narrowed := true }
def RollSlidesUptoSaid : Prop := rollSlidesUptoRow.holds Try.pinned (OpenSpec.upto rollSlidesSpec)

/-- 'remoralaw04.RollWindows', WHERE WHAT IT READS IS OF BULK AT MOST 1048576: true; the input reads as it did. -/
def rollWindowsUptoRow : OpenClaim := { program := "ytnbekpmkjpjneaa", sum := "d3803c46f2e7856bca860125678ff87ebe9170e794169ecced36b6150ba0c3b4", func := "remora/remoralaw04.RollWindows", spec := "rollWindows", apart := false, narrowed := true }
def RollWindowsUptoSaid : Prop := rollWindowsUptoRow.holds Try.pinned (OpenSpec.upto rollWindowsSpec)

/-- 'remoralaw04.RollNone', WHERE WHAT IT READS IS OF BULK AT MOST 1048576: true; the input reads as it did. -/
def rollNoneUptoRow : OpenClaim := { program := "ytnbekpmkjpjneaa", sum := "d3803c46f2e7856bca860125678ff87ebe9170e794169ecced36b6150ba0c3b4", func := "remora/remoralaw04.RollNone", spec := "rollNone", apart := false, narrowed := true }
def RollNoneUptoSaid : Prop := rollNoneUptoRow.holds Try.pinned (OpenSpec.upto rollNoneSpec)

end Rows
end Go.Proofs.Ytnbekpmkjpjneaa
