/-
  No cell of these rows narrows 'for every input' (looked for: loops, veiled, ifaces, maps, wideKeys, modest, calm, conditions, laid).
  DERIVED. THE GIVEN ROWS OF THIS SEAT. 5 by the template 'for every input the law returns true; each argument reads behind the call as it read before'; 0 by the template 'total and deterministic' (their statements: YtgjmcjpgajlgoaaTotals.lean).
  GIVEN WITH THE SEED: the statements are not yours to turn. If you find one false, say at which input.
  Laid BY PROGRAM, IN A SANDBOX (cutbox-rows.mjs): the forced cells as the released guide's own fill.sh prints them over the translation 698c5aa56d3b6e35… (all of the seat's roots in one cut). By AI agents, Wed Nov 11 2026. No macro, syntax, notation, axiom, sorry.
-/
import Derived.Test.YtgjmcjpgajlgoaaChecked
import GoSem.Claim
import GoSem.ClaimJoined
import GoSem.ClaimMapViews
import Derived.JoinedTies
import Derived.KernelRfl
namespace Go.Proofs.Ytgjmcjpgajlgoaa
/- THE CELL 'sum', in the pinned program and in every row, IS THE sha256 OF THE DUMP (.gsa) THAT YtgjmcjpgajlgoaaProg.lean LOADS. Nothing in Lean hashes anything: it is a label: what it is worth is what the hold of that sum in a sandbox is worth. -/
noncomputable def Try.pinned : Pinned := { name := "ytgjmcjpgajlgoaa", sum := "698c5aa56d3b6e357992cfba8b3515b1b6c258645e54ed95dce3737c6a9eccf7", checked := Try.checked }
namespace Rows
def none {H : Type} : Left H := { results := [], args := [] }

/-- 'remoralaw32.HelloAgrees': WHATEVER THE INPUT: true; the input reads as it did. -/
def helloAgreesSpec : ChangeSpec := { name := "helloAgrees", fn := fun _ => fun
  | [d1, d2] => { results := [.lit (.bool true)], args := [d1, d2] }
  | _ => none }
def helloAgreesRow : OpenClaim := { program := "ytgjmcjpgajlgoaa", sum := "698c5aa56d3b6e357992cfba8b3515b1b6c258645e54ed95dce3737c6a9eccf7", func := "remora/remoralaw32.HelloAgrees", spec := "helloAgrees", apart := false }
def HelloAgreesSaid : Prop := helloAgreesRow.holds Try.pinned (OpenSpec.ofChange helloAgreesSpec)

/-- ITS FALSE NEIGHBOUR: 'it returns false'. Refute it at one input. -/
def helloAgreesWrong : ChangeSpec := { name := "helloAgrees", fn := fun _ => fun
  | [d1, d2] => { results := [.lit (.bool false)], args := [d1, d2] }
  | _ => none }
def HelloAgreesWrongFalsely : Prop := helloAgreesRow.holds Try.pinned (OpenSpec.ofChange helloAgreesWrong)

/-- 'remoralaw32.HelloMeets': WHATEVER THE INPUT: true; the input reads as it did. -/
def helloMeetsSpec : ChangeSpec := { name := "helloMeets", fn := fun _ => fun
  | [d1, d2] => { results := [.lit (.bool true)], args := [d1, d2] }
  | _ => none }
def helloMeetsRow : OpenClaim := { program := "ytgjmcjpgajlgoaa", sum := "698c5aa56d3b6e357992cfba8b3515b1b6c258645e54ed95dce3737c6a9eccf7", func := "remora/remoralaw32.HelloMeets", spec := "helloMeets", apart := false }
def HelloMeetsSaid : Prop := helloMeetsRow.holds Try.pinned (OpenSpec.ofChange helloMeetsSpec)

/-- ITS FALSE NEIGHBOUR: 'it returns false'. Refute it at one input. -/
def helloMeetsWrong : ChangeSpec := { name := "helloMeets", fn := fun _ => fun
  | [d1, d2] => { results := [.lit (.bool false)], args := [d1, d2] }
  | _ => none }
def HelloMeetsWrongFalsely : Prop := helloMeetsRow.holds Try.pinned (OpenSpec.ofChange helloMeetsWrong)

/-- 'remoralaw32.HelloBoth': WHATEVER THE INPUT: true; the input reads as it did. -/
def helloBothSpec : ChangeSpec := { name := "helloBoth", fn := fun _ => fun
  | [d1, d2] => { results := [.lit (.bool true)], args := [d1, d2] }
  | _ => none }
def helloBothRow : OpenClaim := { program := "ytgjmcjpgajlgoaa", sum := "698c5aa56d3b6e357992cfba8b3515b1b6c258645e54ed95dce3737c6a9eccf7", func := "remora/remoralaw32.HelloBoth", spec := "helloBoth", apart := false }
def HelloBothSaid : Prop := helloBothRow.holds Try.pinned (OpenSpec.ofChange helloBothSpec)

/-- ITS FALSE NEIGHBOUR: 'it returns false'. Refute it at one input. -/
def helloBothWrong : ChangeSpec := { name := "helloBoth", fn := fun _ => fun
  | [d1, d2] => { results := [.lit (.bool false)], args := [d1, d2] }
  | _ => none }
def HelloBothWrongFalsely : Prop := helloBothRow.holds Try.pinned (OpenSpec.ofChange helloBothWrong)

/-- 'remoralaw32.HelloAlone': WHATEVER THE INPUT: true; the input reads as it did. -/
def helloAloneSpec : ChangeSpec := { name := "helloAlone", fn := fun _ => fun
  | [d] => { results := [.lit (.bool true)], args := [d] }
  | _ => none }
def helloAloneRow : OpenClaim := { program := "ytgjmcjpgajlgoaa", sum := "698c5aa56d3b6e357992cfba8b3515b1b6c258645e54ed95dce3737c6a9eccf7", func := "remora/remoralaw32.HelloAlone", spec := "helloAlone", apart := false }
def HelloAloneSaid : Prop := helloAloneRow.holds Try.pinned (OpenSpec.ofChange helloAloneSpec)

/-- ITS FALSE NEIGHBOUR: 'it returns false'. Refute it at one input. -/
def helloAloneWrong : ChangeSpec := { name := "helloAlone", fn := fun _ => fun
  | [d] => { results := [.lit (.bool false)], args := [d] }
  | _ => none }
def HelloAloneWrongFalsely : Prop := helloAloneRow.holds Try.pinned (OpenSpec.ofChange helloAloneWrong)

/-- 'remoralaw32.HelloLess': WHATEVER THE INPUT: true; the input reads as it did. -/
def helloLessSpec : ChangeSpec := { name := "helloLess", fn := fun _ => fun
  | [d1, d2, d3] => { results := [.lit (.bool true)], args := [d1, d2, d3] }
  | _ => none }
def helloLessRow : OpenClaim := { program := "ytgjmcjpgajlgoaa", sum := "698c5aa56d3b6e357992cfba8b3515b1b6c258645e54ed95dce3737c6a9eccf7", func := "remora/remoralaw32.HelloLess", spec := "helloLess", apart := false }
def HelloLessSaid : Prop := helloLessRow.holds Try.pinned (OpenSpec.ofChange helloLessSpec)

/-- ITS FALSE NEIGHBOUR: 'it returns false'. Refute it at one input. -/
def helloLessWrong : ChangeSpec := { name := "helloLess", fn := fun _ => fun
  | [d1, d2, d3] => { results := [.lit (.bool false)], args := [d1, d2, d3] }
  | _ => none }
def HelloLessWrongFalsely : Prop := helloLessRow.holds Try.pinned (OpenSpec.ofChange helloLessWrong)

/- THE SECOND FORM. 'bulk': how many values and letters a reading holds, each counted each time it is reached (what is shared counts as often as it is met; a slice's spare places count too). A statement '..UptoSaid' is the law's where the arguments, and the package variables that the reading takes, are together of bulk at most 1048576: NARROWER than '..Said'. Prove '..Said' where nothing that the law and all that it calls make is longer than what came in: it says more and counts as full. Else prove '..UptoSaid'. A law counts once. -/
mutual
def uptoBulk {H : Type} : DataW H → Nat
  | .lit (.string bytes) => bytes.length + 1
  | .lit _ => 1
  | .nil => 1
  | .ptr d => uptoBulk d + 1
  | .slice elems spare => uptoBulkAll elems + uptoBulkAll spare + 1
  | .agg parts => uptoBulkAll parts + 1
  | .iface _ d => uptoBulk d + 1
  | .map entries => uptoBulkEntries entries + 1
  | .held _ => 1
def uptoBulkAll {H : Type} : List (DataW H) → Nat
  | [] => 0
  | d :: r => uptoBulk d + uptoBulkAll r
def uptoBulkEntries {H : Type} : List (Lit × DataW H) → Nat
  | [] => 0
  | x :: r => uptoBulkEntry x + uptoBulkEntries r
def uptoBulkEntry {H : Type} : Lit × DataW H → Nat
  | (.string bytes, d) => bytes.length + uptoBulk d + 1
  | (_, d) => uptoBulk d + 1
 end
def uptoSmall : (H : Type) → List (DataW H) → Bool := fun _ ds => decide (uptoBulkAll ds ≤ 1048576)
def OpenSpec.upto (s : _root_.Go.ChangeSpec) : _root_.Go.OpenSpec := { _root_.Go.OpenSpec.ofChange s with cond := some uptoSmall }

/-- 'remoralaw32.HelloAgrees', WHERE WHAT IT READS IS OF BULK AT MOST 1048576: true; the input reads as it did. -/
def helloAgreesUptoRow : OpenClaim := { program := "ytgjmcjpgajlgoaa", sum := "698c5aa56d3b6e357992cfba8b3515b1b6c258645e54ed95dce3737c6a9eccf7", func := "remora/remoralaw32.HelloAgrees", spec := "helloAgrees", apart := false, narrowed := true }
def HelloAgreesUptoSaid : Prop := helloAgreesUptoRow.holds Try.pinned (OpenSpec.upto helloAgreesSpec)

/-- 'remoralaw32.HelloMeets', WHERE WHAT IT READS IS OF BULK AT MOST 1048576: true; the input reads as it did. -/
def helloMeetsUptoRow : OpenClaim := { program := "ytgjmcjpgajlgoaa", sum := "698c5aa56d3b6e357992cfba8b3515b1b6c258645e54ed95dce3737c6a9eccf7", func := "remora/remoralaw32.HelloMeets", spec := "helloMeets", apart := false, narrowed := true }
def HelloMeetsUptoSaid : Prop := helloMeetsUptoRow.holds Try.pinned (OpenSpec.upto helloMeetsSpec)

/-- 'remoralaw32.HelloBoth', WHERE WHAT IT READS IS OF BULK AT MOST 1048576: true; the input reads as it did. -/
def helloBothUptoRow : OpenClaim := { program := "ytgjmcjpgajlgoaa", sum := "698c5aa56d3b6e357992cfba8b3515b1b6c258645e54ed95dce3737c6a9eccf7", func := "remora/remoralaw32.HelloBoth", spec := "helloBoth", apart := false, narrowed := true }
def HelloBothUptoSaid : Prop := helloBothUptoRow.holds Try.pinned (OpenSpec.upto helloBothSpec)

/-- 'remoralaw32.HelloAlone', WHERE WHAT IT READS IS OF BULK AT MOST 1048576: true; the input reads as it did. -/
def helloAloneUptoRow : OpenClaim := { program := "ytgjmcjpgajlgoaa", sum := "698c5aa56d3b6e357992cfba8b3515b1b6c258645e54ed95dce3737c6a9eccf7", func := "remora/remoralaw32.HelloAlone", spec := "helloAlone", apart := false, narrowed := true }
def HelloAloneUptoSaid : Prop := helloAloneUptoRow.holds Try.pinned (OpenSpec.upto helloAloneSpec)

/-- 'remoralaw32.HelloLess', WHERE WHAT IT READS IS OF BULK AT MOST 1048576: true; the input reads as it did. -/
def helloLessUptoRow : OpenClaim := { program := "ytgjmcjpgajlgoaa", sum := "698c5aa56d3b6e357992cfba8b3515b1b6c258645e54ed95dce3737c6a9eccf7", func := "remora/remoralaw32.HelloLess", spec := "helloLess", apart := false, narrowed := true }
def HelloLessUptoSaid : Prop := helloLessUptoRow.holds Try.pinned (OpenSpec.upto helloLessSpec)

end Rows
end Go.Proofs.Ytgjmcjpgajlgoaa
