/-
  NARROWER THAN 'FOR EVERY INPUT', by the rows' own cells (each row's printed sentence says how): MuxOrder: laid · MuxNone: laid · MuxPlays: laid · MuxSent: laid · MuxWrong: laid · MuxNobody: laid.
  DERIVED. THE GIVEN ROWS OF THIS SEAT. 6 by the template 'for every input the law returns true; each argument reads behind the call as it read before'; 0 by the template 'total and deterministic' (their statements: YthehhbfiaaadgaaDoorTotals.lean).
  GIVEN WITH THE SEED: the statements are not yours to turn. If you find one false, say at which input.
  Laid BY PROGRAM, IN A SANDBOX (cutbox-rows.mjs): the forced cells as the released guide's own fill.sh prints them over the translation 5c35f273dc773d21… (all of the seat's roots in one cut). By AI agents, Wed Nov 11 2026. No macro, syntax, notation, axiom, sorry.
-/
import Derived.Test.YthehhbfiaaadgaaDoorChecked
import GoSem.Claim
import GoSem.ClaimJoined
import GoSem.ClaimMapViews
import Derived.JoinedTies
import Derived.KernelRfl
namespace Go.Proofs.YthehhbfiaaadgaaDoor
/- THE CELL 'sum', in the pinned program and in every row, IS THE sha256 OF THE DUMP (.gsa) THAT YthehhbfiaaadgaaDoorProg.lean LOADS. Nothing in Lean hashes anything: it is a label: what it is worth is what the hold of that sum in a sandbox is worth. -/
noncomputable def Tryd.pinned : Pinned := { name := "ythehhbfiaaadgaadoor", sum := "5c35f273dc773d210184acf201d80fa5e18defc5120d9058737437e6be8357f5", checked := Tryd.checked }
namespace Rows
def none {H : Type} : Left H := { results := [], args := [] }

/- WHAT THE LISTED PACKAGE-LEVEL VARIABLES READ AS WHEN THE CALL BEGINS. Each datum BY PROGRAM (the guide's laid-datum.mjs) off the statement by which the dump's own 'gosem.cut.vars' lays the variable. In a bare row this is a premise. The card (YthehhbfiaaadgaaDoorCards.lean) ties it to the program's text. -/
def laid_remora_crc_table {H : Type} : DataW H := .agg [.lit (.int .u32 0), .lit (.int .u32 498536548), .lit (.int .u32 997073096), .lit (.int .u32 651767980), .lit (.int .u32 1994146192), .lit (.int .u32 1802195444), .lit (.int .u32 1303535960), .lit (.int .u32 1342533948), .lit (.int .u32 3988292384), .lit (.int .u32 4027552580), .lit (.int .u32 3604390888), .lit (.int .u32 3412177804), .lit (.int .u32 2607071920), .lit (.int .u32 2262029012), .lit (.int .u32 2685067896), .lit (.int .u32 3183342108)]

/-- 'remoralaw31.MuxOrder': WHATEVER THE INPUT: true; the input reads as it did. -/
def muxOrderSpec : ChangeSpec := { name := "muxOrder", fn := fun _ => fun
  | [d1, d2, d3] => { results := [.lit (.bool true)], args := [d1, d2, d3] }
  | _ => none }
def muxOrderRow : OpenClaim := { program := "ythehhbfiaaadgaadoor", sum := "5c35f273dc773d210184acf201d80fa5e18defc5120d9058737437e6be8357f5", func := "remora/remoralaw31.MuxOrder", spec := "muxOrder", unfollowed := true, recurses := true, named := ["remora/crc.table"], apart := false, laid := [("remora/crc.table", laid_remora_crc_table)] }
def MuxOrderSaid : Prop := muxOrderRow.holds Tryd.pinned (OpenSpec.ofChange muxOrderSpec)

/-- ITS FALSE NEIGHBOUR: 'it returns false'. Refute it at one input. -/
def muxOrderWrong : ChangeSpec := { name := "muxOrder", fn := fun _ => fun
  | [d1, d2, d3] => { results := [.lit (.bool false)], args := [d1, d2, d3] }
  | _ => none }
def MuxOrderWrongFalsely : Prop := muxOrderRow.holds Tryd.pinned (OpenSpec.ofChange muxOrderWrong)

/-- 'remoralaw31.MuxNone': WHATEVER THE INPUT: true; the input reads as it did. -/
def muxNoneSpec : ChangeSpec := { name := "muxNone", fn := fun _ => fun
  | [d1, d2, d3] => { results := [.lit (.bool true)], args := [d1, d2, d3] }
  | _ => none }
def muxNoneRow : OpenClaim := { program := "ythehhbfiaaadgaadoor", sum := "5c35f273dc773d210184acf201d80fa5e18defc5120d9058737437e6be8357f5", func := "remora/remoralaw31.MuxNone", spec := "muxNone", unfollowed := true, recurses := true, named := ["remora/crc.table"], apart := false, laid := [("remora/crc.table", laid_remora_crc_table)] }
def MuxNoneSaid : Prop := muxNoneRow.holds Tryd.pinned (OpenSpec.ofChange muxNoneSpec)

/-- ITS FALSE NEIGHBOUR: 'it returns false'. Refute it at one input. -/
def muxNoneWrong : ChangeSpec := { name := "muxNone", fn := fun _ => fun
  | [d1, d2, d3] => { results := [.lit (.bool false)], args := [d1, d2, d3] }
  | _ => none }
def MuxNoneWrongFalsely : Prop := muxNoneRow.holds Tryd.pinned (OpenSpec.ofChange muxNoneWrong)

/-- 'remoralaw31.MuxPlays': WHATEVER THE INPUT: true; the input reads as it did. -/
def muxPlaysSpec : ChangeSpec := { name := "muxPlays", fn := fun _ => fun
  | [d1, d2] => { results := [.lit (.bool true)], args := [d1, d2] }
  | _ => none }
def muxPlaysRow : OpenClaim := { program := "ythehhbfiaaadgaadoor", sum := "5c35f273dc773d210184acf201d80fa5e18defc5120d9058737437e6be8357f5", func := "remora/remoralaw31.MuxPlays", spec := "muxPlays", unfollowed := true, recurses := true, named := ["remora/crc.table"], apart := false, laid := [("remora/crc.table", laid_remora_crc_table)] }
def MuxPlaysSaid : Prop := muxPlaysRow.holds Tryd.pinned (OpenSpec.ofChange muxPlaysSpec)

/-- ITS FALSE NEIGHBOUR: 'it returns false'. Refute it at one input. -/
def muxPlaysWrong : ChangeSpec := { name := "muxPlays", fn := fun _ => fun
  | [d1, d2] => { results := [.lit (.bool false)], args := [d1, d2] }
  | _ => none }
def MuxPlaysWrongFalsely : Prop := muxPlaysRow.holds Tryd.pinned (OpenSpec.ofChange muxPlaysWrong)

/-- 'remoralaw31.MuxSent': WHATEVER THE INPUT: true; the input reads as it did. -/
def muxSentSpec : ChangeSpec := { name := "muxSent", fn := fun _ => fun
  | [d1, d2] => { results := [.lit (.bool true)], args := [d1, d2] }
  | _ => none }
def muxSentRow : OpenClaim := { program := "ythehhbfiaaadgaadoor", sum := "5c35f273dc773d210184acf201d80fa5e18defc5120d9058737437e6be8357f5", func := "remora/remoralaw31.MuxSent", spec := "muxSent", unfollowed := true, recurses := true, named := ["remora/crc.table"], apart := false, laid := [("remora/crc.table", laid_remora_crc_table)] }
def MuxSentSaid : Prop := muxSentRow.holds Tryd.pinned (OpenSpec.ofChange muxSentSpec)

/-- ITS FALSE NEIGHBOUR: 'it returns false'. Refute it at one input. -/
def muxSentWrong : ChangeSpec := { name := "muxSent", fn := fun _ => fun
  | [d1, d2] => { results := [.lit (.bool false)], args := [d1, d2] }
  | _ => none }
def MuxSentWrongFalsely : Prop := muxSentRow.holds Tryd.pinned (OpenSpec.ofChange muxSentWrong)

/-- 'remoralaw31.MuxWrong': WHATEVER THE INPUT: true; the input reads as it did. -/
def muxWrongSpec : ChangeSpec := { name := "muxWrong", fn := fun _ => fun
  | [d1, d2, d3, d4] => { results := [.lit (.bool true)], args := [d1, d2, d3, d4] }
  | _ => none }
def muxWrongRow : OpenClaim := { program := "ythehhbfiaaadgaadoor", sum := "5c35f273dc773d210184acf201d80fa5e18defc5120d9058737437e6be8357f5", func := "remora/remoralaw31.MuxWrong", spec := "muxWrong", unfollowed := true, recurses := true, named := ["remora/crc.table"], apart := false, laid := [("remora/crc.table", laid_remora_crc_table)] }
def MuxWrongSaid : Prop := muxWrongRow.holds Tryd.pinned (OpenSpec.ofChange muxWrongSpec)

/-- ITS FALSE NEIGHBOUR: 'it returns false'. Refute it at one input. -/
def muxWrongWrong : ChangeSpec := { name := "muxWrong", fn := fun _ => fun
  | [d1, d2, d3, d4] => { results := [.lit (.bool false)], args := [d1, d2, d3, d4] }
  | _ => none }
def MuxWrongWrongFalsely : Prop := muxWrongRow.holds Tryd.pinned (OpenSpec.ofChange muxWrongWrong)

/-- 'remoralaw31.MuxNobody': WHATEVER THE INPUT: true; the input reads as it did. -/
def muxNobodySpec : ChangeSpec := { name := "muxNobody", fn := fun _ => fun
  | [d1, d2] => { results := [.lit (.bool true)], args := [d1, d2] }
  | _ => none }
def muxNobodyRow : OpenClaim := { program := "ythehhbfiaaadgaadoor", sum := "5c35f273dc773d210184acf201d80fa5e18defc5120d9058737437e6be8357f5", func := "remora/remoralaw31.MuxNobody", spec := "muxNobody", unfollowed := true, recurses := true, named := ["remora/crc.table"], apart := false, laid := [("remora/crc.table", laid_remora_crc_table)] }
def MuxNobodySaid : Prop := muxNobodyRow.holds Tryd.pinned (OpenSpec.ofChange muxNobodySpec)

/-- ITS FALSE NEIGHBOUR: 'it returns false'. Refute it at one input. -/
def muxNobodyWrong : ChangeSpec := { name := "muxNobody", fn := fun _ => fun
  | [d1, d2] => { results := [.lit (.bool false)], args := [d1, d2] }
  | _ => none }
def MuxNobodyWrongFalsely : Prop := muxNobodyRow.holds Tryd.pinned (OpenSpec.ofChange muxNobodyWrong)

/- THE SECOND FORM. 'bulk': how many values and letters a reading holds, each counted each time it is reached (what is shared counts as often as it is met; a slice's spare places count too). A statement '..UptoSaid' is the law's where the arguments, and the package variables that the reading takes, are together of bulk at most 1048576: NARROWER than '..Said'. Prove '..Said' where nothing that the law and all that it calls make is longer than what came in: it says more and counts as full. Else prove '..UptoSaid'. A law counts once. -/
mutual
def uptoBulk {H : Type} : DataW H → Nat
  | .lit (.string bytes) => bytes.length + 1
  | .lit _ => 1
  | .nil => 1
  | .ptr d => uptoBulk d + 1
  | .slice elems spare => uptoBulkAll elems + uptoBulkAll spare + 1
  | .agg parts => uptoBulkAll parts + 1
  | .iface _ d => uptoBulk d + 1
  | .map entries => uptoBulkEntries entries + 1
  | .held _ => 1
def uptoBulkAll {H : Type} : List (DataW H) → Nat
  | [] => 0
  | d :: r => uptoBulk d + uptoBulkAll r
def uptoBulkEntries {H : Type} : List (Lit × DataW H) → Nat
  | [] => 0
  | x :: r => uptoBulkEntry x + uptoBulkEntries r
def uptoBulkEntry {H : Type} : Lit × DataW H → Nat
  | (.string bytes, d) => bytes.length + uptoBulk d + 1
  | (_, d) => uptoBulk d + 1
 end
def uptoSmall : (H : Type) → List (DataW H) → Bool := fun _ ds => decide (uptoBulkAll ds ≤ 1048576)
def OpenSpec.upto (s : _root_.Go.ChangeSpec) : _root_.Go.OpenSpec := { _root_.Go.OpenSpec.ofChange s with cond := some uptoSmall }

/-- 'remoralaw31.MuxOrder', WHERE WHAT IT READS IS OF BULK AT MOST 1048576: true; the input reads as it did. -/
def muxOrderUptoRow : OpenClaim := { program := "ythehhbfiaaadgaadoor", sum := "5c35f273dc773d210184acf201d80fa5e18defc5120d9058737437e6be8357f5", func := "remora/remoralaw31.MuxOrder", spec := "muxOrder", unfollowed := true, recurses := true, named := ["remora/crc.table"], apart := false, laid := [("remora/crc.table", laid_remora_crc_table)], narrowed := true }
def MuxOrderUptoSaid : Prop := muxOrderUptoRow.holds Tryd.pinned (OpenSpec.upto muxOrderSpec)

/-- 'remoralaw31.MuxNone', WHERE WHAT IT READS IS OF BULK AT MOST 1048576: true; the input reads as it did. -/
def muxNoneUptoRow : OpenClaim := { program := "ythehhbfiaaadgaadoor", sum := "5c35f273dc773d210184acf201d80fa5e18defc5120d9058737437e6be8357f5", func := "remora/remoralaw31.MuxNone", spec := "muxNone", unfollowed := true, recurses := true, named := ["remora/crc.table"], apart := false, laid := [("remora/crc.table", laid_remora_crc_table)], narrowed := true }
def MuxNoneUptoSaid : Prop := muxNoneUptoRow.holds Tryd.pinned (OpenSpec.upto muxNoneSpec)

/-- 'remoralaw31.MuxPlays', WHERE WHAT IT READS IS OF BULK AT MOST 1048576: true; the input reads as it did. -/
def muxPlaysUptoRow : OpenClaim := { program := "ythehhbfiaaadgaadoor", sum := "5c35f273dc773d210184acf201d80fa5e18defc5120d9058737437e6be8357f5", func := "remora/remoralaw31.MuxPlays", spec := "muxPlays", unfollowed := true, recurses := true, named := ["remora/crc.table"], apart := false, laid := [("remora/crc.table", laid_remora_crc_table)], narrowed := true }
def MuxPlaysUptoSaid : Prop := muxPlaysUptoRow.holds Tryd.pinned (OpenSpec.upto muxPlaysSpec)

/-- 'remoralaw31.MuxSent', WHERE WHAT IT READS IS OF BULK AT MOST 1048576: true; the input reads as it did. -/
def muxSentUptoRow : OpenClaim := { program := "ythehhbfiaaadgaadoor", sum := "5c35f273dc773d210184acf201d80fa5e18defc5120d9058737437e6be8357f5", func := "remora/remoralaw31.MuxSent", spec := "muxSent", unfollowed := true, recurses := true, named := ["remora/crc.table"], apart := false, laid := [("remora/crc.table", laid_remora_crc_table)], narrowed := true }
def MuxSentUptoSaid : Prop := muxSentUptoRow.holds Tryd.pinned (OpenSpec.upto muxSentSpec)

/-- 'remoralaw31.MuxWrong', WHERE WHAT IT READS IS OF BULK AT MOST 1048576: true; the input reads as it did. -/
def muxWrongUptoRow : OpenClaim := { program := "ythehhbfiaaadgaadoor", sum := "5c35f273dc773d210184acf201d80fa5e18defc5120d9058737437e6be8357f5", func := "remora/remoralaw31.MuxWrong", spec := "muxWrong", unfollowed := true, recurses := true, named := ["remora/crc.table"], apart := false, laid := [("remora/crc.table", laid_remora_crc_table)], narrowed := true }
def MuxWrongUptoSaid : Prop := muxWrongUptoRow.holds Tryd.pinned (OpenSpec.upto muxWrongSpec)

/-- 'remoralaw31.MuxNobody', WHERE WHAT IT READS IS OF BULK AT MOST 1048576: true; the input reads as it did. -/
def muxNobodyUptoRow : OpenClaim := { program := "ythehhbfiaaadgaadoor", sum := "5c35f273dc773d210184acf201d80fa5e18defc5120d9058737437e6be8357f5", func := "remora/remoralaw31.MuxNobody", spec := "muxNobody", unfollowed := true, recurses := true, named := ["remora/crc.table"], apart := false, laid := [("remora/crc.table", laid_remora_crc_table)], narrowed := true }
def MuxNobodyUptoSaid : Prop := muxNobodyUptoRow.holds Tryd.pinned (OpenSpec.upto muxNobodySpec)

end Rows
end Go.Proofs.YthehhbfiaaadgaaDoor
