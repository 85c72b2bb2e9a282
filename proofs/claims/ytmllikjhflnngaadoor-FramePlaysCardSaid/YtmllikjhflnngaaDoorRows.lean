/-
  NARROWER THAN 'FOR EVERY INPUT', by the rows' own cells (each row's printed sentence says how): FramePuts: laid · FrameGets: laid · FrameBack: laid · FrameNone: laid · FramePlays: laid · FramePieces: laid · FrameWaits: laid.
  DERIVED. THE GIVEN ROWS OF THIS SEAT. 7 by the template 'for every input the law returns true; each argument reads behind the call as it read before'; 0 by the template 'total and deterministic' (their statements: YtmllikjhflnngaaDoorTotals.lean).
  GIVEN WITH THE SEED: the statements are not yours to turn. If you find one false, say at which input.
  Laid BY PROGRAM, IN A SANDBOX (cutbox-rows.mjs): the forced cells as the released guide's own fill.sh prints them over the translation a57d83d17736bc38… (all of the seat's roots in one cut). By AI agents, Wed Nov 11 2026. No macro, syntax, notation, axiom, sorry.
-/
import Derived.Test.YtmllikjhflnngaaDoorChecked
import GoSem.Claim
import GoSem.ClaimJoined
import GoSem.ClaimMapViews
import Derived.JoinedTies
import Derived.KernelRfl
namespace Go.Proofs.YtmllikjhflnngaaDoor
/- THE CELL 'sum', in the pinned program and in every row, IS THE sha256 OF THE DUMP (.gsa) THAT YtmllikjhflnngaaDoorProg.lean LOADS. Nothing in Lean hashes anything: it is a label: what it is worth is what the hold of that sum in a sandbox is worth. -/
noncomputable def Tryd.pinned : Pinned := { name := "ytmllikjhflnngaadoor", sum := "a57d83d17736bc38c22006a2f87ab39c2599ea3ef3ec08458fb927a55083aee1", checked := Tryd.checked }
namespace Rows
def none {H : Type} : Left H := { results := [], args := [] }

/- WHAT THE LISTED PACKAGE-LEVEL VARIABLES READ AS WHEN THE CALL BEGINS. Each datum BY PROGRAM (the guide's laid-datum.mjs) off the statement by which the dump's own 'gosem.cut.vars' lays the variable. In a bare row this is a premise. The card (YtmllikjhflnngaaDoorCards.lean) ties it to the program's text. -/
def laid_remora_crc_table {H : Type} : DataW H := .agg [.lit (.int .u32 0), .lit (.int .u32 498536548), .lit (.int .u32 997073096), .lit (.int .u32 651767980), .lit (.int .u32 1994146192), .lit (.int .u32 1802195444), .lit (.int .u32 1303535960), .lit (.int .u32 1342533948), .lit (.int .u32 3988292384), .lit (.int .u32 4027552580), .lit (.int .u32 3604390888), .lit (.int .u32 3412177804), .lit (.int .u32 2607071920), .lit (.int .u32 2262029012), .lit (.int .u32 2685067896), .lit (.int .u32 3183342108)]

/-- 'remoralaw29.FramePuts': WHATEVER THE INPUT: true; the input reads as it did. -/
def framePutsSpec : ChangeSpec := { name := "framePuts", fn := fun _ => fun
  | [d1, d2] => { results := [.lit (.bool true)], args := [d1, d2] }
  | _ => none }
def framePutsRow : OpenClaim := { program := "ytmllikjhflnngaadoor", sum := "a57d83d17736bc38c22006a2f87ab39c2599ea3ef3ec08458fb927a55083aee1", func := "remora/remoralaw29.FramePuts", spec := "framePuts", unfollowed := true, recurses := true, named := ["remora/crc.table"], apart := false, laid := [("remora/crc.table", laid_remora_crc_table)] }
def FramePutsSaid : Prop := framePutsRow.holds Tryd.pinned (OpenSpec.ofChange framePutsSpec)

/-- ITS FALSE NEIGHBOUR: 'it returns false'. Refute it at one input. -/
def framePutsWrong : ChangeSpec := { name := "framePuts", fn := fun _ => fun
  | [d1, d2] => { results := [.lit (.bool false)], args := [d1, d2] }
  | _ => none }
def FramePutsWrongFalsely : Prop := framePutsRow.holds Tryd.pinned (OpenSpec.ofChange framePutsWrong)

/-- 'remoralaw29.FrameGets': WHATEVER THE INPUT: true; the input reads as it did. -/
def frameGetsSpec : ChangeSpec := { name := "frameGets", fn := fun _ => fun
  | [d1, d2] => { results := [.lit (.bool true)], args := [d1, d2] }
  | _ => none }
def frameGetsRow : OpenClaim := { program := "ytmllikjhflnngaadoor", sum := "a57d83d17736bc38c22006a2f87ab39c2599ea3ef3ec08458fb927a55083aee1", func := "remora/remoralaw29.FrameGets", spec := "frameGets", unfollowed := true, recurses := true, named := ["remora/crc.table"], apart := false, laid := [("remora/crc.table", laid_remora_crc_table)] }
def FrameGetsSaid : Prop := frameGetsRow.holds Tryd.pinned (OpenSpec.ofChange frameGetsSpec)

/-- ITS FALSE NEIGHBOUR: 'it returns false'. Refute it at one input. -/
def frameGetsWrong : ChangeSpec := { name := "frameGets", fn := fun _ => fun
  | [d1, d2] => { results := [.lit (.bool false)], args := [d1, d2] }
  | _ => none }
def FrameGetsWrongFalsely : Prop := frameGetsRow.holds Tryd.pinned (OpenSpec.ofChange frameGetsWrong)

/-- 'remoralaw29.FrameBack': WHATEVER THE INPUT: true; the input reads as it did. -/
def frameBackSpec : ChangeSpec := { name := "frameBack", fn := fun _ => fun
  | [d1, d2, d3] => { results := [.lit (.bool true)], args := [d1, d2, d3] }
  | _ => none }
def frameBackRow : OpenClaim := { program := "ytmllikjhflnngaadoor", sum := "a57d83d17736bc38c22006a2f87ab39c2599ea3ef3ec08458fb927a55083aee1", func := "remora/remoralaw29.FrameBack", spec := "frameBack", unfollowed := true, recurses := true, named := ["remora/crc.table"], apart := false, laid := [("remora/crc.table", laid_remora_crc_table)] }
def FrameBackSaid : Prop := frameBackRow.holds Tryd.pinned (OpenSpec.ofChange frameBackSpec)

/-- ITS FALSE NEIGHBOUR: 'it returns false'. Refute it at one input. -/
def frameBackWrong : ChangeSpec := { name := "frameBack", fn := fun _ => fun
  | [d1, d2, d3] => { results := [.lit (.bool false)], args := [d1, d2, d3] }
  | _ => none }
def FrameBackWrongFalsely : Prop := frameBackRow.holds Tryd.pinned (OpenSpec.ofChange frameBackWrong)

/-- 'remoralaw29.FrameNone': WHATEVER THE INPUT: true; the input reads as it did. -/
def frameNoneSpec : ChangeSpec := { name := "frameNone", fn := fun _ => fun
  | [d] => { results := [.lit (.bool true)], args := [d] }
  | _ => none }
def frameNoneRow : OpenClaim := { program := "ytmllikjhflnngaadoor", sum := "a57d83d17736bc38c22006a2f87ab39c2599ea3ef3ec08458fb927a55083aee1", func := "remora/remoralaw29.FrameNone", spec := "frameNone", unfollowed := true, recurses := true, named := ["remora/crc.table"], apart := false, laid := [("remora/crc.table", laid_remora_crc_table)] }
def FrameNoneSaid : Prop := frameNoneRow.holds Tryd.pinned (OpenSpec.ofChange frameNoneSpec)

/-- ITS FALSE NEIGHBOUR: 'it returns false'. Refute it at one input. -/
def frameNoneWrong : ChangeSpec := { name := "frameNone", fn := fun _ => fun
  | [d] => { results := [.lit (.bool false)], args := [d] }
  | _ => none }
def FrameNoneWrongFalsely : Prop := frameNoneRow.holds Tryd.pinned (OpenSpec.ofChange frameNoneWrong)

/-- 'remoralaw29.FramePlays': WHATEVER THE INPUT: true; the input reads as it did. -/
def framePlaysSpec : ChangeSpec := { name := "framePlays", fn := fun _ => fun
  | [d] => { results := [.lit (.bool true)], args := [d] }
  | _ => none }
def framePlaysRow : OpenClaim := { program := "ytmllikjhflnngaadoor", sum := "a57d83d17736bc38c22006a2f87ab39c2599ea3ef3ec08458fb927a55083aee1", func := "remora/remoralaw29.FramePlays", spec := "framePlays", unfollowed := true, recurses := true, named := ["remora/crc.table"], apart := false, laid := [("remora/crc.table", laid_remora_crc_table)] }
def FramePlaysSaid : Prop := framePlaysRow.holds Tryd.pinned (OpenSpec.ofChange framePlaysSpec)

/-- ITS FALSE NEIGHBOUR: 'it returns false'. Refute it at one input. -/
def framePlaysWrong : ChangeSpec := { name := "framePlays", fn := fun _ => fun
  | [d] => { results := [.lit (.bool false)], args := [d] }
  | _ => none }
def FramePlaysWrongFalsely : Prop := framePlaysRow.holds Tryd.pinned (OpenSpec.ofChange framePlaysWrong)

/-- 'remoralaw29.FramePieces': WHATEVER THE INPUT: true; the input reads as it did. -/
def framePiecesSpec : ChangeSpec := { name := "framePieces", fn := fun _ => fun
  | [d1, d2] => { results := [.lit (.bool true)], args := [d1, d2] }
  | _ => none }
def framePiecesRow : OpenClaim := { program := "ytmllikjhflnngaadoor", sum := "a57d83d17736bc38c22006a2f87ab39c2599ea3ef3ec08458fb927a55083aee1", func := "remora/remoralaw29.FramePieces", spec := "framePieces", unfollowed := true, recurses := true, named := ["remora/crc.table"], apart := false, laid := [("remora/crc.table", laid_remora_crc_table)] }
def FramePiecesSaid : Prop := framePiecesRow.holds Tryd.pinned (OpenSpec.ofChange framePiecesSpec)

/-- ITS FALSE NEIGHBOUR: 'it returns false'. Refute it at one input. -/
def framePiecesWrong : ChangeSpec := { name := "framePieces", fn := fun _ => fun
  | [d1, d2] => { results := [.lit (.bool false)], args := [d1, d2] }
  | _ => none }
def FramePiecesWrongFalsely : Prop := framePiecesRow.holds Tryd.pinned (OpenSpec.ofChange framePiecesWrong)

/-- 'remoralaw29.FrameWaits': WHATEVER THE INPUT: true; the input reads as it did. -/
def frameWaitsSpec : ChangeSpec := { name := "frameWaits", fn := fun _ => fun
  | [d1, d2, d3] => { results := [.lit (.bool true)], args := [d1, d2, d3] }
  | _ => none }
def frameWaitsRow : OpenClaim := { program := "ytmllikjhflnngaadoor", sum := "a57d83d17736bc38c22006a2f87ab39c2599ea3ef3ec08458fb927a55083aee1", func := "remora/remoralaw29.FrameWaits", spec := "frameWaits", unfollowed := true, recurses := true, named := ["remora/crc.table"], apart := false, laid := [("remora/crc.table", laid_remora_crc_table)] }
def FrameWaitsSaid : Prop := frameWaitsRow.holds Tryd.pinned (OpenSpec.ofChange frameWaitsSpec)

/-- ITS FALSE NEIGHBOUR: 'it returns false'. Refute it at one input. -/
def frameWaitsWrong : ChangeSpec := { name := "frameWaits", fn := fun _ => fun
  | [d1, d2, d3] => { results := [.lit (.bool false)], args := [d1, d2, d3] }
  | _ => none }
def FrameWaitsWrongFalsely : Prop := frameWaitsRow.holds Tryd.pinned (OpenSpec.ofChange frameWaitsWrong)

/- THE SECOND FORM. 'bulk': how many values and letters a reading holds, each counted each time it is reached (what is shared counts as often as it is met; a slice's spare places count too). A statement '..UptoSaid' is the law's where the arguments, and the package variables that the reading takes, are together of bulk at most 1048576: NARROWER than '..Said'. Prove '..Said' where nothing that the law and all that it calls make is longer than what came in: it says more and counts as full. Else prove '..UptoSaid'. A law counts once. -/
mutual
def uptoBulk {H : Type} : DataW H → Nat
  | .lit (.string bytes) => bytes.length + 1
  | .lit _ => 1
  | .nil => 1
  | .ptr d => uptoBulk d + 1
  | .slice elems spare => uptoBulkAll elems + uptoBulkAll spare + 1
  | .agg parts => uptoBulkAll parts + 1
  | .iface _ d => uptoBulk d + 1
  | .map entries => uptoBulkEntries entries + 1
  | .held _ => 1
def uptoBulkAll {H : Type} : List (DataW H) → Nat
  | [] => 0
  | d :: r => uptoBulk d + uptoBulkAll r
def uptoBulkEntries {H : Type} : List (Lit × DataW H) → Nat
  | [] => 0
  | x :: r => uptoBulkEntry x + uptoBulkEntries r
def uptoBulkEntry {H : Type} : Lit × DataW H → Nat
  | (.string bytes, d) => bytes.length + uptoBulk d + 1
  | (_, d) => uptoBulk d + 1
 end
def uptoSmall : (H : Type) → List (DataW H) → Bool := fun _ ds => decide (uptoBulkAll ds ≤ 1048576)
def OpenSpec.upto (s : _root_.Go.ChangeSpec) : _root_.Go.OpenSpec := { _root_.Go.OpenSpec.ofChange s with cond := some uptoSmall }

/-- 'remoralaw29.FramePuts', WHERE WHAT IT READS IS OF BULK AT MOST 1048576: true; the input reads as it did. -/
def framePutsUptoRow : OpenClaim := { program := "ytmllikjhflnngaadoor", sum := "a57d83d17736bc38c22006a2f87ab39c2599ea3ef3ec08458fb927a55083aee1", func := "remora/remoralaw29.FramePuts", spec := "framePuts", unfollowed := true, recurses := true, named := ["remora/crc.table"], apart := false, laid := [("remora/crc.table", laid_remora_crc_table)], narrowed := true }
def FramePutsUptoSaid : Prop := framePutsUptoRow.holds Tryd.pinned (OpenSpec.upto framePutsSpec)

/-- 'remoralaw29.FrameGets', WHERE WHAT IT READS IS OF BULK AT MOST 1048576: true; the input reads as it did. -/
def frameGetsUptoRow : OpenClaim := { program := "ytmllikjhflnngaadoor", sum := "a57d83d17736bc38c22006a2f87ab39c2599ea3ef3ec08458fb927a55083aee1", func := "remora/remoralaw29.FrameGets", spec := "frameGets", unfollowed := true, recurses := true, named := ["remora/crc.table"], apart := false, laid := [("remora/crc.table", laid_remora_crc_table)], narrowed := true }
def FrameGetsUptoSaid : Prop := frameGetsUptoRow.holds Tryd.pinned (OpenSpec.upto frameGetsSpec)

/-- 'remoralaw29.FrameBack', WHERE WHAT IT READS IS OF BULK AT MOST 1048576: true; the input reads as it did. -/
def frameBackUptoRow : OpenClaim := { program := "ytmllikjhflnngaadoor", sum := "a57d83d17736bc38c22006a2f87ab39c2599ea3ef3ec08458fb927a55083aee1", func := "remora/remoralaw29.FrameBack", spec := "frameBack", unfollowed := true, recurses := true, named := ["remora/crc.table"], apart := false, laid := [("remora/crc.table", laid_remora_crc_table)], narrowed := true }
def FrameBackUptoSaid : Prop := frameBackUptoRow.holds Tryd.pinned (OpenSpec.upto frameBackSpec)

/-- 'remoralaw29.FrameNone', WHERE WHAT IT READS IS OF BULK AT MOST 1048576: true; the input reads as it did. -/
def frameNoneUptoRow : OpenClaim := { program := "ytmllikjhflnngaadoor", sum := "a57d83d17736bc38c22006a2f87ab39c2599ea3ef3ec08458fb927a55083aee1", func := "remora/remoralaw29.FrameNone", spec := "frameNone", unfollowed := true, recurses := true, named := ["remora/crc.table"], apart := false, laid := [("remora/crc.table", laid_remora_crc_table)], narrowed := true }
def FrameNoneUptoSaid : Prop := frameNoneUptoRow.holds Tryd.pinned (OpenSpec.upto frameNoneSpec)

/-- 'remoralaw29.FramePlays', WHERE WHAT IT READS IS OF BULK AT MOST 1048576: true; the input reads as it did. -/
def framePlaysUptoRow : OpenClaim := { program := "ytmllikjhflnngaadoor", sum := "a57d83d17736bc38c22006a2f87ab39c2599ea3ef3ec08458fb927a55083aee1", func := "remora/remoralaw29.FramePlays", spec := "framePlays", unfollowed := true, recurses := true, named := ["remora/crc.table"], apart := false, laid := [("remora/crc.table", laid_remora_crc_table)], narrowed := true }
def FramePlaysUptoSaid : Prop := framePlaysUptoRow.holds Tryd.pinned (OpenSpec.upto framePlaysSpec)

/-- 'remoralaw29.FramePieces', WHERE WHAT IT READS IS OF BULK AT MOST 1048576: true; the input reads as it did. -/
def framePiecesUptoRow : OpenClaim := { program := "ytmllikjhflnngaadoor", sum := "a57d83d17736bc38c22006a2f87ab39c2599ea3ef3ec08458fb927a55083aee1", func := "remora/remoralaw29.FramePieces", spec := "framePieces", unfollowed := true, recurses := true, named := ["remora/crc.table"], apart := false, laid := [("remora/crc.table", laid_remora_crc_table)], narrowed := true }
def FramePiecesUptoSaid : Prop := framePiecesUptoRow.holds Tryd.pinned (OpenSpec.upto framePiecesSpec)

/-- 'remoralaw29.FrameWaits', WHERE WHAT IT READS IS OF BULK AT MOST 1048576: true; the input reads as it did. -/
def frameWaitsUptoRow : OpenClaim := { program := "ytmllikjhflnngaadoor", sum := "a57d83d17736bc38c22006a2f87ab39c2599ea3ef3ec08458fb927a55083aee1", func := "remora/remoralaw29.FrameWaits", spec := "frameWaits", unfollowed := true, recurses := true, named := ["remora/crc.table"], apart := false, laid := [("remora/crc.table", laid_remora_crc_table)], narrowed := true }
def FrameWaitsUptoSaid : Prop := frameWaitsUptoRow.holds Tryd.pinned (OpenSpec.upto frameWaitsSpec)

end Rows
end Go.Proofs.YtmllikjhflnngaaDoor
