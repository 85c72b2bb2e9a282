/-
  No cell of these rows narrows 'for every input' (looked for: loops, veiled, ifaces, maps, wideKeys, modest, calm, conditions, laid).
  DERIVED. THE GIVEN ROWS OF THIS SEAT. 6 by the template 'for every input the law returns true; each argument reads behind the call as it read before'; 0 by the template 'total and deterministic' (their statements: YtaneollgpllbiaaTotals.lean).
  GIVEN WITH THE SEED: the statements are not yours to turn. If you find one false, say at which input.
  Laid BY PROGRAM, IN A SANDBOX (cutbox-rows.mjs): the forced cells as the released guide's own fill.sh prints them over the translation af307b5be200c5ae… (all of the seat's roots in one cut). By AI agents, Wed Nov 11 2026. No macro, syntax, notation, axiom, sorry.
-/
import Derived.Test.YtaneollgpllbiaaChecked
import GoSem.Claim
import GoSem.ClaimJoined
import GoSem.ClaimMapViews
import Derived.JoinedTies
import Derived.KernelRfl
namespace Go.Proofs.Ytaneollgpllbiaa
/- THE CELL 'sum', in the pinned program and in every row, IS THE sha256 OF THE DUMP (.gsa) THAT YtaneollgpllbiaaProg.lean LOADS. Nothing in Lean hashes anything: it is a label: what it is worth is what the hold of that sum in a sandbox is worth. -/
noncomputable def Try.pinned : Pinned := { name := "ytaneollgpllbiaa", sum := "af307b5be200c5aeef2e6ceb72b172e6e49a28869ef39ba8ada3b807fa863a91", checked := Try.checked }
namespace Rows
def none {H : Type} : Left H := { results := [], args := [] }

/-- 'remoralaw10.SquashRuns': WHATEVER THE INPUT: true; the input reads as it did. -/
def squashRunsSpec : ChangeSpec := { name := "squashRuns", fn := fun _ => fun
  | [d1, d2] => { results := [.lit (.bool true)], args := [d1, d2] }
  | _ => none }
def squashRunsRow : OpenClaim := { program := "ytaneollgpllbiaa", sum := "af307b5be200c5aeef2e6ceb72b172e6e49a28869ef39ba8ada3b807fa863a91", func := "remora/remoralaw10.SquashRuns", spec := "squashRuns", unfollowed := true, recurses := true, plainKeys := false, apart := false }
def SquashRunsSaid : Prop := squashRunsRow.holds Try.pinned (OpenSpec.ofChange squashRunsSpec)

/-- ITS FALSE NEIGHBOUR: 'it returns false'. Refute it at one input. -/
def squashRunsWrong : ChangeSpec := { name := "squashRuns", fn := fun _ => fun
  | [d1, d2] => { results := [.lit (.bool false)], args := [d1, d2] }
  | _ => none }
def SquashRunsWrongFalsely : Prop := squashRunsRow.holds Try.pinned (OpenSpec.ofChange squashRunsWrong)

/-- 'remoralaw10.SquashPacks': WHATEVER THE INPUT: true; the input reads as it did. -/
def squashPacksSpec : ChangeSpec := { name := "squashPacks", fn := fun _ => fun
  | [d1, d2] => { results := [.lit (.bool true)], args := [d1, d2] }
  | _ => none }
def squashPacksRow : OpenClaim := { program := "ytaneollgpllbiaa", sum := "af307b5be200c5aeef2e6ceb72b172e6e49a28869ef39ba8ada3b807fa863a91", func := "remora/remoralaw10.SquashPacks", spec := "squashPacks", unfollowed := true, recurses := true, plainKeys := false, apart := false }
def SquashPacksSaid : Prop := squashPacksRow.holds Try.pinned (OpenSpec.ofChange squashPacksSpec)

/-- ITS FALSE NEIGHBOUR: 'it returns false'. Refute it at one input. -/
def squashPacksWrong : ChangeSpec := { name := "squashPacks", fn := fun _ => fun
  | [d1, d2] => { results := [.lit (.bool false)], args := [d1, d2] }
  | _ => none }
def SquashPacksWrongFalsely : Prop := squashPacksRow.holds Try.pinned (OpenSpec.ofChange squashPacksWrong)

/-- 'remoralaw10.SquashCut': WHATEVER THE INPUT: true; the input reads as it did. -/
def squashCutSpec : ChangeSpec := { name := "squashCut", fn := fun _ => fun
  | [d1, d2] => { results := [.lit (.bool true)], args := [d1, d2] }
  | _ => none }
def squashCutRow : OpenClaim := { program := "ytaneollgpllbiaa", sum := "af307b5be200c5aeef2e6ceb72b172e6e49a28869ef39ba8ada3b807fa863a91", func := "remora/remoralaw10.SquashCut", spec := "squashCut", unfollowed := true, recurses := true, plainKeys := false, apart := false }
def SquashCutSaid : Prop := squashCutRow.holds Try.pinned (OpenSpec.ofChange squashCutSpec)

/-- ITS FALSE NEIGHBOUR: 'it returns false'. Refute it at one input. -/
def squashCutWrong : ChangeSpec := { name := "squashCut", fn := fun _ => fun
  | [d1, d2] => { results := [.lit (.bool false)], args := [d1, d2] }
  | _ => none }
def SquashCutWrongFalsely : Prop := squashCutRow.holds Try.pinned (OpenSpec.ofChange squashCutWrong)

/-- 'remoralaw10.SquashUnpacks': WHATEVER THE INPUT: true; the input reads as it did. -/
def squashUnpacksSpec : ChangeSpec := { name := "squashUnpacks", fn := fun _ => fun
  | [d1, d2] => { results := [.lit (.bool true)], args := [d1, d2] }
  | _ => none }
def squashUnpacksRow : OpenClaim := { program := "ytaneollgpllbiaa", sum := "af307b5be200c5aeef2e6ceb72b172e6e49a28869ef39ba8ada3b807fa863a91", func := "remora/remoralaw10.SquashUnpacks", spec := "squashUnpacks", unfollowed := true, recurses := true, plainKeys := false, apart := false }
def SquashUnpacksSaid : Prop := squashUnpacksRow.holds Try.pinned (OpenSpec.ofChange squashUnpacksSpec)

/-- ITS FALSE NEIGHBOUR: 'it returns false'. Refute it at one input. -/
def squashUnpacksWrong : ChangeSpec := { name := "squashUnpacks", fn := fun _ => fun
  | [d1, d2] => { results := [.lit (.bool false)], args := [d1, d2] }
  | _ => none }
def SquashUnpacksWrongFalsely : Prop := squashUnpacksRow.holds Try.pinned (OpenSpec.ofChange squashUnpacksWrong)

/-- 'remoralaw10.SquashTwice': WHATEVER THE INPUT: true; the input reads as it did. -/
def squashTwiceSpec : ChangeSpec := { name := "squashTwice", fn := fun _ => fun
  | [d] => { results := [.lit (.bool true)], args := [d] }
  | _ => none }
def squashTwiceRow : OpenClaim := { program := "ytaneollgpllbiaa", sum := "af307b5be200c5aeef2e6ceb72b172e6e49a28869ef39ba8ada3b807fa863a91", func := "remora/remoralaw10.SquashTwice", spec := "squashTwice", unfollowed := true, recurses := true, plainKeys := false, apart := false }
def SquashTwiceSaid : Prop := squashTwiceRow.holds Try.pinned (OpenSpec.ofChange squashTwiceSpec)

/-- ITS FALSE NEIGHBOUR: 'it returns false'. Refute it at one input. -/
def squashTwiceWrong : ChangeSpec := { name := "squashTwice", fn := fun _ => fun
  | [d] => { results := [.lit (.bool false)], args := [d] }
  | _ => none }
def SquashTwiceWrongFalsely : Prop := squashTwiceRow.holds Try.pinned (OpenSpec.ofChange squashTwiceWrong)

/-- 'remoralaw10.SquashBack': WHATEVER THE INPUT: true; the input reads as it did. -/
def squashBackSpec : ChangeSpec := { name := "squashBack", fn := fun _ => fun
  | [d1, d2] => { results := [.lit (.bool true)], args := [d1, d2] }
  | _ => none }
def squashBackRow : OpenClaim := { program := "ytaneollgpllbiaa", sum := "af307b5be200c5aeef2e6ceb72b172e6e49a28869ef39ba8ada3b807fa863a91", func := "remora/remoralaw10.SquashBack", spec := "squashBack", unfollowed := true, recurses := true, plainKeys := false, apart := false }
def SquashBackSaid : Prop := squashBackRow.holds Try.pinned (OpenSpec.ofChange squashBackSpec)

/-- ITS FALSE NEIGHBOUR: 'it returns false'. Refute it at one input. -/
def squashBackWrong : ChangeSpec := { name := "squashBack", fn := fun _ => fun
  | [d1, d2] => { results := [.lit (.bool false)], args := [d1, d2] }
  | _ => none }
def SquashBackWrongFalsely : Prop := squashBackRow.holds Try.pinned (OpenSpec.ofChange squashBackWrong)

/- THE SECOND FORM. 'bulk': how many values and letters a reading holds, each counted each time it is reached (what is shared counts as often as it is met; a slice's spare places count too). A statement '..UptoSaid' is the law's where the arguments, and the package variables that the reading takes, are together of bulk at most 1048576: NARROWER than '..Said'. Prove '..Said' where nothing that the law and all that it calls make is longer than what came in: it says more and counts as full. Else prove '..UptoSaid'. A law counts once. -/
mutual
def uptoBulk {H : Type} : DataW H → Nat
  | .lit (.string bytes) => bytes.length + 1
  | .lit _ => 1
  | .nil => 1
  | .ptr d => uptoBulk d + 1
  | .slice elems spare => uptoBulkAll elems + uptoBulkAll spare + 1
  | .agg parts => uptoBulkAll parts + 1
  | .iface _ d => uptoBulk d + 1
  | .map entries => uptoBulkEntries entries + 1
  | .held _ => 1
def uptoBulkAll {H : Type} : List (DataW H) → Nat
  | [] => 0
  | d :: r => uptoBulk d + uptoBulkAll r
def uptoBulkEntries {H : Type} : List (Lit × DataW H) → Nat
  | [] => 0
  | x :: r => uptoBulkEntry x + uptoBulkEntries r
def uptoBulkEntry {H : Type} : Lit × DataW H → Nat
  | (.string bytes, d) => bytes.length + uptoBulk d + 1
  | (_, d) => uptoBulk d + 1
 end
def uptoSmall : (H : Type) → List (DataW H) → Bool := fun _ ds => decide (uptoBulkAll ds ≤ 1048576)
def OpenSpec.upto (s : _root_.Go.ChangeSpec) : _root_.Go.OpenSpec := { _root_.Go.OpenSpec.ofChange s with cond := some uptoSmall }

/-- 'remoralaw10.SquashRuns', WHERE WHAT IT READS IS OF BULK AT MOST 1048576: true; the input reads as it did. -/
def squashRunsUptoRow : OpenClaim := { program := "ytaneollgpllbiaa", sum := "af307b5be200c5aeef2e6ceb72b172e6e49a28869ef39ba8ada3b807fa863a91", func := "remora/remoralaw10.SquashRuns", spec := "squashRuns", unfollowed := true, recurses := true, plainKeys := false, apart := false, narrowed := true }
def SquashRunsUptoSaid : Prop := squashRunsUptoRow.holds Try.pinned (OpenSpec.upto squashRunsSpec)

/-- 'remoralaw10.SquashPacks', WHERE WHAT IT READS IS OF BULK AT MOST 1048576: true; the input reads as it did. -/
def squashPacksUptoRow : OpenClaim := { program := "ytaneollgpllbiaa", sum := "af307b5be200c5aeef2e6ceb72b172e6e49a28869ef39ba8ada3b807fa863a91", func := "remora/remoralaw10.SquashPacks", spec := "squashPacks", unfollowed := true, recurses := true, plainKeys := false, apart := false, narrowed := true }
def SquashPacksUptoSaid : Prop := squashPacksUptoRow.holds Try.pinned (OpenSpec.upto squashPacksSpec)

/-- 'remoralaw10.SquashCut', WHERE WHAT IT READS IS OF BULK AT MOST 1048576: true; the input reads as it did. -/
def squashCutUptoRow : OpenClaim := { program := "ytaneollgpllbiaa", sum := "af307b5be200c5aeef2e6ceb72b172e6e49a28869ef39ba8ada3b807fa863a91", func := "remora/remoralaw10.SquashCut", spec := "squashCut", unfollowed := true, recurses := true, plainKeys := false, apart := false, narrowed := true }
def SquashCutUptoSaid : Prop := squashCutUptoRow.holds Try.pinned (OpenSpec.upto squashCutSpec)

/-- 'remoralaw10.SquashUnpacks', WHERE WHAT IT READS IS OF BULK AT MOST 1048576: true; the input reads as it did. -/
def squashUnpacksUptoRow : OpenClaim := { program := "ytaneollgpllbiaa", sum := "af307b5be200c5aeef2e6ceb72b172e6e49a28869ef39ba8ada3b807fa863a91", func := "remora/remoralaw10.SquashUnpacks", spec := "squashUnpacks", unfollowed := true, recurses := true, plainKeys := false, apart := false, narrowed := true }
def SquashUnpacksUptoSaid : Prop := squashUnpacksUptoRow.holds Try.pinned (OpenSpec.upto squashUnpacksSpec)

/-- 'remoralaw10.SquashTwice', WHERE WHAT IT READS IS OF BULK AT MOST 1048576: true; the input reads as it did. -/
def squashTwiceUptoRow : OpenClaim := { program := "ytaneollgpllbiaa", sum := "af307b5be200c5aeef2e6ceb72b172e6e49a28869ef39ba8ada3b807fa863a91", func := "remora/remoralaw10.SquashTwice", spec := "squashTwice", unfollowed := true, recurses := true, plainKeys := false, apart := false, narrowed := true }
def SquashTwiceUptoSaid : Prop := squashTwiceUptoRow.holds Try.pinned (OpenSpec.upto squashTwiceSpec)

/-- 'remoralaw10.SquashBack', WHERE WHAT IT READS IS OF BULK AT MOST 1048576: true; the input reads as it did. -/
def squashBackUptoRow : OpenClaim := { program := "ytaneollgpllbiaa", sum := "af307b5be200c5aeef2e6ceb72b172e6e49a28869ef39ba8ada3b807fa863a91", func := "remora/remoralaw10.SquashBack", spec := "squashBack", unfollowed := true, recurses := true, plainKeys := false, apart := false, narrowed := true }
def SquashBackUptoSaid : Prop := squashBackUptoRow.holds Try.pinned (OpenSpec.upto squashBackSpec)

end Rows
end Go.Proofs.Ytaneollgpllbiaa
