-- The row of the law remoralaw33_LedgerKeeps, written by a program of the session (wip/tool/mk.py) out of its Pure and the walk; Lean checks it.
import Derived.Test.YtniboafnkiijcaaRows
import Derived.Test.YtniboafnkiijcaaPx8
import Derived.Test.YtniboafnkiijcaaPureLedgerKeeps
import Derived.WalkKit
import Derived.ProofKit
import Derived.OpenShut
import Derived.ShutString
import Derived.ChangeOld
import Derived.Below
import Derived.SizedLaws
import Derived.Test.YtniboafnkiijcaaWSized
import Derived.Test.YtniboafnkiijcaaOpens
namespace Go.Proofs.Ytniboafnkiijcaa.ledgerKeeps
open Go.ChangeShapes Go.WideShapes Go.ChangeAt Go.RowKit
open Go.ChangeMaps (open_string shut_string)
set_option linter.unusedVariables false
theorem own : ownKnob Try.prog.godebug = none := by kernel_rfl
theorem laidOut : laidOutB Try.prog = true := by kernel_rfl
def IsRow (k : IntKind) (w : World) (a : Option Addr) (len cap : Nat) (zs : List Int) : Prop :=
  (a = none ∧ len = 0 ∧ cap = 0 ∧ zs = []) ∨
  ∃ x, a = some x ∧ len ≤ cap ∧ cap ≤ maxLen ∧ zs.length = cap ∧ (∀ i, i < zs.length → w.cell? (x.add i) = some (.int k (zs.getD i 0))) ∧ ∀ n ∈ zs, (Lit.int k n).wf = true
set_option maxRecDepth 100000 in
theorem lifted (os : Os) (started : os.Started) (H : Type) (enc : TypeId × Value → H) :
    ReturnsInHanded {} Try.checked os 3 .any (Rows.ledgerKeepsSpec.pre6 enc Try.prog Try.f3 Rows.ledgerKeepsRow.domain false) (Rows.ledgerKeepsSpec.post enc Try.prog Try.f3 false true false false) := by
  refine returnsInHanded_of_change_sized (C := Try.checked) own started (by kernel_rfl) Try.func3
    (ChangeSpec.witness6 (enc := enc) (C := Try.checked) false ⟨#[], #[.int .u8 0, .slice none 0 0], []⟩ 8 (by kernel_rfl) (by kernel_rfl) (by kernel_rfl) (by kernel_rfl)) ?_
  intro W base args ds gs before hval0 hW hcnd hsz0 _
  have hsz : (DataW.weightsEach Try.prog (Try.f3.params.toList ++ Rows.ledgerKeepsSpec.plain.varTypes Try.prog) (ds ++ gs)).all (· ≤ reachBytes) = true := hsz0
  have hval : ∀ (j : Nat) t v, Try.f3.params[j]? = some t → args[j]? = some v → Value.okWide Try.prog W .any base t v := hval0
  have hW' := hW
  obtain ⟨p, q, hA0, hV, rfl, hfz, hnd⟩ := hW
  have hA : DataW.TrodAll enc Try.prog W 0 (fun _ => true) true Try.f3.params.toList args.toList ds p := hA0
  rw [Try.params3] at hA hval hsz
  obtain ⟨v0, vs0, d0, ds0, p0, q0, hargs, rfl, rfl, h0, r0⟩ := trodAll_cons hA
  obtain ⟨v1, vs1, d1, ds1, p1, q1, rfl, rfl, rfl, h1, r1⟩ := trodAll_cons r0
  obtain ⟨rfl, rfl, rfl⟩ := trodAll_nil r1
  obtain rfl : args = #[v0, v1] := by cases args; simp_all
  obtain ⟨rfl, rfl⟩ := trodVars_none hV
  obtain ⟨a0, rfl, rfl, rfl, w0⟩ := open_int Try.underlying5 (hval 0 5 v0 rfl rfl) h0
  obtain ⟨a1, len1, cap1, rfl⟩ := okWide_slice Try.underlying22 (hval 1 22 v1 rfl rfl)
  have k1 := h1
  have lt1 : ∀ x ∈ p1, x.block < W.heap.size := by obtain ⟨m, hm⟩ := k1; exact DataW.trod_lt m _ _ _ hm
  obtain ⟨l1, rfl, hr1, hc1, hm1, y1, hw1⟩ := Go.Proofs.YtniboafnkiijcaaW.Opens.slice_of Try.underlying22 (by kernel_rfl) (Go.Proofs.YtniboafnkiijcaaW.Opens.op_iso (f := (fun x : Go.Proofs.Ytniboafnkiijcaa.P.S36 => (x.f0, x.f1, x.f2, x.f3))) (fun x => ⟨x.1, x.2.1, x.2.2.1, x.2.2.2⟩) (fun _ => rfl) (Go.Proofs.YtniboafnkiijcaaW.Opens.op_struct Try.underlying36 (by kernel_rfl) (Go.Proofs.YtniboafnkiijcaaW.Opens.opr_cons rfl (by kernel_rfl) (Go.Proofs.YtniboafnkiijcaaW.Opens.op_int Try.underlying3) (Go.Proofs.YtniboafnkiijcaaW.Opens.opr_cons rfl (by kernel_rfl) (Go.Proofs.YtniboafnkiijcaaW.Opens.op_string Try.underlying9) (Go.Proofs.YtniboafnkiijcaaW.Opens.opr_cons rfl (by kernel_rfl) (Go.Proofs.YtniboafnkiijcaaW.Opens.op_iso (f := (fun x : Go.Proofs.Ytniboafnkiijcaa.P.S34 => (x.f0, x.f1, x.f2, x.f3, x.f4, x.f5))) (fun x => ⟨x.1, x.2.1, x.2.2.1, x.2.2.2.1, x.2.2.2.2.1, x.2.2.2.2.2⟩) (fun _ => rfl) (Go.Proofs.YtniboafnkiijcaaW.Opens.op_struct Try.underlying34 (by kernel_rfl) (Go.Proofs.YtniboafnkiijcaaW.Opens.opr_cons rfl (by kernel_rfl) (Go.Proofs.YtniboafnkiijcaaW.Opens.op_int Try.underlying3) (Go.Proofs.YtniboafnkiijcaaW.Opens.opr_cons rfl (by kernel_rfl) (Go.Proofs.YtniboafnkiijcaaW.Opens.op_int Try.underlying3) (Go.Proofs.YtniboafnkiijcaaW.Opens.opr_cons rfl (by kernel_rfl) (Go.Proofs.YtniboafnkiijcaaW.Opens.op_int Try.underlying3) (Go.Proofs.YtniboafnkiijcaaW.Opens.opr_cons rfl (by kernel_rfl) (Go.Proofs.YtniboafnkiijcaaW.Opens.op_int Try.underlying3) (Go.Proofs.YtniboafnkiijcaaW.Opens.opr_cons rfl (by kernel_rfl) (Go.Proofs.YtniboafnkiijcaaW.Opens.op_iso (f := (fun x : Go.Proofs.Ytniboafnkiijcaa.P.S32 => (x.f0, x.f1, x.f2, x.f3, x.f4))) (fun x => ⟨x.1, x.2.1, x.2.2.1, x.2.2.2.1, x.2.2.2.2⟩) (fun _ => rfl) (Go.Proofs.YtniboafnkiijcaaW.Opens.op_struct Try.underlying32 (by kernel_rfl) (Go.Proofs.YtniboafnkiijcaaW.Opens.opr_cons rfl (by kernel_rfl) (Go.Proofs.YtniboafnkiijcaaW.Opens.op_int Try.underlying3) (Go.Proofs.YtniboafnkiijcaaW.Opens.opr_cons rfl (by kernel_rfl) (Go.Proofs.YtniboafnkiijcaaW.Opens.op_int Try.underlying3) (Go.Proofs.YtniboafnkiijcaaW.Opens.opr_cons rfl (by kernel_rfl) (Go.Proofs.YtniboafnkiijcaaW.Opens.op_int Try.underlying3) (Go.Proofs.YtniboafnkiijcaaW.Opens.opr_cons rfl (by kernel_rfl) (Go.Proofs.YtniboafnkiijcaaW.Opens.op_int Try.underlying3) (Go.Proofs.YtniboafnkiijcaaW.Opens.opr_one rfl (by kernel_rfl) (Go.Proofs.YtniboafnkiijcaaW.Opens.op_int Try.underlying3)))))))) (Go.Proofs.YtniboafnkiijcaaW.Opens.opr_one rfl (by kernel_rfl) (Go.Proofs.YtniboafnkiijcaaW.Opens.op_string Try.underlying9))))))))) (Go.Proofs.YtniboafnkiijcaaW.Opens.opr_one rfl (by kernel_rfl) (Go.Proofs.YtniboafnkiijcaaW.Opens.op_string Try.underlying9))))))) h1 hsz (j := 1) rfl rfl
  clear hA0 hval0 hsz0 hsz
  refine (P.remoralaw33_LedgerKeeps.walk Pure.LedgerKeeps a0 a1 cap1 l1 W w0 hr1 hc1 hm1 y1 hw1).mono fun e W' ⟨he, bel⟩ => ?_
  subst he
  exact ⟨_, rfl, _, _, _, [], _, [], hW', trodAll_mk1 (shut_bool Try.underlying4 _), (trodAll_cons_mk (shut_int Try.underlying5 w0) (trodAll_cons_mk (Below.trod laidOut (by kernel_rfl) (of_decide_eq_true (by kernel_rfl)) k1 bel lt1) trodAll_mk0)), rfl, bel.frame _, fun h => by cases h⟩
theorem over : Rows.ledgerKeepsRow.holds Try.pinned (OpenSpec.ofChange Rows.ledgerKeepsSpec) :=
  OpenClaim.holds_of_wide 3 Try.f3 rfl rfl rfl rfl rfl rfl rfl ⟨rfl, rfl, rfl, rfl, rfl⟩ rfl rfl rfl rfl rfl (by kernel_rfl) Try.func3 (by kernel_rfl)
    (of_decide_eq_true (by kernel_rfl)) (by unfold Func.isWrapper; first | (rw [if_pos (by decide +kernel)]; kernel_rfl) | (rw [if_neg (by decide +kernel)]; exact ⟨rfl, rfl⟩))
    (fun os started H enc _ => lifted os started H enc)
theorem proved : Rows.LedgerKeepsSaid := over
#print axioms proved
end Go.Proofs.Ytniboafnkiijcaa.ledgerKeeps
namespace Go.Proofs.Ytniboafnkiijcaa
/-- The row, under a short name, for the claim. -/
theorem ledgerKeeps_holds : Rows.LedgerKeepsSaid := ledgerKeeps.proved
end Go.Proofs.Ytniboafnkiijcaa
