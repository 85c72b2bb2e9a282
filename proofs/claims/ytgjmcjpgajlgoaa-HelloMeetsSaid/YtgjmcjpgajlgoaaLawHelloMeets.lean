-- The row of the law remoralaw32_HelloMeets, written by a program of the session (wip/tool/mk.py) out of its Pure and the walk; Lean checks it.
import Derived.Test.YtgjmcjpgajlgoaaRows
import Derived.Test.YtgjmcjpgajlgoaaPx9
import Derived.Test.YtgjmcjpgajlgoaaPureHelloMeets
import Derived.WalkKit
import Derived.ProofKit
import Derived.OpenShut
import Derived.ShutString
import Derived.ChangeOld
import Derived.Below
import Derived.SizedLaws
import Derived.Test.YtgjmcjpgajlgoaaWSized
import Derived.Test.YtgjmcjpgajlgoaaJoins
namespace Go.Proofs.Ytgjmcjpgajlgoaa.helloMeets
open Go.ChangeShapes Go.WideShapes Go.ChangeAt Go.RowKit
open Go.ChangeMaps (open_string shut_string)
set_option linter.unusedVariables false
theorem own : ownKnob Try.prog.godebug = none := by kernel_rfl
theorem laidOut : laidOutB Try.prog = true := by kernel_rfl
def IsRow (k : IntKind) (w : World) (a : Option Addr) (len cap : Nat) (zs : List Int) : Prop :=
  (a = none ∧ len = 0 ∧ cap = 0 ∧ zs = []) ∨
  ∃ x, a = some x ∧ len ≤ cap ∧ cap ≤ maxLen ∧ zs.length = cap ∧ (∀ i, i < zs.length → w.cell? (x.add i) = some (.int k (zs.getD i 0))) ∧ ∀ n ∈ zs, (Lit.int k n).wf = true
set_option maxRecDepth 100000 in
theorem lifted (os : Os) (started : os.Started) (H : Type) (enc : TypeId × Value → H) :
    ReturnsInHanded {} Try.checked os 4 .any (Rows.helloMeetsSpec.pre6 enc Try.prog Try.f4 Rows.helloMeetsRow.domain false) (Rows.helloMeetsSpec.post enc Try.prog Try.f4 false true false false) := by
  refine returnsInHanded_of_change_sized (C := Try.checked) own started (by kernel_rfl) Try.func4
    (ChangeSpec.witness6 (enc := enc) (C := Try.checked) false ⟨#[], #[.agg #[.int .i64 0, .int .i64 0, .int .i64 0, .int .i64 0], .agg #[.int .i64 0, .int .i64 0, .int .i64 0, .int .i64 0, .int .i64 0]], []⟩ 8 (by kernel_rfl) (by kernel_rfl) (by kernel_rfl) (by kernel_rfl)) ?_
  intro W base args ds gs before hval0 hW hcnd hsz0 _
  have hsz : (DataW.weightsEach Try.prog (Try.f4.params.toList ++ Rows.helloMeetsSpec.plain.varTypes Try.prog) (ds ++ gs)).all (· ≤ reachBytes) = true := hsz0
  have hval : ∀ (j : Nat) t v, Try.f4.params[j]? = some t → args[j]? = some v → Value.okWide Try.prog W .any base t v := hval0
  have hW' := hW
  obtain ⟨p, q, hA0, hV, rfl, hfz, hnd⟩ := hW
  have hA : DataW.TrodAll enc Try.prog W 0 (fun _ => true) true Try.f4.params.toList args.toList ds p := hA0
  rw [Try.params4] at hA hval hsz
  obtain ⟨v0, vs0, d0, ds0, p0, q0, hargs, rfl, rfl, h0, r0⟩ := trodAll_cons hA
  obtain ⟨v1, vs1, d1, ds1, p1, q1, rfl, rfl, rfl, h1, r1⟩ := trodAll_cons r0
  obtain ⟨rfl, rfl, rfl⟩ := trodAll_nil r1
  obtain rfl : args = #[v0, v1] := by cases args; simp_all
  obtain ⟨rfl, rfl⟩ := trodVars_none hV
  have k0 := h0
  have lt0 : ∀ x ∈ p0, x.block < W.heap.size := by obtain ⟨m, hm⟩ := k0; exact DataW.trod_lt m _ _ _ hm
  obtain ⟨cs0, rfl, hl0, hf0⟩ := Go.Proofs.YtgjmcjpgajlgoaaW.Joins.open_fields Try.underlying25 (by kernel_rfl) (by kernel_rfl) (hval 0 25 v0 rfl rfl) h0
  obtain ⟨c0_0, c0_1, c0_2, c0_3, rfl⟩ := Go.Proofs.YtgjmcjpgajlgoaaW.Joins.len4 (hl0.trans (by rfl))
  obtain ⟨c_, hc_, n_, y_, ht_⟩ := hf0 0 _ rfl
  obtain rfl : c0_0 = c_ := by simpa using hc_
  obtain ⟨a0_0, he_, _, w0_0⟩ := DataW.trod_int Try.underlying3 ht_
  obtain rfl : c0_0 = .int .i64 a0_0 := by simpa using he_
  clear hc_ ht_ he_
  obtain ⟨c_, hc_, n_, y_, ht_⟩ := hf0 1 _ rfl
  obtain rfl : c0_1 = c_ := by simpa using hc_
  obtain ⟨a0_1, he_, _, w0_1⟩ := DataW.trod_int Try.underlying3 ht_
  obtain rfl : c0_1 = .int .i64 a0_1 := by simpa using he_
  clear hc_ ht_ he_
  obtain ⟨c_, hc_, n_, y_, ht_⟩ := hf0 2 _ rfl
  obtain rfl : c0_2 = c_ := by simpa using hc_
  obtain ⟨a0_2, he_, _, w0_2⟩ := DataW.trod_int Try.underlying3 ht_
  obtain rfl : c0_2 = .int .i64 a0_2 := by simpa using he_
  clear hc_ ht_ he_
  obtain ⟨c_, hc_, n_, y_, ht_⟩ := hf0 3 _ rfl
  obtain rfl : c0_3 = c_ := by simpa using hc_
  obtain ⟨a0_3, he_, _, w0_3⟩ := DataW.trod_int Try.underlying3 ht_
  obtain rfl : c0_3 = .int .i64 a0_3 := by simpa using he_
  clear hc_ ht_ he_
  clear hf0 hl0
  have k1 := h1
  have lt1 : ∀ x ∈ p1, x.block < W.heap.size := by obtain ⟨m, hm⟩ := k1; exact DataW.trod_lt m _ _ _ hm
  obtain ⟨cs1, rfl, hl1, hf1⟩ := Go.Proofs.YtgjmcjpgajlgoaaW.Joins.open_fields Try.underlying23 (by kernel_rfl) (by kernel_rfl) (hval 1 23 v1 rfl rfl) h1
  obtain ⟨c1_0, c1_1, c1_2, c1_3, c1_4, rfl⟩ := Go.Proofs.YtgjmcjpgajlgoaaW.Joins.len5 (hl1.trans (by rfl))
  obtain ⟨c_, hc_, n_, y_, ht_⟩ := hf1 0 _ rfl
  obtain rfl : c1_0 = c_ := by simpa using hc_
  obtain ⟨a1_0, he_, _, w1_0⟩ := DataW.trod_int Try.underlying3 ht_
  obtain rfl : c1_0 = .int .i64 a1_0 := by simpa using he_
  clear hc_ ht_ he_
  obtain ⟨c_, hc_, n_, y_, ht_⟩ := hf1 1 _ rfl
  obtain rfl : c1_1 = c_ := by simpa using hc_
  obtain ⟨a1_1, he_, _, w1_1⟩ := DataW.trod_int Try.underlying3 ht_
  obtain rfl : c1_1 = .int .i64 a1_1 := by simpa using he_
  clear hc_ ht_ he_
  obtain ⟨c_, hc_, n_, y_, ht_⟩ := hf1 2 _ rfl
  obtain rfl : c1_2 = c_ := by simpa using hc_
  obtain ⟨a1_2, he_, _, w1_2⟩ := DataW.trod_int Try.underlying3 ht_
  obtain rfl : c1_2 = .int .i64 a1_2 := by simpa using he_
  clear hc_ ht_ he_
  obtain ⟨c_, hc_, n_, y_, ht_⟩ := hf1 3 _ rfl
  obtain rfl : c1_3 = c_ := by simpa using hc_
  obtain ⟨a1_3, he_, _, w1_3⟩ := DataW.trod_int Try.underlying3 ht_
  obtain rfl : c1_3 = .int .i64 a1_3 := by simpa using he_
  clear hc_ ht_ he_
  obtain ⟨c_, hc_, n_, y_, ht_⟩ := hf1 4 _ rfl
  obtain rfl : c1_4 = c_ := by simpa using hc_
  obtain ⟨a1_4, he_, _, w1_4⟩ := DataW.trod_int Try.underlying3 ht_
  obtain rfl : c1_4 = .int .i64 a1_4 := by simpa using he_
  clear hc_ ht_ he_
  clear hf1 hl1
  clear hA0 hval0 hsz0 hsz
  refine (P.remoralaw32_HelloMeets.walk Pure.HelloMeets a0_0 a0_1 a0_2 a0_3 a1_0 a1_1 a1_2 a1_3 a1_4 W w0_0 w0_1 w0_2 w0_3 w1_0 w1_1 w1_2 w1_3 w1_4).mono fun e W' ⟨he, bel⟩ => ?_
  subst he
  exact ⟨_, rfl, _, _, _, [], _, [], hW', trodAll_mk1 (shut_bool Try.underlying4 _), (trodAll_cons_mk (Below.trod laidOut (by kernel_rfl) (of_decide_eq_true (by kernel_rfl)) k0 bel lt0) (trodAll_cons_mk (Below.trod laidOut (by kernel_rfl) (of_decide_eq_true (by kernel_rfl)) k1 bel lt1) trodAll_mk0)), rfl, bel.frame _, fun h => by cases h⟩
theorem over : Rows.helloMeetsRow.holds Try.pinned (OpenSpec.ofChange Rows.helloMeetsSpec) :=
  OpenClaim.holds_of_wide 4 Try.f4 rfl rfl rfl rfl rfl rfl rfl ⟨rfl, rfl, rfl, rfl, rfl⟩ rfl rfl rfl rfl rfl (by kernel_rfl) Try.func4 (by kernel_rfl)
    (of_decide_eq_true (by kernel_rfl)) (by unfold Func.isWrapper; first | (rw [if_pos (by decide +kernel)]; kernel_rfl) | (rw [if_neg (by decide +kernel)]; exact ⟨rfl, rfl⟩))
    (fun os started H enc _ => lifted os started H enc)
theorem proved : Rows.HelloMeetsSaid := over
#print axioms proved
end Go.Proofs.Ytgjmcjpgajlgoaa.helloMeets
namespace Go.Proofs.Ytgjmcjpgajlgoaa
/-- The row, under a short name, for the claim. -/
theorem helloMeets_holds : Rows.HelloMeetsSaid := helloMeets.proved
end Go.Proofs.Ytgjmcjpgajlgoaa
