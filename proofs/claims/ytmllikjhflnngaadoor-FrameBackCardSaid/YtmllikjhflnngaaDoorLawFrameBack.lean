-- The row of the law remoralaw29_FrameBack, written by a program of the session (wip/tool/mk.py) out of its Pure and the walk; Lean checks it.
import Derived.Test.YtmllikjhflnngaaDoorCards
import Derived.Test.YtmllikjhflnngaaDoorTie
import Derived.Test.YtmllikjhflnngaaDoorPx15
import Derived.Test.YtmllikjhflnngaaDoorPureFrameBack
import Derived.WalkKit
import Derived.ProofKit
import Derived.OpenShut
import Derived.ShutString
import Derived.ChangeOld
import Derived.Below
import Derived.SizedLaws
import Derived.Test.YtmllikjhflnngaaDoorOpens
import Derived.Deep.DeepHandedRow
import Derived.Lib.LaidTab
import Derived.Test.YtmllikjhflnngaaDoorWSized
namespace Go.Proofs.YtmllikjhflnngaaDoor.frameBack
open Go.ChangeShapes Go.WideShapes Go.ChangeAt Go.RowKit
open Go.ChangeMaps (open_string shut_string)
set_option linter.unusedVariables false
open Go.Proofs.YtmllikjhflnngaaDoor.P in
theorem gt_of {W : World} (h : laidMetH Tryd.prog Rows.frameBackRow.laid W) : GT W := fun j hj =>
  (Lib.tabIs_of_head (rest := []) (zs := crcTab) (show Tryd.prog.globalNamed "remora/crc.table" = some 0 by kernel_rfl) (t := 84) (by kernel_rfl) Tryd.underlying84 Tryd.underlying77 (by kernel_rfl) (by kernel_rfl) h).cell (by kernel_rfl) j hj
noncomputable def laidWorld (os : Os) : World :=
  { World.holding Tryd.prog os ⟨#[], #[], []⟩ with heap := (World.holding Tryd.prog os ⟨#[], #[], []⟩).heap.modify 0 fun
      | .cells _ t frozen => .cells (P.crcTab.map fun z => Value.int .u32 z).toArray t frozen
      | o => o }
theorem laid_met (os : Os) : laidMet Tryd.prog Rows.frameBackRow.laid ((laidWorld os).forCall (fun _ _ => 0) ⟨#[], #[.int .u8 0, .slice none 0 0, .agg #[.slice none 0 0, .slice none 0 0]], []⟩).memory :=
  laidMet_of_run' 8 (by kernel_rfl) (by kernel_rfl)
theorem own : ownKnob Tryd.prog.godebug = none := by kernel_rfl
theorem laidOut : laidOutB Tryd.prog = true := by kernel_rfl
def IsRow (k : IntKind) (w : World) (a : Option Addr) (len cap : Nat) (zs : List Int) : Prop :=
  (a = none ∧ len = 0 ∧ cap = 0 ∧ zs = []) ∨
  ∃ x, a = some x ∧ len ≤ cap ∧ cap ≤ maxLen ∧ zs.length = cap ∧ (∀ i, i < zs.length → w.cell? (x.add i) = some (.int k (zs.getD i 0))) ∧ ∀ n ∈ zs, (Lit.int k n).wf = true
theorem reads (os : Os) {H : Type} (enc : TypeId × Value → H) : ∃ places, DataW.whole enc Tryd.prog ((laidWorld os).forCall (fun _ _ => 0) ⟨#[], #[.int .u8 0, .slice none 0 0, .agg #[.slice none 0 0, .slice none 0 0]], []⟩).memory Tryd.f5.params.toList Rows.frameBackSpec.vars false (#[.int .u8 0, .slice none 0 0, .agg #[.slice none 0 0, .slice none 0 0]] : Array Value).toList 8 = some ([.lit (.int .u8 0), .nil, .agg [.nil, .nil]], [], places) :=
  ⟨[], by kernel_rfl⟩
theorem okWide_two {P : Program} {t e : TypeId} {W : World} {r : Reach} {b0 : Nat} {v : Value} (hu : P.underlying t = some (.array 2 e)) (hc : P.cellsOf t = 2) (h : Value.okWide P W r b0 t v) : ∃ c0 c1, v = .agg #[c0, c1] := by
  simp only [Value.okWide, hu] at h
  obtain ⟨cs, h1, h2, _⟩ := h
  rw [hc] at h2
  obtain ⟨l⟩ := cs
  match l, h2 with
  | [c0, c1], _ => exact ⟨c0, c1, h1⟩
open Go.Proofs.YtmllikjhflnngaaDoorW.PrintWords Go.Proofs.YtmllikjhflnngaaDoorW in
theorem two_rows {H : Type} {enc : TypeId × Value → H} {W : World} {held : Bool} {c0 c1 : Value} {y : DataW H} {ps : List MemPlace} {ts : List TypeId} {ds : List (DataW H)} {j : Nat}
    (h : DataW.Trod enc Tryd.prog W 0 (fun _ => true) held 38 (.agg #[c0, c1]) y ps) (hsz : (DataW.weightsEach Tryd.prog ts ds).all (· ≤ reachBytes) = true) (htj : ts[j]? = some 38) (hdj : ds[j]? = some y) :
    ∃ (A : Option Addr) (ca : Nat) (D : Option Addr) (cd : Nat) (la lb : List Int), c0 = .slice A la.length ca ∧ c1 = .slice D lb.length cd ∧ (la.length ≤ ca ∧ lb.length ≤ cd) ∧ Kd.C (Kd.int .u8) W A la.length la ∧ Kd.C (Kd.int .u8) W D lb.length lb ∧
      (la.length ≤ 140737488351232 ∧ lb.length ≤ 140737488351232) ∧ (∀ x ∈ la, (Lit.int .u8 x).wf = true) ∧ ∀ x ∈ lb, (Lit.int .u8 x).wf = true := by
  obtain ⟨fuel, hf⟩ := h
  obtain ⟨x, ⟨hl, _, hk⟩, hx2, hok⟩ := Opens.op_arr (n := 2) (hs := Nat.one_pos) Tryd.underlying38 (by kernel_rfl) (by kernel_rfl) (Opens.op_slice Tryd.underlying22 (by kernel_rfl) (Opens.op_int (k := .u8) Tryd.underlying5)) H enc W 0 held fuel _ _ hf (fun n hn => by
    have := List.all_eq_true.1 hsz _ (DataW.weights_mem_each htj hdj n hn)
    simpa using this)
  match x, hx2, hk, hok with
  | [la, lb], _, hk, hok =>
    obtain ⟨A, ca, e0, l0, C0⟩ := hk 0 la rfl
    obtain ⟨D, cd, e1, l1, C1⟩ := hk 1 lb rfl
    obtain ⟨_, m0, w0⟩ := hok la (by simp)
    obtain ⟨_, m1, w1⟩ := hok lb (by simp)
    have b5 : Tryd.prog.bytesOf 5 = 1 := by kernel_rfl
    rw [b5, Nat.mul_one] at m0 m1
    refine ⟨A, ca, D, cd, la, lb, ?_, ?_, ⟨l0, l1⟩, C0, C1, ⟨m0, m1⟩, w0, w1⟩
    · have : [c0] = [.slice A la.length ca] := e0
      simpa using this
    · have : [c1] = [.slice D lb.length cd] := e1
      simpa using this
set_option maxRecDepth 100000 in
theorem contract (H : Type) (enc : TypeId × Value → H) (W : World) (base : Nat) (args : Array Value) (ds gs : List (DataW H)) (before : List MemPlace)
    (hval0 : ∀ (j : Nat) t v, Tryd.f5.params[j]? = some t → args[j]? = some v → Value.okWide Tryd.prog W .any base t v)
    (hW : DataW.Whole enc Tryd.prog Tryd.f5.params.toList Rows.frameBackSpec.vars false W args.toList ds gs before)
    (hsz0 : (DataW.weightsEach Tryd.prog (Tryd.f5.params.toList ++ Rows.frameBackSpec.plain.varTypes Tryd.prog) (ds ++ gs)).all (· ≤ reachBytes) = true) (hG : P.GT W) :
    Calls Tryd.prog 5 args W fun e W' => ∃ v, e = .returned v ∧ Rows.frameBackSpec.post enc Tryd.prog Tryd.f5 false true false false W args v W' := by
  have hsz : (DataW.weightsEach Tryd.prog (Tryd.f5.params.toList ++ Rows.frameBackSpec.plain.varTypes Tryd.prog) (ds ++ gs)).all (· ≤ reachBytes) = true := hsz0
  have hval : ∀ (j : Nat) t v, Tryd.f5.params[j]? = some t → args[j]? = some v → Value.okWide Tryd.prog W .any base t v := hval0
  have hW' := hW
  obtain ⟨p, q, hA0, hV, rfl, hfz, hnd⟩ := hW
  have hA : DataW.TrodAll enc Tryd.prog W 0 (fun _ => true) true Tryd.f5.params.toList args.toList ds p := hA0
  rw [Tryd.params5] at hA hval hsz
  obtain ⟨v0, vs0, d0, ds0, p0, q0, hargs, rfl, rfl, h0, r0⟩ := trodAll_cons hA
  obtain ⟨v1, vs1, d1, ds1, p1, q1, rfl, rfl, rfl, h1, r1⟩ := trodAll_cons r0
  obtain ⟨v2, vs2, d2, ds2, p2, q2, rfl, rfl, rfl, h2, r2⟩ := trodAll_cons r1
  obtain ⟨rfl, rfl, rfl⟩ := trodAll_nil r2
  obtain rfl : args = #[v0, v1, v2] := by cases args; simp_all
  obtain ⟨rfl, rfl⟩ := trodVars_none hV
  obtain ⟨a0, rfl, rfl, rfl, w0⟩ := open_int Tryd.underlying5 (hval 0 5 v0 rfl rfl) h0
  obtain ⟨a1, len1, cap1, rfl⟩ := okWide_slice Tryd.underlying22 (hval 1 22 v1 rfl rfl)
  have k1 := h1
  have lt1 : ∀ x ∈ p1, x.block < W.heap.size := by obtain ⟨m, hm⟩ := k1; exact DataW.trod_lt m _ _ _ hm
  obtain ⟨z1, w1⟩ : ∃ zs, IsRow .u8 W a1 len1 cap1 zs := by
    obtain ⟨fuel, hf⟩ := h1
    rcases open_ints Tryd.underlying22 Tryd.underlying5 (by kernel_rfl) hf with ⟨hcs, _⟩ | ⟨x, l, c, zs, hcs, _, hl, hm, hz, _, hcell, hwz⟩
    · simp [Value.cells] at hcs
      obtain ⟨rfl, rfl, rfl⟩ := hcs
      exact ⟨[], .inl ⟨rfl, rfl, rfl, rfl⟩⟩
    · simp [Value.cells] at hcs
      obtain ⟨rfl, rfl, rfl⟩ := hcs
      exact ⟨zs, .inr ⟨_, rfl, hl, hm, by simpa using hz, hcell, hwz⟩⟩
  have y1 : len1 * 1 ≤ 140737488351232 := Go.Proofs.YtmllikjhflnngaaDoorW.PrintWords.sized_ints hsz (j := 1) (t := 22) rfl rfl Tryd.underlying22 Tryd.underlying5 (by kernel_rfl) (by kernel_rfl) h1
  have k2 := h2
  have lt2 : ∀ x ∈ p2, x.block < W.heap.size := by obtain ⟨m, hm⟩ := k2; exact DataW.trod_lt m _ _ _ hm
  obtain ⟨e0, e1, rfl⟩ := okWide_two Tryd.underlying38 (by kernel_rfl) (hval 2 38 v2 rfl rfl)
  obtain ⟨A, ca, D, cd, la, lb, rfl, rfl, hcc, hCa, hCb, hmm, hwa, hwb⟩ := two_rows h2 hsz (j := 2) rfl rfl
  clear hA0 hval0 hsz0 hsz
  obtain ⟨l1, rfl, hr1, hm1, hw1, hc1⟩ := Go.Proofs.YtmllikjhflnngaaDoorW.PrintWords.ReadsInt.ofRowC w1
  have z0 := Num.wf_u8 w0
  refine (P.remoralaw29_FrameBack.walk Pure.FrameBack a1 cap1 A ca D cd a0 l1 la lb W hG (Go.Proofs.YtmllikjhflnngaaDoorW.PrintWords.Kd.C_of_reads (d := (0 : Int)) (h1 := fun _ => rfl) hr1) hc1 hCa hcc.1 hCb hcc.2 z0.1 z0.2 (P.wf_byte hw1) (P.wf_byte hwa) (P.wf_byte hwb) (by omega) hmm.1 hmm.2).mono fun e W' ⟨he, bel⟩ => ?_
  subst he
  exact ⟨_, rfl, _, _, _, [], _, [], hW', trodAll_mk1 (shut_bool Tryd.underlying4 _), (trodAll_cons_mk (shut_int Tryd.underlying5 w0) (trodAll_cons_mk (Below.trod laidOut (by kernel_rfl) (of_decide_eq_true (by kernel_rfl)) k1 bel lt1) (trodAll_cons_mk (Below.trod laidOut (by kernel_rfl) (of_decide_eq_true (by kernel_rfl)) k2 bel lt2) trodAll_mk0))), rfl, bel.frame _, fun h => by cases h⟩
set_option maxRecDepth 100000 in
theorem lifted (os : Os) (started : os.Started) (H : Type) (enc : TypeId × Value → H) (F : Stop.Interp) :
    ReturnsInHanded {} Tryd.checked os 5 .any ((OpenSpec.ofChange Rows.frameBackSpec).preRow enc Tryd.prog Tryd.f5 Rows.frameBackRow.domain false Rows.frameBackRow.laid) (((OpenSpec.ofChange Rows.frameBackSpec).at F).post enc Tryd.prog Tryd.f5 false true false false) := by
  obtain ⟨places, hx⟩ := reads os enc
  refine returnsInHanded_of_row (C := Tryd.checked) (s := OpenSpec.ofChange Rows.frameBackSpec) own started (by kernel_rfl) Tryd.func5
    (witness_row_at (enc := enc) (C := Tryd.checked) false (laidWorld os) #[.int .u8 0, .slice none 0 0, .agg #[.slice none 0 0, .slice none 0 0]] rfl (by kernel_rfl) (by kernel_rfl) (by kernel_rfl)
      (OpenSpec.preRow_of_cond 8 hx (by kernel_rfl) (fun k hk => by cases hk) (by kernel_rfl) (laid_met os))) ?_
  intro W base args ds gs before hval hW _ _ hsz hL _ _
  exact contract H enc W base args ds gs before hval hW hsz (gt_of hL)
theorem said : Rows.FrameBackSaid :=
  OpenClaim.holds_of_cond 5 Tryd.f5 rfl rfl rfl rfl rfl rfl rfl ⟨rfl, rfl, rfl, rfl, rfl⟩ rfl rfl rfl rfl rfl (by kernel_rfl) Tryd.func5 (by kernel_rfl)
    (of_decide_eq_true (by kernel_rfl)) (by unfold Func.isWrapper; first | (rw [if_pos (by decide +kernel)]; kernel_rfl) | (rw [if_neg (by decide +kernel)]; exact ⟨rfl, rfl⟩))
    (fun os started H enc _ F => by rw [OpenClaim.pre_eq_preRow]; exact lifted os started H enc F)
theorem plain (f : FuncId) (fn : Func) (hf : Tryd.pinned.checked.prog.funcNamed "remora/remoralaw29.FrameBack" = some f) (hfn : Tryd.pinned.checked.prog.funcs[f]? = some fn) :
    true = Tryd.pinned.checked.prog.looks [] ∧ ∀ (j : Nat) t, fn.params[j]? = some t → Tryd.pinned.checked.prog.wantsStandIn t = false := by
  obtain rfl : f = 5 := Option.some.inj ((show Tryd.prog.funcNamed "remora/remoralaw29.FrameBack" = some 5 by kernel_rfl).symm.trans hf) |>.symm
  obtain rfl : fn = Tryd.f5 := (Option.some.inj (Tryd.func5.symm.trans hfn)).symm
  refine ⟨by kernel_rfl, fun j t ht => ?_⟩
  rw [Tryd.params5] at ht
  have hm : t = 5 ∨ t = 22 ∨ t = 38 := by
    have h_ := Array.mem_of_getElem? ht
    simp at h_
    omega
  rcases hm with rfl | rfl | rfl
  · exact (show Tryd.prog.wantsStandIn 5 = false by kernel_rfl)
  · exact (show Tryd.prog.wantsStandIn 22 = false by kernel_rfl)
  · exact (show Tryd.prog.wantsStandIn 38 = false by kernel_rfl)
/-- The card: the row, its table tied to the program's text. -/
theorem card : Rows.FrameBackCardSaid :=
  Claim7.holds_tied_plain_at .later [] _ _ _ _ said (fun _ h => by cases h) (by kernel_rfl) (fun _ h => by cases h) frameBack_row_tie rfl ⟨rfl, rfl⟩ (by kernel_rfl) rfl plain (by kernel_rfl)
#print axioms card
end Go.Proofs.YtmllikjhflnngaaDoor.frameBack
namespace Go.Proofs.YtmllikjhflnngaaDoor
/-- The row's card, under a short name, for the claim. -/
theorem frameBackCard_holds : Rows.FrameBackCardSaid := frameBack.card
end Go.Proofs.YtmllikjhflnngaaDoor
