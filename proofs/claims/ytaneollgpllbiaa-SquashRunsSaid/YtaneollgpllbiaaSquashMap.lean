/- The map of the finder (array keys): what a look-up finds, what a store makes. -/
import Derived.Test.YtaneollgpllbiaaWWords
import Derived.Test.YtaneollgpllbiaaWLast
import Derived.Test.YtaneollgpllbiaaWMore
import Derived.Test.YtaneollgpllbiaaOwn
import Derived.Test.YtaneollgpllbiaaProg
import Derived.KernelRfl
import Derived.RowKit3
import Derived.Maps.OwnSet
import Derived.WideKeyEntry
import Derived.WideKeyArr
import Derived.DeepKeys4
set_option linter.unusedVariables false
namespace Go.Proofs.Ytaneollgpllbiaa.P
open Go.RowKit Go.Proofs.YtaneollgpllbiaaW.PrintWords Go.Proofs.YtaneollgpllbiaaW.PrintLast Go.Proofs.YtaneollgpllbiaaW.PrintMore
open Go.WideMaps Go.Maps
theorem arrKey : ArrKey Try.prog 52 5 4 := ⟨Try.underlying52, by kernel_rfl, by kernel_rfl, by kernel_rfl⟩
theorem key_law : KeyLaw Try.prog 52 := arrKey.law
theorem keyed : Keyed Try.prog 52 := Keyed.of_law key_law
def kv (l : List Int) : Value := .agg (l.map (Value.int .u8)).toArray
theorem size52 : Try.prog.cellsOf 52 = 4 := by kernel_rfl
theorem size5 : Try.prog.cellsOf 5 = 1 := by kernel_rfl
theorem wf8 {x : Int} (h : 0 ≤ x ∧ x ≤ 255) : (Lit.int .u8 x).wf = true := by
  have e1 : IntKind.u8.min = 0 := by decide
  have e2 : IntKind.u8.max = 255 := by decide
  simp only [Lit.wf, e1, e2, Bool.and_eq_true, decide_eq_true_eq]
  exact h
theorem lits5 (n : Nat) {x : Int} (h : 0 ≤ x ∧ x ≤ 255) : Try.prog.keyLits (n + 1) 5 [.int .u8 x] = some [.int .u8 x] := by
  unfold Program.keyLits
  rw [Try.underlying5]
  exact if_pos ⟨rfl, wf8 h⟩
theorem kv_key (a b c d : Int) (ha : 0 ≤ a ∧ a ≤ 255) (hb : 0 ≤ b ∧ b ≤ 255) (hc : 0 ≤ c ∧ c ≤ 255) (hd : 0 ≤ d ∧ d ≤ 255) : keyOf Try.prog 52 (kv [a, b, c, d]) = some (.string (keyBytes [.int .u8 a, .int .u8 b, .int .u8 c, .int .u8 d])) := by
  obtain ⟨m, hm⟩ : ∃ m, Try.prog.types.size = m + 1 := by
    have h0 : 0 < Try.prog.types.size := by decide +kernel
    exact ⟨Try.prog.types.size - 1, by omega⟩
  have hkt : Try.prog.keyType 52 = true := arrKey.keyType ⟨m, hm⟩
  have hf : (kv [a, b, c, d]).formed Try.prog 52 = true := by
    simp [kv, Value.formed, Try.underlying52, size52]
  have hl : Try.prog.keyLits (Try.prog.types.size + 1) 52 (kv [a, b, c, d]).cells.toList = some [.int .u8 a, .int .u8 b, .int .u8 c, .int .u8 d] := by
    rw [hm]
    unfold Program.keyLits
    rw [Try.underlying52]
    simp [kv, Value.cells, size52, size5, List.range, List.range.loop, lits5 _ ha, lits5 _ hb, lits5 _ hc, lits5 _ hd]
  unfold keyOf
  rw [Try.underlying52]
  simp only [hkt, hf, hl, Bool.and_self, if_true, Option.map_some]
def kl (l : List Int) : Lit := .string (keyBytes (l.map (Lit.int .u8)))
def K4 (l : List Int) : Prop := l.length = 4 ∧ ∀ x ∈ l, 0 ≤ x ∧ x ≤ 255
theorem K4.key {l : List Int} (h : K4 l) : keyOf Try.prog 52 (kv l) = some (kl l) := by
  obtain ⟨h1, h2⟩ := h
  match l, h1 with
  | [a, b, c, d], _ => exact kv_key a b c d (h2 a (by simp)) (h2 b (by simp)) (h2 c (by simp)) (h2 d (by simp))
theorem kv_inj {l m : List Int} (h : kv l = kv m) : l = m := by
  unfold kv at h
  have h1 : l.map (Value.int .u8) = m.map (Value.int .u8) := by simpa using h
  clear h
  induction l generalizing m with
  | nil => cases m with | nil => rfl | cons b r => simp at h1
  | cons a t ih => cases m with | nil => simp at h1 | cons b r => simp only [List.map_cons, List.cons.injEq, Value.int.injEq, true_and] at h1; rw [h1.1, ih h1.2]
theorem kl_inj {l m : List Int} (hl : K4 l) (hm : K4 m) (h : kl l = kl m) : l = m := kv_inj (keyed.inj hl.key (h ▸ hm.key))
theorem kl_key (l : List Int) : WideAt.IsKeyLit (kl l) := trivial
noncomputable def mD (K : Nat → List Int) : Nat → DataW Unit
  | 0 => .map []
  | j + 1 => (mD K j).put (kl (K j)) (.lit (.int .i64 (j : Int)))
def lastK (K : Nat → List Int) (x : List Int) : Nat → Int
  | 0 => -1
  | j + 1 => if K j = x then (j : Int) else lastK K x j
theorem mD_map (K : Nat → List Int) : ∀ n, Maps.IsMap (mD K n)
  | 0 => Maps.isMap_empty
  | j + 1 => (mD_map K j).put _ _
theorem mD_look (K : Nat → List Int) (x : List Int) (hx : K4 x) : ∀ n, (∀ j, j < n → K4 (K j)) → Maps.has (mD K n) (kl x) = decide (0 ≤ lastK K x n) ∧ (0 ≤ lastK K x n → ∀ z, (mD K n).atKey (kl x) z = .lit (.int .i64 (lastK K x n)))
  | 0, _ => ⟨by show false = decide ((0 : Int) ≤ -1); decide, fun h => by simp [lastK] at h⟩
  | j + 1, hK => by
    obtain ⟨h1, h2⟩ := mD_look K x hx j (fun i hi => hK i (by omega))
    rw [mD, lastK]
    by_cases e : K j = x
    · rw [if_pos e, e]
      exact ⟨by rw [Maps.has_put_same (mD_map K j) (kl_key x)]; simp, fun _ z => Maps.atKey_put_same (mD_map K j) (kl_key x) _ _⟩
    · rw [if_neg e]
      have hne : kl x ≠ kl (K j) := fun h => e (kl_inj hx (hK j (by omega)) h).symm
      exact ⟨by rw [Maps.has_put_other hne]; exact h1, fun h z => by rw [Maps.atKey_put_other hne]; exact h2 h z⟩
theorem zero3 (w : World) : (zeroValue 3).run Try.prog w = .ok (.int .i64 0) w := by kernel_rfl
noncomputable abbrev PE : Value → Option (DataW Unit × List MemPlace) := plainElem Try.prog 3
theorem map_look {w : World} {b n : Nat} {K : Nat → List Int} (h : w.ownsMap Try.prog 52 PE b n (mD K n)) (hK : ∀ j, j < n → K4 (K j)) {x : List Int} (hx : K4 x) :
    ∃ c, (Instr.lookup 41 (.map (some b)) (kv x) true).run Try.prog w = .ok (.tuple #[.int .i64 c, .bool (decide (0 ≤ lastK K x n))]) w ∧ (0 ≤ lastK K x n → c = lastK K x n) := by
  obtain ⟨v, ps, hrun, hv⟩ := h.look_ok keyed Try.underlying41 (zero3 w) (plainElem_int Try.underlying3 (by decide)) hx.key
  obtain ⟨c, rfl, hc, hwc⟩ := plainElem_int_inv Try.underlying3 hv
  obtain ⟨h1, h2⟩ := mD_look K x hx n hK
  refine ⟨c, by rw [← h1]; exact hrun, fun h0 => ?_⟩
  have h3 := h2 h0 (.lit (.int .i64 0))
  simp only [Prod.mk.injEq] at hc
  have h4 := hc.1.symm.trans h3
  simpa using h4
theorem wf64 {x : Int} (h0 : -9223372036854775808 ≤ x) (h1 : x ≤ 9223372036854775807) : (Lit.int .i64 x).wf = true := by
  have e1 : IntKind.i64.min = -9223372036854775808 := by decide
  have e2 : IntKind.i64.max = 9223372036854775807 := by decide
  simp only [Lit.wf, e1, e2, Bool.and_eq_true, decide_eq_true_eq]
  exact ⟨h0, h1⟩
theorem map_store {w : World} {b n : Nat} {K : Nat → List Int} (h : w.ownsMap Try.prog 52 PE b n (mD K n)) (hx : K4 (K n)) (hn : n < 65536) :
    ∃ (v0 : Value) (st : Nat) (w1 w2 : World), (Instr.mapEntry 41 (.map (some b)) (kv (K n))).run Try.prog w = .ok (.tuple #[v0, goInt st]) w1 ∧ w.grownBy w1 (some b) ∧ w1.heap.size = w.heap.size ∧
      (Instr.entryStore 41 (.map (some b)) (goInt st) (.int .i64 (n : Int))).run Try.prog w1 = .ok () w2 ∧ w2.ownsMap Try.prog 52 PE b (n + 1) (mD K (n + 1)) ∧ w.grownBy w2 (some b) ∧ w2.heap.size = w.heap.size := by
  have hu := h.update keyed Try.underlying41 (by unfold maxLen; omega) (val := .int .i64 (n : Int)) (d := .lit (.int .i64 (n : Int))) (ps := []) hx.key (plainElem_int Try.underlying3 (wf64 (by omega) (by omega)))
  obtain ⟨w', hrun', hown', hg'⟩ := hu
  obtain ⟨es, clock, hb, F, hs, hD⟩ := h
  obtain ⟨v0, st, es1, clock1, hr1, _, hr2⟩ := Go.WideElems.entry_then_store key_law Try.underlying41 (z := .int .i64 0) zero3 hb F hx.key
  obtain ⟨es', clock', hr3, hr4⟩ := hr2 (Go.ChangeMaps.setBlock w b (.map es1 clock1)) (.int .i64 (n : Int)) (Go.ChangeMaps.heap_setBlock_same hb _)
  have e : w' = Go.ChangeMaps.setBlock w b (.map es' clock') := by
    have := hrun'.symm.trans hr4
    simpa using this
  have hg1 : ∀ o : Obj, w.grownBy (Go.ChangeMaps.setBlock w b o) (some b) := fun o => ⟨rfl, rfl, rfl, by simp [Go.ChangeMaps.setBlock], fun i _ hi => Go.ChangeMaps.heap_setBlock_other hb _ (fun e => hi (by rw [e]))⟩
  have e2 : Go.ChangeMaps.setBlock (Go.ChangeMaps.setBlock w b (.map es1 clock1)) b (.map es' clock') = w' := by
    rw [e]
    simp [Go.ChangeMaps.setBlock]
  rw [e2] at hr3
  exact ⟨v0, st, _, w', hr1, hg1 _, by simp [Go.ChangeMaps.setBlock], hr3, hown', hg', by rw [e]; simp [Go.ChangeMaps.setBlock]⟩
end Go.Proofs.Ytaneollgpllbiaa.P
