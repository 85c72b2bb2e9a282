/- What a law is handed, opened: slices, structs, arrays and what they lead to, as kinds; each with its sizes. -/
import Derived.Test.YthehhbfiaaadgaaDoorWWords
import Derived.Test.YthehhbfiaaadgaaDoorWArr
import Derived.ChangeArms
import Derived.OpenShut
import Derived.SizedLaws
import Derived.Deep.Slices
set_option linter.unusedVariables false
set_option linter.unusedSimpArgs false
namespace Go.Proofs.YthehhbfiaaadgaaDoorW.Opens
open Go.ChangeShapes Go.WideShapes Go.RowKit Go.Deep Go.Proofs.YthehhbfiaaadgaaDoorW.PrintWords
/-- Whatever is read as data of type t is of kind d, and right. -/
def Op {α : Type} (P : Program) (t : TypeId) (d : Kd α) (ok : α → Prop) : Prop :=
  ∀ (H : Type) (enc : TypeId × Value → H) (W : World) (base : Nat) (held : Bool) (fuel : Nat) (cs : List Value) (y : DataW H × List MemPlace),
    DataW.trod enc P W base (fun _ => true) held fuel t cs = some y → (∀ n ∈ y.1.weights P t, n ≤ reachBytes) → ∃ x, d.K W x cs ∧ ok x
theorem op_int {P : Program} {t : TypeId} {k : IntKind} (ht : P.underlying t = some (.int k)) : Op P t (Kd.int k) (fun x => (Lit.int k x).wf = true) := by
  intro H enc W base held fuel cs y h _
  obtain ⟨n, rfl, _, hw⟩ := DataW.trod_int ht h
  exact ⟨n, rfl, hw⟩
theorem op_bool {P : Program} {t : TypeId} (ht : P.underlying t = some .bool) : Op P t Kd.bool (fun _ => True) := by
  intro H enc W base held fuel cs y h _
  obtain ⟨b, rfl, _⟩ := DataW.trod_bool ht h
  exact ⟨b, rfl, trivial⟩
theorem op_string {P : Program} {t : TypeId} (ht : P.underlying t = some .string) : Op P t Kd.string (fun x => x.size ≤ 140737488351232) := by
  intro H enc W base held fuel cs y h hw
  obtain ⟨s, rfl, rfl, _⟩ := DataW.trod_string ht h
  refine ⟨s, rfl, ?_⟩
  have := hw s.data.toList.length (by simp [DataW.weights])
  rw [Array.length_toList] at this
  exact this
theorem weights_all {H : Type} {P : Program} {e : TypeId} : ∀ {l : List (DataW H)} {d : DataW H}, d ∈ l → ∀ n ∈ d.weights P e, n ∈ DataW.weightsAll P e l
  | x :: l, d, hd, n, hn => by
    simp only [DataW.weightsAll, List.mem_append]
    rcases List.mem_cons.1 hd with rfl | hd
    · exact .inl hn
    · exact .inr (weights_all hd n hn)
theorem op_slice {α : Type} {P : Program} {t e : TypeId} {d : Kd α} {ok : α → Prop} (ht : P.underlying t = some (.slice e)) (hc : P.cellsOf e = d.sz) (he : Op P e d ok) :
    Op P t (Kd.slice e d) (fun l => l.length ≤ maxLen ∧ l.length * P.bytesOf e ≤ 140737488351232 ∧ ∀ x ∈ l, ok x) := by
  intro H enc W base held fuel cs y h hw
  rcases open_slice ht h with ⟨rfl, _⟩ | ⟨a, len, cap, m, n, D, Pl, rfl, hb, hl, hm, hmm, rfl, hx⟩
  · refine ⟨[], ⟨none, 0, rfl, Nat.le_refl _, ⟨rfl, by simp, fun h => absurd h (by simp)⟩⟩, by simp, by simp, by simp⟩
  · simp only [if_true] at hmm
    subst hmm
    have each : ∀ i, i < len → ∃ x : α, (∃ cs', W.cells? base (a.add (i * P.cellsOf e)) (P.cellsOf e) = some cs' ∧ d.K W x cs') ∧ ok x := by
      intro i hi
      obtain ⟨cs', h1, h2⟩ := hx i (by omega)
      have hmem : D i ∈ (List.range len).map D := List.mem_map.2 ⟨i, List.mem_range.2 hi, rfl⟩
      obtain ⟨x, hk, ho⟩ := he H enc W base held n cs' _ h2 (fun q hq => hw q (by
        simp only [DataW.weights, ht]
        exact List.mem_cons_of_mem _ (List.mem_append_left _ (weights_all hmem q hq))))
      exact ⟨x, ⟨cs', h1, hk⟩, ho⟩
    classical
    have each' : ∀ i : Fin len, ∃ x : α, (∃ cs', W.cells? base (a.add (i.val * P.cellsOf e)) (P.cellsOf e) = some cs' ∧ d.K W x cs') ∧ ok x := fun i => each i.val i.isLt
    have hw0 := hw ((((List.range len).map D).length + ((List.range (m - len)).map fun j => D (len + j)).length) * P.bytesOf e) (by simp only [DataW.weights, ht]; exact List.mem_cons_self)
    have hlen : (List.ofFn fun i => (each' i).choose).length = len := by simp
    refine ⟨List.ofFn fun i => (each' i).choose, ⟨some a, m, by rw [hlen], by rw [hlen]; exact hl, hlen.trans hlen.symm, by rw [hlen]; unfold maxLen at hm; omega, fun _ => ⟨a, rfl, fun j p hj => ?_⟩⟩, by rw [hlen]; exact Nat.le_trans hl hm, ?_, fun x hxm => ?_⟩
    · obtain ⟨hj1, hj2⟩ := List.getElem?_eq_some_iff.1 hj
      rw [hlen] at hj1
      have e1 : (each' ⟨j, hj1⟩).choose = p := by rw [← hj2]; simp
      obtain ⟨⟨cs', h1, h2⟩, _⟩ := (each' ⟨j, hj1⟩).choose_spec
      rw [e1] at h2
      obtain ⟨_, h3, h4⟩ := World.cells?_some h1
      refine ⟨cs', h3.trans hc, h2, fun i u hu => ?_⟩
      have hi : i < P.cellsOf e := by rw [← h3]; exact (List.getElem?_eq_some_iff.1 hu).1
      rw [← hc, ← Addr.add_add, h4 i hi, hu]
    · rw [hlen]
      refine Nat.le_trans ?_ hw0
      simp only [List.length_map, List.length_range]
      exact Nat.mul_le_mul_right _ (by omega)
    · obtain ⟨i, rfl⟩ := List.mem_ofFn.1 hxm
      exact (each' i).choose_spec.2
theorem op_arr {α : Type} {P : Program} {t e : TypeId} {n : Nat} {d : Kd α} {hs : 0 < d.sz} {ok : α → Prop} (ht : P.underlying t = some (.array n e)) (hc : P.cellsOf e = d.sz) (hct : P.cellsOf t = n * d.sz) (he : Op P e d ok) :
    Op P t (Kd.arr n d hs) (fun l => l.length = n ∧ ∀ x ∈ l, ok x) := by
  intro H enc W base held fuel cs y h hw
  cases fuel with
  | zero => simp [DataW.trod] at h
  | succ m =>
    unfold DataW.trod at h
    rw [ht] at h
    simp only at h
    split at h
    · rename_i hl
      simp only [Option.map_eq_some_iff] at h
      obtain ⟨xs, hxs, rfl⟩ := h
      have hlen : xs.length = n := by simpa using mapM_some_length hxs
      have each : ∀ i : Fin n, ∃ x : α, d.K W x ((cs.drop (i.val * P.cellsOf e)).take (P.cellsOf e)) ∧ ok x := by
        intro i
        have hg := mapM_some_get hxs i.val i.val (by simp [i.isLt])
        have hx : xs[i.val]? = some (xs[i.val]'(by omega)) := List.getElem?_eq_getElem (by omega)
        rw [hx] at hg
        refine he H enc W base held m _ _ hg (fun q hq => hw q ?_)
        simp only [DataW.weights, ht]
        exact weights_all (List.mem_map.2 ⟨_, List.getElem_mem (by omega), rfl⟩) q hq
      classical
      have hl2 : (List.ofFn fun i => (each i).choose).length = n := by simp
      refine ⟨List.ofFn fun i => (each i).choose, ⟨hl2, by rw [hl, hct, hl2], fun j p hj => ?_⟩, hl2, fun x hxm => ?_⟩
      · obtain ⟨hj1, hj2⟩ := List.getElem?_eq_some_iff.1 hj
        rw [hl2] at hj1
        have e1 : (each ⟨j, hj1⟩).choose = p := by rw [← hj2]; simp
        have := (each ⟨j, hj1⟩).choose_spec.1
        rw [e1, hc] at this
        exact this
      · obtain ⟨i, rfl⟩ := List.mem_ofFn.1 hxm
        exact (each i).choose_spec.2
    · cases h
/-- Fields in line, from a cell on. -/
def OpR {α : Type} (P : Program) (fs : List Field) (off : Nat) (d : Kd α) (ok : α → Prop) : Prop :=
  ∀ (H : Type) (enc : TypeId × Value → H) (W : World) (base : Nat) (held : Bool) (n : Nat) (cs : List Value) (xs : List (DataW H × List MemPlace)), cs.length = off + d.sz → xs.length = fs.length →
    (∀ (i : Nat) (f : Field), fs[i]? = some f → DataW.trod enc P W base (fun _ => true) held n f.type ((cs.drop f.offset).take (P.cellsOf f.type)) = xs[i]?) →
    (∀ q ∈ DataW.weightsEach P (fs.map (·.type)) (xs.map (·.1)), q ≤ reachBytes) → ∃ x, d.K W x (cs.drop off) ∧ ok x
theorem opr_one {α : Type} {P : Program} {f : Field} {off : Nat} {d : Kd α} {ok : α → Prop} (ho : f.offset = off) (hc : P.cellsOf f.type = d.sz) (he : Op P f.type d ok) : OpR P [f] off d ok := by
  intro H enc W base held n cs xs hl hx hg hw
  match xs, hx with
  | [x], _ =>
    have h0 := hg 0 f rfl
    have e1 : (cs.drop f.offset).take (P.cellsOf f.type) = cs.drop off := by rw [ho, hc, List.take_of_length_le (by rw [List.length_drop]; omega)]
    rw [e1] at h0
    exact he H enc W base held n _ x h0 (fun q hq => hw q (by simp only [List.map_cons, List.map_nil, DataW.weightsEach, List.mem_append]; exact .inl hq))
theorem opr_cons {α β : Type} {P : Program} {f : Field} {r : List Field} {off : Nat} {d : Kd α} {d' : Kd β} {ok : α → Prop} {ok' : β → Prop} (ho : f.offset = off) (hc : P.cellsOf f.type = d.sz) (he : Op P f.type d ok) (hr : OpR P r (off + d.sz) d' ok') :
    OpR P (f :: r) off (Kd.pair d d') (fun x => ok x.1 ∧ ok' x.2) := by
  intro H enc W base held n cs xs hl hx hg hw
  match xs, hx with
  | x :: xs, hx =>
    have h0 := hg 0 f rfl
    rw [ho, hc] at h0
    have hl' : cs.length = off + (d.sz + d'.sz) := hl
    obtain ⟨a, ha, oka⟩ := he H enc W base held n _ x h0 (fun q hq => hw q (by simp only [List.map_cons, DataW.weightsEach, List.mem_append]; exact .inl hq))
    obtain ⟨b, hb, okb⟩ := hr H enc W base held n cs xs (by omega) (by simpa using hx) (fun i f' hf => hg (i + 1) f' (by simpa using hf)) (fun q hq => hw q (by simp only [List.map_cons, DataW.weightsEach, List.mem_append]; exact .inr hq))
    refine ⟨(a, b), ⟨(cs.drop off).take d.sz, cs.drop (off + d.sz), ?_, ha, hb⟩, oka, okb⟩
    rw [← List.drop_drop, List.take_append_drop]
theorem op_struct {α : Type} {P : Program} {t : TypeId} {fs : Array Field} {d : Kd α} {ok : α → Prop} (ht : P.underlying t = some (.struct fs)) (hc : P.cellsOf t = d.sz) (hr : OpR P fs.toList 0 d ok) : Op P t d ok := by
  intro H enc W base held fuel cs y h hw
  obtain ⟨xs, n, _, rfl, hl, hx, hg⟩ := DataW.trod_struct ht h
  obtain ⟨x, hk, hok⟩ := hr H enc W base held n cs xs (by omega) (by simpa using hx) (fun i f hf => hg i f (by simpa using hf)) (fun q hq => hw q (by simp only [DataW.weights, ht]; exact hq))
  exact ⟨x, by simpa using hk, hok⟩
theorem op_iso {α β : Type} {P : Program} {t : TypeId} {d : Kd α} {f : β → α} {ok : α → Prop} (g : α → β) (hg : ∀ y, f (g y) = y) (h : Op P t d ok) : Op P t (Kd.iso d f) (fun x => ok (f x)) := by
  intro H enc W base held fuel cs y hy hw
  obtain ⟨x, hk, hok⟩ := h H enc W base held fuel cs y hy hw
  refine ⟨g x, ?_, ?_⟩
  · show d.K W (f (g x)) cs
    rw [hg]; exact hk
  · show ok (f (g x))
    rw [hg]; exact hok
/-- A slice that a law is handed. -/
theorem slice_of {α : Type} {P : Program} {H : Type} {enc : TypeId × Value → H} {W : World} {held : Bool} {t e : TypeId} {d : Kd α} {ok : α → Prop} {A : Option Addr} {len cap : Nat} {y : DataW H} {ps : List MemPlace} {ts : List TypeId} {ds : List (DataW H)} {j : Nat}
    (ht : P.underlying t = some (.slice e)) (hc : P.cellsOf e = d.sz) (he : Op P e d ok) (h : DataW.Trod enc P W 0 (fun _ => true) held t (.slice A len cap) y ps)
    (hsz : (DataW.weightsEach P ts ds).all (· ≤ reachBytes) = true) (htj : ts[j]? = some t) (hdj : ds[j]? = some y) :
    ∃ l : List α, len = l.length ∧ d.C W A l.length l ∧ l.length ≤ cap ∧ l.length ≤ maxLen ∧ l.length * P.bytesOf e ≤ 140737488351232 ∧ ∀ x ∈ l, ok x := by
  obtain ⟨fuel, hf⟩ := h
  obtain ⟨l, ⟨A', c', hcs, hl, hC⟩, h1, h2, h3⟩ := op_slice ht hc he H enc W 0 held fuel _ _ hf (fun n hn => by
    have := List.all_eq_true.1 hsz _ (DataW.weights_mem_each htj hdj n hn)
    simpa using this)
  simp [Value.cells] at hcs
  obtain ⟨rfl, rfl, rfl⟩ := hcs
  exact ⟨l, rfl, hC, hl, h1, h2, h3⟩
end Go.Proofs.YthehhbfiaaadgaaDoorW.Opens
