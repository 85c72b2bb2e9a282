-- Written by a program of the session (wip/tool/mk.py) out of the translation; Lean checks it.
import Derived.Test.YtniboafnkiijcaaDoorPx0
import Derived.Test.YtniboafnkiijcaaDoorPx1
namespace Go.Proofs.YtniboafnkiijcaaDoor.P
open Go.RowKit Go.Proofs.YtniboafnkiijcaaDoorW.PrintWords Go.Proofs.YtniboafnkiijcaaDoorW.PrintLast Go.Proofs.YtniboafnkiijcaaDoorW.PrintMore
attribute [local go_sem] max2_int min2_int max_two min_two max_three min_three max_four min_four   -- for this text's walks alone
set_option linter.unusedVariables false
set_option linter.unusedSimpArgs false

/-! ### ledger_line_may: function 51, a contract of my own -/
theorem ld_step {b : Nat} {w w1 w2 : World} (h : Below b w w1) (h2 : Below w1.heap.size w1 w2) (hb : b ≤ w.heap.size := by first | exact Nat.le_refl _ | omega) : Below b w w2 :=
  ⟨h2.os.trans h.os, h2.tape.trans h.tape, h2.output.trans h.output, Nat.le_trans h.size h2.size, fun j hj => (h2.block j (by have := h.size; omega)).trans (h.block j hj)⟩
/-- A line: a path, how it looked, its sum. -/
structure Ln where
  path : ByteArray
  ino : Int
  size : Int
  sec : Int
  nano : Int
  sum : ByteArray
def lnV (x : Ln) : Value := .agg #[.string x.path, .int .i64 x.ino, .int .i64 x.size, .int .i64 x.sec, .int .i64 x.nano, .string x.sum]
def wrongF (x : Ln) : Bool := decide (x.ino < 1) || decide (x.ino > 4611686018427387903) || decide (x.size < 0) || decide (x.size > 65536) || decide (x.sec < -1099511627776) || decide (x.sec > 1099511627776) || decide (x.nano < 0) || decide (x.nano > 999999999) || !(decide (x.sum.size = 32))
def mayF (x : Ln) : Int := if (!rightF x.path || x.path.toList.isEmpty) = true then 9 else if wrongF x = true then 2 else 0
theorem ln_cells {w : World} {g : Nat} {x : Ln} (h : w.heap[g]? = some (.cells #[.string x.path, .int .i64 x.ino, .int .i64 x.size, .int .i64 x.sec, .int .i64 x.nano, .string x.sum] 68 (0, 0))) :
    w.cell? ⟨g, 0, none⟩ = some (.string x.path) ∧ w.cell? ⟨g, 1, none⟩ = some (.int .i64 x.ino) ∧ w.cell? ⟨g, 2, none⟩ = some (.int .i64 x.size) ∧ w.cell? ⟨g, 3, none⟩ = some (.int .i64 x.sec) ∧ w.cell? ⟨g, 4, none⟩ = some (.int .i64 x.nano) ∧ w.cell? ⟨g, 5, none⟩ = some (.string x.sum) := by
  refine ⟨?_, ?_, ?_, ?_, ?_, ?_⟩ <;> rw [cell_of_row w g _ _ 68 (0, 0) h] <;> rfl
set_option maxHeartbeats 4000000 in
set_option maxRecDepth 20000 in
theorem line_may.at_ (x : Ln) (hp : x.path.size ≤ 1000000) (w : World) :
    Calls Tryd.prog 51 #[lnV x] w fun e w' => e = .returned (.int .i64 (mayF x)) ∧ Below w.heap.size w w' := by
  have HR := Aside0.mk (fun w => path_Right.at_ x.path hp w)
  obtain ⟨r, hr⟩ : ∃ r, mayF x = r := ⟨_, rfl⟩
  rw [hr]
  unfold mayF at hr
  obtain ⟨path, ino, size, sec, nano, sum⟩ := x
  dsimp only at HR hr hp
  have HRr := Aside0.mk hr
  unfold lnV
  dsimp only
  obtain ⟨w1, hw1⟩ : ∃ w1, w1 = w.alloc (.cells #[.string path, .int .i64 ino, .int .i64 size, .int .i64 sec, .int .i64 nano, .string sum] 68) := ⟨_, rfl⟩
  obtain ⟨g, hg⟩ : ∃ g, w.heap.size = g := ⟨_, rfl⟩
  have HG1 : Aside0 (w1.heap[g]? = some (.cells #[.string path, .int .i64 ino, .int .i64 size, .int .i64 sec, .int .i64 nano, .string sum] 68 (0, 0))) := ⟨by rw [hw1, ← hg]; exact blk_new w _⟩
  have HB1 : Aside0 (Below g w w1) := ⟨by rw [hw1, ← hg]; exact below_alloc (Below.refl _ _) _⟩
  have q0 := (ln_cells (x := ⟨path, ino, size, sec, nano, sum⟩) HG1.out).1
  clear hr hp
  go_enter Tryd.func51, Tryd.ntmps51
  go_wp2_with fail
  rw [← hw1]
  clear hw1
  go_wp2_with fail
  refine (HR.out w1).mono ?_
  rintro e w2 ⟨rfl, hb⟩
  have HB2 := Aside0.mk (ld_step HB1.out hb)
  have HG2 := Aside0.mk (blk_below HG1.out hb)
  obtain ⟨q0', q1, q2, q3, q4, q5⟩ := ln_cells (x := ⟨path, ino, size, sec, nano, sum⟩) HG2.out
  dsimp only at q0' q1 q2 q3 q4 q5
  clear hb q0 HG1 HB1
  have fin : ∀ z : Int, z = r → (Ending.returned (.int .i64 z) = Ending.returned (.int .i64 r) ∧ Below w.heap.size w w2) := fun z hz => ⟨by rw [hz], by rw [hg]; exact HB2.out⟩
  replace HRr := HRr.out
  cases hra : rightF path with
  | false =>
    rw [hra] at HRr
    go_wp2
    go_ret
    exact fin _ (by simpa using HRr)
  | true =>
  rw [hra] at HRr
  cases he : path.toList.isEmpty with
  | true =>
    rw [he] at HRr
    go_wp2
    go_ret
    exact fin _ (by simpa using HRr)
  | false =>
  rw [he] at HRr
  rw [if_neg (by decide)] at HRr
  unfold wrongF at HRr
  dsimp only at HRr
  cases k0 : decide (ino < 1) with
  | true =>
    have k' : decide (ino < 1) = true := k0
    rw [show (decide (ino < 1)) = true from k0] at HRr
    go_wp2
    go_ret
    exact fin _ (by simpa using HRr)
  | false =>
  have m0 : decide (ino < 1) = false := k0
  rw [show (decide (ino < 1)) = false from k0] at HRr
  cases k1 : decide (ino > 4611686018427387903) with
  | true =>
    have k' : decide (4611686018427387903 < ino) = true := k1
    rw [show (decide (ino > 4611686018427387903)) = true from k1] at HRr
    go_wp2
    go_ret
    exact fin _ (by simpa using HRr)
  | false =>
  have m1 : decide (4611686018427387903 < ino) = false := k1
  rw [show (decide (ino > 4611686018427387903)) = false from k1] at HRr
  cases k2 : decide (size < 0) with
  | true =>
    have k' : decide (size < 0) = true := k2
    rw [show (decide (size < 0)) = true from k2] at HRr
    go_wp2
    go_ret
    exact fin _ (by simpa using HRr)
  | false =>
  have m2 : decide (size < 0) = false := k2
  rw [show (decide (size < 0)) = false from k2] at HRr
  cases k3 : decide (size > 65536) with
  | true =>
    have k' : decide (65536 < size) = true := k3
    rw [show (decide (size > 65536)) = true from k3] at HRr
    go_wp2
    go_ret
    exact fin _ (by simpa using HRr)
  | false =>
  have m3 : decide (65536 < size) = false := k3
  rw [show (decide (size > 65536)) = false from k3] at HRr
  cases k4 : decide (sec < -1099511627776) with
  | true =>
    have k' : decide (sec < -1099511627776) = true := k4
    rw [show (decide (sec < -1099511627776)) = true from k4] at HRr
    go_wp2
    go_ret
    exact fin _ (by simpa using HRr)
  | false =>
  have m4 : decide (sec < -1099511627776) = false := k4
  rw [show (decide (sec < -1099511627776)) = false from k4] at HRr
  cases k5 : decide (sec > 1099511627776) with
  | true =>
    have k' : decide (1099511627776 < sec) = true := k5
    rw [show (decide (sec > 1099511627776)) = true from k5] at HRr
    go_wp2
    go_ret
    exact fin _ (by simpa using HRr)
  | false =>
  have m5 : decide (1099511627776 < sec) = false := k5
  rw [show (decide (sec > 1099511627776)) = false from k5] at HRr
  cases k6 : decide (nano < 0) with
  | true =>
    have k' : decide (nano < 0) = true := k6
    rw [show (decide (nano < 0)) = true from k6] at HRr
    go_wp2
    go_ret
    exact fin _ (by simpa using HRr)
  | false =>
  have m6 : decide (nano < 0) = false := k6
  rw [show (decide (nano < 0)) = false from k6] at HRr
  cases k7 : decide (nano > 999999999) with
  | true =>
    have k' : decide (999999999 < nano) = true := k7
    rw [show (decide (nano > 999999999)) = true from k7] at HRr
    go_wp2
    go_ret
    exact fin _ (by simpa using HRr)
  | false =>
  have m7 : decide (999999999 < nano) = false := k7
  rw [show (decide (nano > 999999999)) = false from k7] at HRr
  cases k8 : decide (sum.size = 32) with
  | false =>
    have k' : ((sum.size : Int) != 32) = true := by have := of_decide_eq_false k8; exact bne_iff_ne.mpr (by omega)
    rw [k8] at HRr
    go_wp2
    go_ret
    exact fin _ (by simpa using HRr)
  | true =>
    have k' : ((sum.size : Int) != 32) = false := by have := of_decide_eq_true k8; exact bne_eq_false_iff_eq.mpr (by omega)
    rw [k8] at HRr
    go_wp2
    go_ret
    exact fin _ (by simpa using HRr)
open Go.Maps in
theorem strs_keyed : Keyed Tryd.prog 9 := string_keyed Tryd.underlying9
def lnR : Value → Option (DataW Unit × List MemPlace)
  | .agg cs => match cs.toList with
    | [.string p, .int .i64 a, .int .i64 b, .int .i64 c, .int .i64 d, .string s] => some (.agg [.lit (.string p.data.toList), .lit (.int .i64 a), .lit (.int .i64 b), .lit (.int .i64 c), .lit (.int .i64 d), .lit (.string s.data.toList)], [])
    | _ => none
  | _ => none
def lnD (x : Ln) : DataW Unit := .agg [.lit (.string x.path.data.toList), .lit (.int .i64 x.ino), .lit (.int .i64 x.size), .lit (.int .i64 x.sec), .lit (.int .i64 x.nano), .lit (.string x.sum.data.toList)]
theorem lnR_lnV (x : Ln) : lnR (lnV x) = some (lnD x, []) := rfl
theorem ba_inj {a b : ByteArray} (h : a.data.toList = b.data.toList) : a = b := by
  cases a; cases b
  simp only [ByteArray.mk.injEq] at h ⊢
  exact Array.ext' h
instance ld_dec : DecidableEq ByteArray := fun a b => decidable_of_iff (a.data.toList = b.data.toList) ⟨ba_inj, fun h => by rw [h]⟩
theorem toList_inj {a b : ByteArray} : a.toList = b.toList ↔ a = b := by
  rw [ByteArray.toList_eq, ByteArray.toList_eq]
  exact ⟨ba_inj, fun h => by rw [h]⟩
theorem lnD_inj {x y : Ln} (h : lnD x = lnD y) : x = y := by
  unfold lnD at h
  simp only [DataW.agg.injEq, List.cons.injEq, DataW.lit.injEq, Lit.string.injEq, Lit.int.injEq, true_and, and_true] at h
  obtain ⟨h1, h2, h3, h4, h5, h6⟩ := h
  obtain ⟨p, a, b, c, d, s⟩ := x
  obtain ⟨p', a', b', c', d', s'⟩ := y
  dsimp only at *
  rw [ba_inj h1, h2, h3, h4, h5, ba_inj h6]
theorem lnR_inv {v : Value} {z : DataW Unit × List MemPlace} (h : lnR v = some z) : ∃ x, v = lnV x ∧ z = (lnD x, []) := by
  unfold lnR at h
  split at h
  · rename_i cs
    split at h
    · rename_i p a b c d s hc
      refine ⟨⟨p, a, b, c, d, s⟩, ?_, (Option.some.inj h).symm⟩
      unfold lnV
      congr 1
      apply Array.ext'
      rw [hc]
    · cases h
  · cases h
def kS (p : ByteArray) : Lit := .string p.data.toList
theorem kS_inj {p q : ByteArray} (h : kS p = kS q) : p = q := by
  unfold kS at h
  injection h with h
  exact ba_inj h
theorem kS_lit (p : ByteArray) : WideAt.IsKeyLit (kS p) := trivial
theorem kS_key {p : ByteArray} (h : p.size ≤ maxLen) : keyOf Tryd.prog 9 (.string p) = some (kS p) := WideMaps.keyOf_string_mk Tryd.underlying9 h
def paths (S : List Ln) : List ByteArray := S.map Ln.path
/-- The map holds the lines. -/
def MapOk (w : World) (mb n : Nat) (S : List Ln) : Prop := ∃ D : DataW Unit, w.ownsMap Tryd.prog 9 lnR mb n D ∧ Maps.IsMap D ∧ (∀ p, Maps.has D (kS p) = true ↔ p ∈ paths S) ∧ ∀ x ∈ S, ∀ z, D.atKey (kS x.path) z = lnD x
theorem lnZero (w : World) : (zeroValue 68).run Tryd.prog w = .ok (lnV ⟨⟨#[]⟩, 0, 0, 0, 0, ⟨#[]⟩⟩) w := by kernel_rfl
theorem MapOk.look {w : World} {mb n : Nat} {S : List Ln} (h : MapOk w mb n S) (p : ByteArray) (hp : p.size ≤ maxLen) :
    ∃ x b, (Instr.lookup 53 (.map (some mb)) (.string p) true).run Tryd.prog w = .ok (.tuple #[lnV x, .bool b]) w ∧ (b = true ↔ p ∈ paths S) ∧ ∀ y ∈ S, y.path = p → x = y := by
  obtain ⟨D, hown, hmap, hhas, hat⟩ := h
  obtain ⟨v, ps, hrun, hv⟩ := hown.look_ok strs_keyed Tryd.underlying53 (lnZero w) (lnR_lnV _) (kS_key hp)
  obtain ⟨x, rfl, hx⟩ := lnR_inv hv
  refine ⟨x, _, hrun, hhas p, fun y hy e => ?_⟩
  have h2 := hat y hy (lnD ⟨⟨#[]⟩, 0, 0, 0, 0, ⟨#[]⟩⟩)
  rw [e] at h2
  simp only [Prod.mk.injEq] at hx
  exact lnD_inj (hx.1.symm.trans h2)
theorem MapOk.del {w : World} {mb n : Nat} {S : List Ln} (h : MapOk w mb n S) (p : ByteArray) (hp : p.size ≤ maxLen) (ty : TypeId) :
    ∃ w', (Builtin.delete_ #[53, 9] ty #[.map (some mb), .string p]).run Tryd.prog w = .ok (.tuple #[]) w' ∧ MapOk w' mb n (S.filter fun x => decide (x.path ≠ p)) ∧ w.mapTurned w' mb := by
  obtain ⟨D, hown, hmap, hhas, hat⟩ := h
  obtain ⟨w', hrun, hown', ht⟩ := hown.drop strs_keyed Tryd.underlying53 (kS_key hp) ty
  refine ⟨w', hrun, ⟨_, hown', hmap.del _, fun q => ?_, fun x hx z => ?_⟩, ht⟩
  · have hmem : q ∈ paths (S.filter fun x => decide (x.path ≠ p)) ↔ q ∈ paths S ∧ q ≠ p := by
      unfold paths
      constructor
      · intro h
        obtain ⟨x, hx, rfl⟩ := List.mem_map.1 h
        obtain ⟨h1, h2⟩ := List.mem_filter.1 hx
        exact ⟨List.mem_map.2 ⟨x, h1, rfl⟩, by simpa using h2⟩
      · rintro ⟨h, hne⟩
        obtain ⟨x, hx, rfl⟩ := List.mem_map.1 h
        exact List.mem_map.2 ⟨x, List.mem_filter.2 ⟨hx, by simpa using hne⟩, rfl⟩
    rw [hmem]
    by_cases e : q = p
    · subst e
      rw [Maps.has_del_same]
      simp
    · rw [Maps.has_del_other (fun h => e (kS_inj h)), hhas q]
      exact ⟨fun h => ⟨h, e⟩, fun h => h.1⟩
  · obtain ⟨h1, h2⟩ := List.mem_filter.1 hx
    have h3 : x.path ≠ p := by simpa using h2
    rw [Maps.atKey_del_other (fun h => h3 (kS_inj h))]
    exact hat x h1 z
theorem MapOk.store {w : World} {mb n : Nat} {S : List Ln} (h : MapOk w mb n S) (x : Ln) (hp : x.path.size ≤ maxLen) (hn : n < maxLen) (hx : x.path ∉ paths S) :
    ∃ w', (Instr.mapUpdate 53 (.map (some mb)) (.string x.path) (lnV x)).run Tryd.prog w = .ok () w' ∧ MapOk w' mb (n + 1) (S ++ [x]) ∧ w.mapTurned w' mb := by
  obtain ⟨D, hown, hmap, hhas, hat⟩ := h
  obtain ⟨w', hrun, hown', ht⟩ := hown.store strs_keyed Tryd.underlying53 hn (kS_key hp) (lnR_lnV x)
  refine ⟨w', hrun, ⟨_, hown', hmap.put _ _, fun q => ?_, fun y hy z => ?_⟩, ht⟩
  · have hp2 : paths (S ++ [x]) = paths S ++ [x.path] := by unfold paths; rw [List.map_append]; rfl
    rw [hp2]
    by_cases e : q = x.path
    · rw [e, Maps.has_put_same hmap (kS_lit _)]
      simp
    · rw [Maps.has_put_other (fun h => e (kS_inj h)), hhas q]
      simp [e]
  · rcases List.mem_append.1 hy with hy | hy
    · have e : y.path ≠ x.path := fun h => hx (by rw [← h]; exact List.mem_map.2 ⟨y, hy, rfl⟩)
      rw [Maps.atKey_put_other (fun h => e (kS_inj h))]
      exact hat y hy z
    · simp only [List.mem_singleton] at hy
      subst hy
      exact Maps.atKey_put_same hmap (kS_lit _) _ _
theorem MapOk.kept {w w' : World} {mb n : Nat} {S : List Ln} {row : Option Nat} (h : MapOk w mb n S) (hg : w.grownBy w' row) (hne : some mb ≠ row) : MapOk w' mb n S := by
  obtain ⟨D, hown, h2⟩ := h
  exact ⟨D, hown.kept hg hne, h2⟩
theorem MapOk.below {w w' : World} {mb n : Nat} {S : List Ln} (h : MapOk w mb n S) (hb : Below w.heap.size w w') : MapOk w' mb n S := by
  obtain ⟨D, hown, h2⟩ := h
  exact ⟨D, hown.kept (row := none) ⟨hb.os, hb.tape, hb.output, hb.size, fun i hi _ => hb.block i hi⟩ (by simp), h2⟩
theorem MapOk.setCell {w : World} {mb n : Nat} {S : List Ln} (h : MapOk w mb n S) {a : Addr} (ha : mb ≠ a.block) (u : Value) : MapOk (w.setCell a u) mb n S := by
  obtain ⟨D, hown, h2⟩ := h
  exact ⟨D, hown.setCell ha u, h2⟩
theorem MapOk.made (w : World) : MapOk (w.alloc (.map #[] 0)) w.heap.size 0 [] :=
  ⟨_, World.ownsMap_made _ _ _ _, Maps.isMap_empty, fun p => by show false = true ↔ p ∈ []; simp, fun x hx => by cases hx⟩
theorem MapOk.lt {w : World} {mb n : Nat} {S : List Ln} (h : MapOk w mb n S) : mb < w.heap.size := by
  obtain ⟨D, hown, _⟩ := h
  exact hown.lt
/-- The rows in memory: at p from offset o on, the names and the map. -/
structure Rw (b0 p : Nat) (mb n : Nat) (pre : List Value) (ty : Nat) (v : Value) (S : List Ln) (w : World) : Prop where
  hP : w.heap[p]? = some (.cells (pre ++ [v, .map (some mb)]).toArray ty (0, 0))
  hM : MapOk w mb n S
  hR : Kd.R Kd.string 9 w b0 (fun j => j ≠ p ∧ j ≠ mb) v (paths S)
  hN : (paths S).Nodup
  hne : mb ≠ p
  hp0 : b0 ≤ p
  hm0 : b0 ≤ mb
theorem Rw.below {b0 p mb n : Nat} {pre : List Value} {ty : Nat} {v : Value} {S : List Ln} {w w' : World} (h : Rw b0 p mb n pre ty v S w) (hb : Below w.heap.size w w') : Rw b0 p mb n pre ty v S w' :=
  ⟨blk_below h.hP hb, h.hM.below hb, Kd.R_below h.hR hb, h.hN, h.hne, h.hp0, h.hm0⟩
/-- All is as it was but the blocks p and mb; more blocks may be there. -/
structure Bm (p mb : Nat) (w w' : World) : Prop where
  os : w'.os = w.os
  tape : w'.tape = w.tape
  output : w'.output = w.output
  size : w.heap.size ≤ w'.heap.size
  block : ∀ j, j < w.heap.size → j ≠ p → j ≠ mb → w'.heap[j]? = w.heap[j]?
theorem Bm.refl (p mb : Nat) (w : World) : Bm p mb w w := ⟨rfl, rfl, rfl, Nat.le_refl _, fun _ _ _ _ => rfl⟩
theorem Bm.trans {p mb : Nat} {w w1 w2 : World} (h : Bm p mb w w1) (h2 : Bm p mb w1 w2) : Bm p mb w w2 :=
  ⟨h2.os.trans h.os, h2.tape.trans h.tape, h2.output.trans h.output, Nat.le_trans h.size h2.size, fun j hj a b => (h2.block j (Nat.lt_of_lt_of_le hj h.size) a b).trans (h.block j hj a b)⟩
theorem Bm.below {p mb : Nat} {w w1 w2 : World} (h : Bm p mb w w1) (h2 : Below w1.heap.size w1 w2) : Bm p mb w w2 :=
  h.trans ⟨h2.os, h2.tape, h2.output, h2.size, fun j hj _ _ => h2.block j hj⟩
theorem Bm.below' {p mb k0 : Nat} {w w1 w2 : World} (h : Bm p mb w w1) (h2 : Below k0 w1 w2) (hk : w.heap.size = k0) : Bm p mb w w2 :=
  ⟨h2.os.trans h.os, h2.tape.trans h.tape, h2.output.trans h.output, Nat.le_trans h.size h2.size, fun j hj a b => (h2.block j (by omega)).trans (h.block j hj a b)⟩
theorem R_bm {w w' : World} {p mb b0 : Nat} {v : Value} {xs : List ByteArray} (h : Kd.R Kd.string 9 w b0 (fun j => j ≠ p ∧ j ≠ mb) v xs) (hb : Bm p mb w w') : Kd.R Kd.string 9 w' b0 (fun j => j ≠ p ∧ j ≠ mb) v xs :=
  Kd.R_step h (fun j ho hk => hb.block j hk ho.1 ho.2)
theorem Bm.turned {p mb : Nat} {w w1 w2 : World} (h : Bm p mb w w1) (h2 : w1.mapTurned w2 mb) : Bm p mb w w2 :=
  h.trans ⟨h2.grown.os, h2.grown.tape, h2.grown.output, h2.grown.size, fun j hj _ b => h2.grown.block j hj (by simpa using b)⟩
theorem Bm.setCell {p mb : Nat} {w w1 : World} (h : Bm p mb w w1) (i : Nat) (u : Value) : Bm p mb w (w1.setCell ⟨p, i, none⟩ u) :=
  h.trans ⟨rfl, rfl, rfl, by simp [World.setCell], fun j hj a _ => Below.heap_setCell w1 ⟨p, i, none⟩ u j a⟩
theorem Bm.to {p mb b : Nat} {w0 w w' : World} (h : Bm p mb w w') (h0 : Below b w0 w) (hb : b ≤ w0.heap.size) (hp : b ≤ p) (hm : b ≤ mb) : Below b w0 w' :=
  ⟨h.os.trans h0.os, h.tape.trans h0.tape, h.output.trans h0.output, Nat.le_trans h0.size h.size, fun j hj => (h.block j (by have := h0.size; omega) (by omega) (by omega)).trans (h0.block j hj)⟩
theorem Bm.blk {p mb g : Nat} {w w' : World} {o : Obj} (h : Bm p mb w w') (hg : w.heap[g]? = some o) (hp : g ≠ p) (hm : g ≠ mb) : w'.heap[g]? = some o := (h.block g (blk_lt hg) hp hm).trans hg
/-- The lines that are left when the first i have been looked at. -/
def leftS (pr : ByteArray → Bool) (S : List Ln) (i : Nat) : List Ln := (S.take i).filter (fun x => !pr x.path) ++ S.drop i
theorem leftS_zero (pr : ByteArray → Bool) (S : List Ln) : leftS pr S 0 = S := rfl
theorem leftS_end (pr : ByteArray → Bool) (S : List Ln) (i : Nat) (h : S.length ≤ i) : leftS pr S i = S.filter (fun x => !pr x.path) := by
  unfold leftS
  rw [List.take_of_length_le h, List.drop_eq_nil_of_le h, List.append_nil]
theorem leftS_keep (pr : ByteArray → Bool) (S : List Ln) (i : Nat) (x : Ln) (hx : S[i]? = some x) (h : pr x.path = false) : leftS pr S (i + 1) = leftS pr S i := by
  obtain ⟨hi, e⟩ := List.getElem?_eq_some_iff.1 hx
  unfold leftS
  rw [List.take_add_one, hx, List.filter_append, List.drop_eq_getElem_cons hi, e]
  simp [h]
theorem leftS_drop (pr : ByteArray → Bool) (S : List Ln) (i : Nat) (x : Ln) (hn : (paths S).Nodup) (hx : S[i]? = some x) (h : pr x.path = true) :
    (leftS pr S i).filter (fun y => decide (y.path ≠ x.path)) = leftS pr S (i + 1) := by
  obtain ⟨hi, e⟩ := List.getElem?_eq_some_iff.1 hx
  have hsplit : S = S.take i ++ x :: S.drop (i + 1) := by
    rw [← e, ← List.drop_eq_getElem_cons hi, List.take_append_drop]
  have hn2 : (paths (S.take i) ++ x.path :: paths (S.drop (i + 1))).Nodup := by
    have : paths S = paths (S.take i) ++ x.path :: paths (S.drop (i + 1)) := by
      conv => lhs; rw [hsplit]
      unfold paths
      rw [List.map_append, List.map_cons]
    rw [← this]; exact hn
  have hd := List.nodup_append.1 hn2
  have ha : ∀ y ∈ S.take i, y.path ≠ x.path := fun y hy => hd.2.2 y.path (List.mem_map.2 ⟨y, hy, rfl⟩) x.path List.mem_cons_self
  have hb : ∀ y ∈ S.drop (i + 1), y.path ≠ x.path := fun y hy e2 => (List.nodup_cons.1 hd.2.1).1 (by rw [← e2]; exact List.mem_map.2 ⟨y, hy, rfl⟩)
  unfold leftS
  rw [List.filter_append, List.drop_eq_getElem_cons hi, e, List.filter_cons, if_neg (by simp), List.take_add_one, hx, List.filter_append]
  have e1 : ((S.take i).filter fun x => !pr x.path).filter (fun y => decide (y.path ≠ x.path)) = (S.take i).filter fun x => !pr x.path := by
    rw [List.filter_eq_self]
    intro y hy
    simpa using ha y (List.mem_filter.1 hy).1
  have e2 : (S.drop (i + 1)).filter (fun y => decide (y.path ≠ x.path)) = S.drop (i + 1) := by
    rw [List.filter_eq_self]
    intro y hy
    simpa using hb y hy
  rw [e1, e2]
  simp [h]
theorem rw_cells {w : World} {p : Nat} {u v m : Value} {ty : Nat} (h : w.heap[p]? = some (.cells #[u, v, m] ty (0, 0))) : w.cell? ⟨p, 0, none⟩ = some u ∧ w.cell? ⟨p, 1, none⟩ = some v ∧ w.cell? ⟨p, 2, none⟩ = some m := by
  refine ⟨?_, ?_, ?_⟩ <;> rw [cell_of_row w p _ _ ty (0, 0) h] <;> rfl
/-- The ledger in memory. -/
structure Lg (b0 p mb n : Nat) (room : Int) (v : Value) (S : List Ln) (w : World) : Prop where
  hP : w.heap[p]? = some (.cells #[.int .i64 room, v, .map (some mb)] 57 (0, 0))
  hM : MapOk w mb n S
  hR : Kd.R Kd.string 9 w b0 (fun j => j ≠ p ∧ j ≠ mb) v (paths S)
  hN : (paths S).Nodup
  hz : ∀ x ∈ S, x.path.size ≤ 1000000
  hne : mb ≠ p
  hp0 : b0 ≤ p
  hm0 : b0 ≤ mb
  hl : S.length ≤ 1000000
theorem Lg.below {b0 p mb n : Nat} {room : Int} {v : Value} {S : List Ln} {w w' : World} (h : Lg b0 p mb n room v S w) (hb : Below w.heap.size w w') : Lg b0 p mb n room v S w' :=
  ⟨blk_below h.hP hb, h.hM.below hb, Kd.R_below h.hR hb, h.hN, h.hz, h.hne, h.hp0, h.hm0, h.hl⟩
def outS (pr : ByteArray → Bool) (S : List Ln) : List Ln := S.filter (fun x => !pr x.path)
theorem paths_outS (pr : ByteArray → Bool) (S : List Ln) : paths (outS pr S) = (paths S).filter (fun q => !pr q) := by
  unfold outS paths
  rw [List.filter_map]
  rfl
theorem outS_nodup (pr : ByteArray → Bool) (S : List Ln) (h : (paths S).Nodup) : (paths (outS pr S)).Nodup := by
  rw [paths_outS]
  exact h.filter _
set_option maxHeartbeats 8000000 in
set_option maxRecDepth 20000 in
theorem row_out.last (b0 p mb n g : Nat) (c : ByteArray) (pr : ByteArray → Bool) (room : Int) (v : Value) (S : List Ln) (w : World) (h : Lg b0 p mb n room v S w) (hg : w.heap[g]? = some (.cells #[.string c] 9 (0, 0))) (hgp : g ≠ p) (hgm : g ≠ mb)
    (hw : ∀ (w1 : World) (s : ByteArray), w1.heap[g]? = some (.cells #[.string c] 9 (0, 0)) → s.size ≤ 1000000 → Calls Tryd.prog 66 #[.string s, .pointer (some ⟨g, 0, none⟩)] w1 fun e w' => e = .returned (.bool (pr s)) ∧ Below w1.heap.size w1 w') :
    Calls Tryd.prog 52 #[.pointer (some ⟨p, 1, none⟩), .func (.func 66) #[] #[.pointer (some ⟨g, 0, none⟩)]] w fun e w' => e = .returned (.int .i64 ((S.length : Int) - (outS pr S).length)) ∧ ∃ v', Lg b0 p mb n room v' (outS pr S) w' ∧ Bm p mb w w' ∧ ∀ j, v'.ownBlock = some j → w.heap.size ≤ j := by
  obtain ⟨A, c0, rfl, hc, hC⟩ := Kd.R_reads h.hR
  obtain ⟨m, hm⟩ : ∃ m, m = (paths S).length := ⟨_, rfl⟩
  rw [← hm] at h hC
  have hmS : m = S.length := by rw [hm]; unfold paths; rw [List.length_map]
  have HM := Aside0.mk (And.intro hm hmS)
  have HL := Aside0.mk h
  have HC := Aside0.mk hC
  have HG := Aside0.mk (And.intro hg (And.intro hgp hgm))
  have HW := Aside0.mk hw
  obtain ⟨k0, hk0⟩ : ∃ k0, w.heap.size = k0 := ⟨_, rfl⟩
  have HK := Aside0.mk hk0
  have HLT : Aside0 (p < k0 ∧ mb < k0 ∧ g < k0) := ⟨by rw [← hk0]; exact ⟨blk_lt h.hP, h.hM.lt, blk_lt hg⟩⟩
  have q1 := (rw_cells h.hP).2.1
  have HBI := Aside0.mk (Kd.R_base h.hR)
  clear h hg hgp hgm hw hC hm hmS hc
  go_enter Tryd.func52, Tryd.ntmps52
  go_wp2
  go_loopg [5, 7, 14] m (fun gg v5 v7 v14 w' => ∃ i : Nat, gg = m - i ∧ v14 = .int .i64 i ∧ Aside0 (i ≤ m) ∧ Aside0 (Bm p mb w w') ∧ Aside0 (w'.heap[p]? = some (.cells #[.int .i64 room, .slice A m c0, .map (some mb)] 57 (0, 0))) ∧ Aside0 (MapOk w' mb n (leftS pr S i)) ∧ Aside0 (Kd.R Kd.string 9 w' k0 (fun j => j ≠ p ∧ j ≠ mb) v5 (((paths S).take i).filter (fun q => !pr q))))
  case atStart => exact ⟨0, rfl, rfl, ⟨Nat.zero_le _⟩, ⟨Bm.refl _ _ _⟩, ⟨HL.out.hP⟩, ⟨HL.out.hM⟩, ⟨Kd.R_nil _ _ _ _ _⟩⟩
  case round =>
    clear q1
    obtain ⟨i, rfl, rfl, HI, HB, HP, HMP, HR⟩ := hrel
    have q1 := (rw_cells HP.out).2.1
    have q2 := (rw_cells HP.out).2.2
    by_cases c1 : i < m
    · have e1 : decide ((i : Int) < (m : Int)) = true := decide_eq_true (by omega)
      have e1' : decide (i < m) = true := decide_eq_true c1
      have e1n : (i < m) = True := eq_true c1
      have e1i : ((i : Int) < (m : Int)) = True := eq_true (by omega)
      have hi0 : (0 ≤ (i : Int)) = True := eq_true (by omega)
      have hi0' : decide (0 ≤ (i : Int)) = true := decide_eq_true (by omega)
      have HRN := Aside0.mk (R_bm HL.out.hR HB.out)
      have hCw := (Kd.R_reads' HRN.out).2.2
      obtain ⟨ad, x, rfl, hx, hcell⟩ := str_at hCw i (by have := HM.out; omega)
      obtain ⟨ln, hln, hlp⟩ : ∃ ln, S[i]? = some ln ∧ ln.path = x := by
        unfold paths at hx
        rw [List.getElem?_map] at hx
        cases hs : S[i]? with
        | none => rw [hs] at hx; cases hx
        | some ln => rw [hs] at hx; exact ⟨ln, rfl, Option.some.inj hx⟩
      have HX := Aside0.mk (And.intro hx (And.intro hln hlp))
      have HXs : Aside0 (x.size ≤ 1000000) := ⟨by rw [← hlp]; exact HL.out.hz ln (List.mem_of_getElem? hln)⟩
      have C1 := Aside0.mk c1
      have hadd : wrap64 ((i : Int) + 1) = ((i + 1 : Nat) : Int) := by have := HM.out; have := HL.out.hl; unfold wrap64; omega
      have HGr := Aside0.mk (HB.out.blk HG.out.1 HG.out.2.1 HG.out.2.2)
      have hmt : m - i = m - (i + 1) + 1 := by omega
      clear hx c1 hCw hln hlp
      go_wp2_with fail
      refine (HW.out wr x HGr.out HXs.out).mono ?_
      rintro e w2 ⟨rfl, hb⟩
      have HB2 := Aside0.mk (HB.out.below hb)
      have HP2 := Aside0.mk (blk_below HP.out hb)
      have HM2 := Aside0.mk (HMP.out.below hb)
      have HR2 := Aside0.mk (Kd.R_below HR.out hb)
      have q3 := (rw_cells HP2.out).2.2
      clear hb q1 q2 HB HP HMP HR HRN hcell HGr
      cases hpr : pr x with
      | true =>
        obtain ⟨w3, hrun, hM3, ht⟩ := HM2.out.del x (by have := HXs.out; unfold maxLen; omega) 0
        have HR3 := Aside0.mk (Kd.R_grown HR2.out ht.grown (fun j hj => by simpa using hj.2))
        have HP3 := Aside0.mk ((ht.grown.block p (blk_lt HP2.out) (by have := HL.out.hne; simpa using Ne.symm this)).trans HP2.out)
        have HB3 := Aside0.mk (HB2.out.turned ht)
        have HM3 : Aside0 (MapOk w3 mb n (leftS pr S (i + 1))) := ⟨by
          have e := leftS_drop pr S i ln HL.out.hN HX.out.2.1 (by rw [HX.out.2.2]; exact hpr)
          rw [HX.out.2.2] at e
          rw [← e]; exact hM3⟩
        have HPR := Aside0.mk hpr
        clear hM3 ht HR2 HP2 HM2 HB2 hpr
        go_wp2
        go_roundg (m - (i + 1))
        case measure => have := C1.out; omega
        case rel =>
          refine ⟨i + 1, rfl, by first | rfl | rw [hadd], ⟨by have := C1.out; omega⟩, HB3, HP3, HM3, ⟨?_⟩⟩
          rw [List.take_add_one, HX.out.1, List.filter_append]
          simpa [HPR.out] using HR3.out
      | false =>
        have HM3 : Aside0 (MapOk w2 mb n (leftS pr S (i + 1))) := ⟨by rw [leftS_keep pr S i _ HX.out.2.1 (by rw [HX.out.2.2]; exact hpr)]; exact HM2.out⟩
        have HPR := Aside0.mk hpr
        have HLL : Aside0 (((((paths S).take i).filter (fun q => !pr q)).length + 1) * 16 ≤ 140737488355328) := ⟨by
          have := List.length_filter_le (fun q => !pr q) ((paths S).take i)
          rw [List.length_take] at this
          have := HM.out; have := HL.out.hl; omega⟩
        have HK2 : Aside0 (k0 ≤ w2.heap.size) := ⟨by have := HB2.out.size; rw [HK.out] at this; exact this⟩
        clear hpr HM2
        go_wp2_with (first | ((with_reducible refine gate_builtin (b := .append) (xs := #[.tmp 26, .tmp 28]) rfl ?_); at_builtin; refine Kd.R_append Kd.string (w0 := w2) k0 rfl (.tmp 26) (.tmp 28) 46 9 (.string ⟨#[]⟩) 16 rfl Tryd.underlying46 ld_info9 rfl (by decide) (by omega) u5 (((paths S).take i).filter (fun q => !pr q)) x [.string x] (fun j => j ≠ p ∧ j ≠ mb) (fun _ => False) rfl rfl rfl (fun _ hk => hk.elim) (fun j hj => by have := HLT.out; have := HK2.out; omega) HR2.out (Below.refl _ _) HK2.out HLL.out ?_; intro v9 w9 ho9 hb9 hg9 ha9; clear ha9))
        have HR9 := Aside0.mk ho9
        have HB9 := Aside0.mk (HB2.out.below' hb9 HK.out)
        have HP9 := Aside0.mk ((hb9.block p HLT.out.1).trans HP2.out)
        have HM9 := Aside0.mk (HM3.out.kept hg9 (fun e => (HR2.out.1 mb e.symm).2 rfl))
        clear ho9 hb9 hg9 HR2 HP2 HB2 HM3
        go_wp2
        go_roundg (m - (i + 1))
        case measure => have := C1.out; omega
        case rel =>
          refine ⟨i + 1, rfl, by first | rfl | rw [hadd], ⟨by have := C1.out; omega⟩, HB9, HP9, HM9, ⟨?_⟩⟩
          rw [List.take_add_one, HX.out.1, List.filter_append]
          simpa [HPR.out] using HR9.out
    · have e1 : decide ((i : Int) < (m : Int)) = false := decide_eq_false (by omega)
      have e1' : decide (i < m) = false := decide_eq_false c1
      have e1n : (i < m) = False := eq_false c1
      have e1i : ((i : Int) < (m : Int)) = False := eq_false (by omega)
      have HR1 := HR
      rw [List.take_of_length_le (by have := HM.out; omega), ← paths_outS] at HR1
      have HM1 := HMP
      rw [leftS_end pr S i (by have := HM.out; omega)] at HM1
      obtain ⟨A2, c2, rfl⟩ := Kd.R_slice HR1.out
      obtain ⟨m2, hm2⟩ : ∃ m2, m2 = (paths (outS pr S)).length := ⟨_, rfl⟩
      rw [← hm2] at HR1
      rw [← hm2]
      have hsub : wrap64 ((m : Int) - (m2 : Int)) = (m : Int) - (m2 : Int) := by
        have h1 := List.length_filter_le (fun x => !pr x.path) S
        have h2 : m2 = (outS pr S).length := by rw [hm2]; unfold paths; rw [List.length_map]
        unfold outS at h2
        have := HM.out; have := HL.out.hl; unfold wrap64; omega
      have HM2e := Aside0.mk hm2
      have f1 := blk_frozen HP.out 1
      have HP5 := Aside0.mk (blk_set HP.out 1 (.slice A2 m2 c2))
      clear c1 HR HMP hm2
      go_wp2
      go_ret
      have hml : (outS pr S).length = m2 := by rw [HM2e.out]; unfold paths; rw [List.length_map]
      have hK := HK.out
      have hLT := HLT.out
      refine ⟨by show Ending.returned (.int .i64 (wrap64 ((m : Int) - (m2 : Int)))) = _; rw [hsub, ← HM.out.2, hml], _, ⟨HP5.out, HM1.out.setCell HL.out.hne _, ?_, outS_nodup pr S HL.out.hN, fun x hx => HL.out.hz x (List.mem_filter.1 hx).1, HL.out.hne, HL.out.hp0, HL.out.hm0, ?_⟩, HB.out.setCell 1 _, fun j hj => by rw [hK]; exact Kd.R_base HR1.out j hj⟩
      · exact Kd.R_far (Kd.R_lower HR1.out (by have := HL.out.hp0; omega)) (p := ⟨p, 1, none⟩) (fun j hj => hj.1) _
      · have h1 := List.length_filter_le (fun x => !pr x.path) S
        have := HL.out.hl
        unfold outS; omega
set_option maxHeartbeats 8000000 in
set_option maxRecDepth 20000 in
theorem row_out.tell (b0 p mb n g : Nat) (c : ByteArray) (pr : ByteArray → Bool) (room : Int) (v : Value) (S : List Ln) (w : World) (h : Lg b0 p mb n room v S w) (hg : w.heap[g]? = some (.cells #[.string c] 9 (0, 0))) (hgp : g ≠ p) (hgm : g ≠ mb)
    (hw : ∀ (w1 : World) (s : ByteArray), w1.heap[g]? = some (.cells #[.string c] 9 (0, 0)) → s.size ≤ 1000000 → Calls Tryd.prog 53 #[.string s, .pointer (some ⟨g, 0, none⟩)] w1 fun e w' => e = .returned (.bool (pr s)) ∧ Below w1.heap.size w1 w') :
    Calls Tryd.prog 52 #[.pointer (some ⟨p, 1, none⟩), .func (.func 53) #[] #[.pointer (some ⟨g, 0, none⟩)]] w fun e w' => e = .returned (.int .i64 ((S.length : Int) - (outS pr S).length)) ∧ ∃ v', Lg b0 p mb n room v' (outS pr S) w' ∧ Bm p mb w w' ∧ ∀ j, v'.ownBlock = some j → w.heap.size ≤ j := by
  obtain ⟨A, c0, rfl, hc, hC⟩ := Kd.R_reads h.hR
  obtain ⟨m, hm⟩ : ∃ m, m = (paths S).length := ⟨_, rfl⟩
  rw [← hm] at h hC
  have hmS : m = S.length := by rw [hm]; unfold paths; rw [List.length_map]
  have HM := Aside0.mk (And.intro hm hmS)
  have HL := Aside0.mk h
  have HC := Aside0.mk hC
  have HG := Aside0.mk (And.intro hg (And.intro hgp hgm))
  have HW := Aside0.mk hw
  obtain ⟨k0, hk0⟩ : ∃ k0, w.heap.size = k0 := ⟨_, rfl⟩
  have HK := Aside0.mk hk0
  have HLT : Aside0 (p < k0 ∧ mb < k0 ∧ g < k0) := ⟨by rw [← hk0]; exact ⟨blk_lt h.hP, h.hM.lt, blk_lt hg⟩⟩
  have q1 := (rw_cells h.hP).2.1
  have HBI := Aside0.mk (Kd.R_base h.hR)
  clear h hg hgp hgm hw hC hm hmS hc
  go_enter Tryd.func52, Tryd.ntmps52
  go_wp2
  go_loopg [5, 7, 14] m (fun gg v5 v7 v14 w' => ∃ i : Nat, gg = m - i ∧ v14 = .int .i64 i ∧ Aside0 (i ≤ m) ∧ Aside0 (Bm p mb w w') ∧ Aside0 (w'.heap[p]? = some (.cells #[.int .i64 room, .slice A m c0, .map (some mb)] 57 (0, 0))) ∧ Aside0 (MapOk w' mb n (leftS pr S i)) ∧ Aside0 (Kd.R Kd.string 9 w' k0 (fun j => j ≠ p ∧ j ≠ mb) v5 (((paths S).take i).filter (fun q => !pr q))))
  case atStart => exact ⟨0, rfl, rfl, ⟨Nat.zero_le _⟩, ⟨Bm.refl _ _ _⟩, ⟨HL.out.hP⟩, ⟨HL.out.hM⟩, ⟨Kd.R_nil _ _ _ _ _⟩⟩
  case round =>
    clear q1
    obtain ⟨i, rfl, rfl, HI, HB, HP, HMP, HR⟩ := hrel
    have q1 := (rw_cells HP.out).2.1
    have q2 := (rw_cells HP.out).2.2
    by_cases c1 : i < m
    · have e1 : decide ((i : Int) < (m : Int)) = true := decide_eq_true (by omega)
      have e1' : decide (i < m) = true := decide_eq_true c1
      have e1n : (i < m) = True := eq_true c1
      have e1i : ((i : Int) < (m : Int)) = True := eq_true (by omega)
      have hi0 : (0 ≤ (i : Int)) = True := eq_true (by omega)
      have hi0' : decide (0 ≤ (i : Int)) = true := decide_eq_true (by omega)
      have HRN := Aside0.mk (R_bm HL.out.hR HB.out)
      have hCw := (Kd.R_reads' HRN.out).2.2
      obtain ⟨ad, x, rfl, hx, hcell⟩ := str_at hCw i (by have := HM.out; omega)
      obtain ⟨ln, hln, hlp⟩ : ∃ ln, S[i]? = some ln ∧ ln.path = x := by
        unfold paths at hx
        rw [List.getElem?_map] at hx
        cases hs : S[i]? with
        | none => rw [hs] at hx; cases hx
        | some ln => rw [hs] at hx; exact ⟨ln, rfl, Option.some.inj hx⟩
      have HX := Aside0.mk (And.intro hx (And.intro hln hlp))
      have HXs : Aside0 (x.size ≤ 1000000) := ⟨by rw [← hlp]; exact HL.out.hz ln (List.mem_of_getElem? hln)⟩
      have C1 := Aside0.mk c1
      have hadd : wrap64 ((i : Int) + 1) = ((i + 1 : Nat) : Int) := by have := HM.out; have := HL.out.hl; unfold wrap64; omega
      have HGr := Aside0.mk (HB.out.blk HG.out.1 HG.out.2.1 HG.out.2.2)
      have hmt : m - i = m - (i + 1) + 1 := by omega
      clear hx c1 hCw hln hlp
      go_wp2_with fail
      refine (HW.out wr x HGr.out HXs.out).mono ?_
      rintro e w2 ⟨rfl, hb⟩
      have HB2 := Aside0.mk (HB.out.below hb)
      have HP2 := Aside0.mk (blk_below HP.out hb)
      have HM2 := Aside0.mk (HMP.out.below hb)
      have HR2 := Aside0.mk (Kd.R_below HR.out hb)
      have q3 := (rw_cells HP2.out).2.2
      clear hb q1 q2 HB HP HMP HR HRN hcell HGr
      cases hpr : pr x with
      | true =>
        obtain ⟨w3, hrun, hM3, ht⟩ := HM2.out.del x (by have := HXs.out; unfold maxLen; omega) 0
        have HR3 := Aside0.mk (Kd.R_grown HR2.out ht.grown (fun j hj => by simpa using hj.2))
        have HP3 := Aside0.mk ((ht.grown.block p (blk_lt HP2.out) (by have := HL.out.hne; simpa using Ne.symm this)).trans HP2.out)
        have HB3 := Aside0.mk (HB2.out.turned ht)
        have HM3 : Aside0 (MapOk w3 mb n (leftS pr S (i + 1))) := ⟨by
          have e := leftS_drop pr S i ln HL.out.hN HX.out.2.1 (by rw [HX.out.2.2]; exact hpr)
          rw [HX.out.2.2] at e
          rw [← e]; exact hM3⟩
        have HPR := Aside0.mk hpr
        clear hM3 ht HR2 HP2 HM2 HB2 hpr
        go_wp2
        go_roundg (m - (i + 1))
        case measure => have := C1.out; omega
        case rel =>
          refine ⟨i + 1, rfl, by first | rfl | rw [hadd], ⟨by have := C1.out; omega⟩, HB3, HP3, HM3, ⟨?_⟩⟩
          rw [List.take_add_one, HX.out.1, List.filter_append]
          simpa [HPR.out] using HR3.out
      | false =>
        have HM3 : Aside0 (MapOk w2 mb n (leftS pr S (i + 1))) := ⟨by rw [leftS_keep pr S i _ HX.out.2.1 (by rw [HX.out.2.2]; exact hpr)]; exact HM2.out⟩
        have HPR := Aside0.mk hpr
        have HLL : Aside0 (((((paths S).take i).filter (fun q => !pr q)).length + 1) * 16 ≤ 140737488355328) := ⟨by
          have := List.length_filter_le (fun q => !pr q) ((paths S).take i)
          rw [List.length_take] at this
          have := HM.out; have := HL.out.hl; omega⟩
        have HK2 : Aside0 (k0 ≤ w2.heap.size) := ⟨by have := HB2.out.size; rw [HK.out] at this; exact this⟩
        clear hpr HM2
        go_wp2_with (first | ((with_reducible refine gate_builtin (b := .append) (xs := #[.tmp 26, .tmp 28]) rfl ?_); at_builtin; refine Kd.R_append Kd.string (w0 := w2) k0 rfl (.tmp 26) (.tmp 28) 46 9 (.string ⟨#[]⟩) 16 rfl Tryd.underlying46 ld_info9 rfl (by decide) (by omega) u5 (((paths S).take i).filter (fun q => !pr q)) x [.string x] (fun j => j ≠ p ∧ j ≠ mb) (fun _ => False) rfl rfl rfl (fun _ hk => hk.elim) (fun j hj => by have := HLT.out; have := HK2.out; omega) HR2.out (Below.refl _ _) HK2.out HLL.out ?_; intro v9 w9 ho9 hb9 hg9 ha9; clear ha9))
        have HR9 := Aside0.mk ho9
        have HB9 := Aside0.mk (HB2.out.below' hb9 HK.out)
        have HP9 := Aside0.mk ((hb9.block p HLT.out.1).trans HP2.out)
        have HM9 := Aside0.mk (HM3.out.kept hg9 (fun e => (HR2.out.1 mb e.symm).2 rfl))
        clear ho9 hb9 hg9 HR2 HP2 HB2 HM3
        go_wp2
        go_roundg (m - (i + 1))
        case measure => have := C1.out; omega
        case rel =>
          refine ⟨i + 1, rfl, by first | rfl | rw [hadd], ⟨by have := C1.out; omega⟩, HB9, HP9, HM9, ⟨?_⟩⟩
          rw [List.take_add_one, HX.out.1, List.filter_append]
          simpa [HPR.out] using HR9.out
    · have e1 : decide ((i : Int) < (m : Int)) = false := decide_eq_false (by omega)
      have e1' : decide (i < m) = false := decide_eq_false c1
      have e1n : (i < m) = False := eq_false c1
      have e1i : ((i : Int) < (m : Int)) = False := eq_false (by omega)
      have HR1 := HR
      rw [List.take_of_length_le (by have := HM.out; omega), ← paths_outS] at HR1
      have HM1 := HMP
      rw [leftS_end pr S i (by have := HM.out; omega)] at HM1
      obtain ⟨A2, c2, rfl⟩ := Kd.R_slice HR1.out
      obtain ⟨m2, hm2⟩ : ∃ m2, m2 = (paths (outS pr S)).length := ⟨_, rfl⟩
      rw [← hm2] at HR1
      rw [← hm2]
      have hsub : wrap64 ((m : Int) - (m2 : Int)) = (m : Int) - (m2 : Int) := by
        have h1 := List.length_filter_le (fun x => !pr x.path) S
        have h2 : m2 = (outS pr S).length := by rw [hm2]; unfold paths; rw [List.length_map]
        unfold outS at h2
        have := HM.out; have := HL.out.hl; unfold wrap64; omega
      have HM2e := Aside0.mk hm2
      have f1 := blk_frozen HP.out 1
      have HP5 := Aside0.mk (blk_set HP.out 1 (.slice A2 m2 c2))
      clear c1 HR HMP hm2
      go_wp2
      go_ret
      have hml : (outS pr S).length = m2 := by rw [HM2e.out]; unfold paths; rw [List.length_map]
      have hK := HK.out
      have hLT := HLT.out
      refine ⟨by show Ending.returned (.int .i64 (wrap64 ((m : Int) - (m2 : Int)))) = _; rw [hsub, ← HM.out.2, hml], _, ⟨HP5.out, HM1.out.setCell HL.out.hne _, ?_, outS_nodup pr S HL.out.hN, fun x hx => HL.out.hz x (List.mem_filter.1 hx).1, HL.out.hne, HL.out.hp0, HL.out.hm0, ?_⟩, HB.out.setCell 1 _, fun j hj => by rw [hK]; exact Kd.R_base HR1.out j hj⟩
      · exact Kd.R_far (Kd.R_lower HR1.out (by have := HL.out.hp0; omega)) (p := ⟨p, 1, none⟩) (fun j hj => hj.1) _
      · have h1 := List.length_filter_le (fun x => !pr x.path) S
        have := HL.out.hl
        unfold outS; omega
set_option maxHeartbeats 8000000 in
set_option maxRecDepth 20000 in
theorem row_out.forget (b0 p mb n g : Nat) (c : ByteArray) (pr : ByteArray → Bool) (room : Int) (v : Value) (S : List Ln) (w : World) (h : Lg b0 p mb n room v S w) (hg : w.heap[g]? = some (.cells #[.string c] 9 (0, 0))) (hgp : g ≠ p) (hgm : g ≠ mb)
    (hw : ∀ (w1 : World) (s : ByteArray), w1.heap[g]? = some (.cells #[.string c] 9 (0, 0)) → s.size ≤ 1000000 → Calls Tryd.prog 54 #[.string s, .pointer (some ⟨g, 0, none⟩)] w1 fun e w' => e = .returned (.bool (pr s)) ∧ Below w1.heap.size w1 w') :
    Calls Tryd.prog 52 #[.pointer (some ⟨p, 1, none⟩), .func (.func 54) #[] #[.pointer (some ⟨g, 0, none⟩)]] w fun e w' => e = .returned (.int .i64 ((S.length : Int) - (outS pr S).length)) ∧ ∃ v', Lg b0 p mb n room v' (outS pr S) w' ∧ Bm p mb w w' ∧ ∀ j, v'.ownBlock = some j → w.heap.size ≤ j := by
  obtain ⟨A, c0, rfl, hc, hC⟩ := Kd.R_reads h.hR
  obtain ⟨m, hm⟩ : ∃ m, m = (paths S).length := ⟨_, rfl⟩
  rw [← hm] at h hC
  have hmS : m = S.length := by rw [hm]; unfold paths; rw [List.length_map]
  have HM := Aside0.mk (And.intro hm hmS)
  have HL := Aside0.mk h
  have HC := Aside0.mk hC
  have HG := Aside0.mk (And.intro hg (And.intro hgp hgm))
  have HW := Aside0.mk hw
  obtain ⟨k0, hk0⟩ : ∃ k0, w.heap.size = k0 := ⟨_, rfl⟩
  have HK := Aside0.mk hk0
  have HLT : Aside0 (p < k0 ∧ mb < k0 ∧ g < k0) := ⟨by rw [← hk0]; exact ⟨blk_lt h.hP, h.hM.lt, blk_lt hg⟩⟩
  have q1 := (rw_cells h.hP).2.1
  have HBI := Aside0.mk (Kd.R_base h.hR)
  clear h hg hgp hgm hw hC hm hmS hc
  go_enter Tryd.func52, Tryd.ntmps52
  go_wp2
  go_loopg [5, 7, 14] m (fun gg v5 v7 v14 w' => ∃ i : Nat, gg = m - i ∧ v14 = .int .i64 i ∧ Aside0 (i ≤ m) ∧ Aside0 (Bm p mb w w') ∧ Aside0 (w'.heap[p]? = some (.cells #[.int .i64 room, .slice A m c0, .map (some mb)] 57 (0, 0))) ∧ Aside0 (MapOk w' mb n (leftS pr S i)) ∧ Aside0 (Kd.R Kd.string 9 w' k0 (fun j => j ≠ p ∧ j ≠ mb) v5 (((paths S).take i).filter (fun q => !pr q))))
  case atStart => exact ⟨0, rfl, rfl, ⟨Nat.zero_le _⟩, ⟨Bm.refl _ _ _⟩, ⟨HL.out.hP⟩, ⟨HL.out.hM⟩, ⟨Kd.R_nil _ _ _ _ _⟩⟩
  case round =>
    clear q1
    obtain ⟨i, rfl, rfl, HI, HB, HP, HMP, HR⟩ := hrel
    have q1 := (rw_cells HP.out).2.1
    have q2 := (rw_cells HP.out).2.2
    by_cases c1 : i < m
    · have e1 : decide ((i : Int) < (m : Int)) = true := decide_eq_true (by omega)
      have e1' : decide (i < m) = true := decide_eq_true c1
      have e1n : (i < m) = True := eq_true c1
      have e1i : ((i : Int) < (m : Int)) = True := eq_true (by omega)
      have hi0 : (0 ≤ (i : Int)) = True := eq_true (by omega)
      have hi0' : decide (0 ≤ (i : Int)) = true := decide_eq_true (by omega)
      have HRN := Aside0.mk (R_bm HL.out.hR HB.out)
      have hCw := (Kd.R_reads' HRN.out).2.2
      obtain ⟨ad, x, rfl, hx, hcell⟩ := str_at hCw i (by have := HM.out; omega)
      obtain ⟨ln, hln, hlp⟩ : ∃ ln, S[i]? = some ln ∧ ln.path = x := by
        unfold paths at hx
        rw [List.getElem?_map] at hx
        cases hs : S[i]? with
        | none => rw [hs] at hx; cases hx
        | some ln => rw [hs] at hx; exact ⟨ln, rfl, Option.some.inj hx⟩
      have HX := Aside0.mk (And.intro hx (And.intro hln hlp))
      have HXs : Aside0 (x.size ≤ 1000000) := ⟨by rw [← hlp]; exact HL.out.hz ln (List.mem_of_getElem? hln)⟩
      have C1 := Aside0.mk c1
      have hadd : wrap64 ((i : Int) + 1) = ((i + 1 : Nat) : Int) := by have := HM.out; have := HL.out.hl; unfold wrap64; omega
      have HGr := Aside0.mk (HB.out.blk HG.out.1 HG.out.2.1 HG.out.2.2)
      have hmt : m - i = m - (i + 1) + 1 := by omega
      clear hx c1 hCw hln hlp
      go_wp2_with fail
      refine (HW.out wr x HGr.out HXs.out).mono ?_
      rintro e w2 ⟨rfl, hb⟩
      have HB2 := Aside0.mk (HB.out.below hb)
      have HP2 := Aside0.mk (blk_below HP.out hb)
      have HM2 := Aside0.mk (HMP.out.below hb)
      have HR2 := Aside0.mk (Kd.R_below HR.out hb)
      have q3 := (rw_cells HP2.out).2.2
      clear hb q1 q2 HB HP HMP HR HRN hcell HGr
      cases hpr : pr x with
      | true =>
        obtain ⟨w3, hrun, hM3, ht⟩ := HM2.out.del x (by have := HXs.out; unfold maxLen; omega) 0
        have HR3 := Aside0.mk (Kd.R_grown HR2.out ht.grown (fun j hj => by simpa using hj.2))
        have HP3 := Aside0.mk ((ht.grown.block p (blk_lt HP2.out) (by have := HL.out.hne; simpa using Ne.symm this)).trans HP2.out)
        have HB3 := Aside0.mk (HB2.out.turned ht)
        have HM3 : Aside0 (MapOk w3 mb n (leftS pr S (i + 1))) := ⟨by
          have e := leftS_drop pr S i ln HL.out.hN HX.out.2.1 (by rw [HX.out.2.2]; exact hpr)
          rw [HX.out.2.2] at e
          rw [← e]; exact hM3⟩
        have HPR := Aside0.mk hpr
        clear hM3 ht HR2 HP2 HM2 HB2 hpr
        go_wp2
        go_roundg (m - (i + 1))
        case measure => have := C1.out; omega
        case rel =>
          refine ⟨i + 1, rfl, by first | rfl | rw [hadd], ⟨by have := C1.out; omega⟩, HB3, HP3, HM3, ⟨?_⟩⟩
          rw [List.take_add_one, HX.out.1, List.filter_append]
          simpa [HPR.out] using HR3.out
      | false =>
        have HM3 : Aside0 (MapOk w2 mb n (leftS pr S (i + 1))) := ⟨by rw [leftS_keep pr S i _ HX.out.2.1 (by rw [HX.out.2.2]; exact hpr)]; exact HM2.out⟩
        have HPR := Aside0.mk hpr
        have HLL : Aside0 (((((paths S).take i).filter (fun q => !pr q)).length + 1) * 16 ≤ 140737488355328) := ⟨by
          have := List.length_filter_le (fun q => !pr q) ((paths S).take i)
          rw [List.length_take] at this
          have := HM.out; have := HL.out.hl; omega⟩
        have HK2 : Aside0 (k0 ≤ w2.heap.size) := ⟨by have := HB2.out.size; rw [HK.out] at this; exact this⟩
        clear hpr HM2
        go_wp2_with (first | ((with_reducible refine gate_builtin (b := .append) (xs := #[.tmp 26, .tmp 28]) rfl ?_); at_builtin; refine Kd.R_append Kd.string (w0 := w2) k0 rfl (.tmp 26) (.tmp 28) 46 9 (.string ⟨#[]⟩) 16 rfl Tryd.underlying46 ld_info9 rfl (by decide) (by omega) u5 (((paths S).take i).filter (fun q => !pr q)) x [.string x] (fun j => j ≠ p ∧ j ≠ mb) (fun _ => False) rfl rfl rfl (fun _ hk => hk.elim) (fun j hj => by have := HLT.out; have := HK2.out; omega) HR2.out (Below.refl _ _) HK2.out HLL.out ?_; intro v9 w9 ho9 hb9 hg9 ha9; clear ha9))
        have HR9 := Aside0.mk ho9
        have HB9 := Aside0.mk (HB2.out.below' hb9 HK.out)
        have HP9 := Aside0.mk ((hb9.block p HLT.out.1).trans HP2.out)
        have HM9 := Aside0.mk (HM3.out.kept hg9 (fun e => (HR2.out.1 mb e.symm).2 rfl))
        clear ho9 hb9 hg9 HR2 HP2 HB2 HM3
        go_wp2
        go_roundg (m - (i + 1))
        case measure => have := C1.out; omega
        case rel =>
          refine ⟨i + 1, rfl, by first | rfl | rw [hadd], ⟨by have := C1.out; omega⟩, HB9, HP9, HM9, ⟨?_⟩⟩
          rw [List.take_add_one, HX.out.1, List.filter_append]
          simpa [HPR.out] using HR9.out
    · have e1 : decide ((i : Int) < (m : Int)) = false := decide_eq_false (by omega)
      have e1' : decide (i < m) = false := decide_eq_false c1
      have e1n : (i < m) = False := eq_false c1
      have e1i : ((i : Int) < (m : Int)) = False := eq_false (by omega)
      have HR1 := HR
      rw [List.take_of_length_le (by have := HM.out; omega), ← paths_outS] at HR1
      have HM1 := HMP
      rw [leftS_end pr S i (by have := HM.out; omega)] at HM1
      obtain ⟨A2, c2, rfl⟩ := Kd.R_slice HR1.out
      obtain ⟨m2, hm2⟩ : ∃ m2, m2 = (paths (outS pr S)).length := ⟨_, rfl⟩
      rw [← hm2] at HR1
      rw [← hm2]
      have hsub : wrap64 ((m : Int) - (m2 : Int)) = (m : Int) - (m2 : Int) := by
        have h1 := List.length_filter_le (fun x => !pr x.path) S
        have h2 : m2 = (outS pr S).length := by rw [hm2]; unfold paths; rw [List.length_map]
        unfold outS at h2
        have := HM.out; have := HL.out.hl; unfold wrap64; omega
      have HM2e := Aside0.mk hm2
      have f1 := blk_frozen HP.out 1
      have HP5 := Aside0.mk (blk_set HP.out 1 (.slice A2 m2 c2))
      clear c1 HR HMP hm2
      go_wp2
      go_ret
      have hml : (outS pr S).length = m2 := by rw [HM2e.out]; unfold paths; rw [List.length_map]
      have hK := HK.out
      have hLT := HLT.out
      refine ⟨by show Ending.returned (.int .i64 (wrap64 ((m : Int) - (m2 : Int)))) = _; rw [hsub, ← HM.out.2, hml], _, ⟨HP5.out, HM1.out.setCell HL.out.hne _, ?_, outS_nodup pr S HL.out.hN, fun x hx => HL.out.hz x (List.mem_filter.1 hx).1, HL.out.hne, HL.out.hp0, HL.out.hm0, ?_⟩, HB.out.setCell 1 _, fun j hj => by rw [hK]; exact Kd.R_base HR1.out j hj⟩
      · exact Kd.R_far (Kd.R_lower HR1.out (by have := HL.out.hp0; omega)) (p := ⟨p, 1, none⟩) (fun j hj => hj.1) _
      · have h1 := List.length_filter_le (fun x => !pr x.path) S
        have := HL.out.hl
        unfold outS; omega
set_option maxHeartbeats 4000000 in
set_option maxRecDepth 20000 in
theorem sl_Equal (A A' : Option Addr) (c c' : Nat) (L M : List ByteArray) (w : World) (hL : Kd.C Kd.string w A L.length L) (hM : Kd.C Kd.string w A' M.length M) :
    Calls Tryd.prog 72 #[.slice A L.length c, .slice A' M.length c'] w fun e w' => e = .returned (.bool (decide (L = M))) ∧ Drawn0 w w' := by
  by_cases c0 : L.length = M.length
  rotate_left
  · have e0 : ((L.length : Int) != (M.length : Int)) = true := bne_iff_ne.mpr (by omega)
    have e0' : (L.length != M.length) = true := bne_iff_ne.mpr c0
    have e0'' : (L.length == M.length) = false := beq_eq_false_iff_ne.mpr c0
    rw [decide_eq_false (fun h => c0 (by rw [h]))]
    clear hL hM c0
    go_enter Tryd.func72, Tryd.ntmps72
    go_wp2
    go_ret
    exact ⟨rfl, Drawn0.refl _⟩
  obtain ⟨r, hr⟩ : ∃ r, decide (L = M) = r := ⟨_, rfl⟩
  rw [hr]
  have HRr := Aside0.mk hr
  have HL := Aside0.mk hL
  have HM := Aside0.mk hM
  obtain ⟨m, hm⟩ : ∃ m, m = L.length := ⟨_, rfl⟩
  rw [← c0, ← hm]
  have HN := Aside0.mk (And.intro hm (hm.trans c0))
  have hmax := hL.2.1
  rw [← hm] at hmax
  have HX := Aside0.mk hmax
  clear hr hL hM c0 hm hmax
  go_enter Tryd.func72, Tryd.ntmps72
  go_wp2
  go_loopg [5, 13] m (fun g v5 v13 w' => ∃ i : Nat, g = m - i ∧ v13 = .int .i64 i ∧ Aside0 (i ≤ m ∧ L.take i = M.take i) ∧ Drawn0 w w')
  case atStart => exact ⟨0, rfl, rfl, ⟨Nat.zero_le _, rfl⟩, Drawn0.refl _⟩
  case round =>
    obtain ⟨i, rfl, rfl, HI, ⟨nd, rfl⟩⟩ := hrel
    by_cases c1 : i < m
    · have e1 : decide ((i : Int) < (m : Int)) = true := decide_eq_true (by omega)
      have e1' : decide (i < m) = true := decide_eq_true c1
      have e1n : (i < m) = True := eq_true c1
      have e1i : ((i : Int) < (m : Int)) = True := eq_true (by omega)
      have hi0 : (0 ≤ (i : Int)) = True := eq_true (by omega)
      obtain ⟨ad, x, rfl, hx, hcell⟩ := str_at (Kd.C_drewN HL.out nd) i (by have := HN.out; omega)
      obtain ⟨ad', y, rfl, hy, hcell'⟩ := str_at (Kd.C_drewN HM.out nd) i (by have := HN.out; omega)
      have H2 := Aside0.mk (And.intro hx hy)
      have C1 := Aside0.mk c1
      have hadd : wrap64 ((i : Int) + 1) = ((i + 1 : Nat) : Int) := by have := HX.out; unfold wrap64; omega
      have hca : ∀ k, (w.drewN k).cell? (ad.add i) = some (.string x) := fun k => hcell
      have hca' : ∀ k, (w.drewN k).cell? (ad'.add i) = some (.string y) := fun k => hcell'
      clear hx hy c1
      by_cases c2 : x = y
      · have e2 : (x.toList == y.toList) = true := by rw [c2]; simp
        have C2 := Aside0.mk c2
        clear c2
        go_wp2
        repeat (go_quiet (fail); try go_wp2)
        go_roundg (m - (i + 1))
        case measure => have := C1.out; omega
        case rel =>
          refine ⟨i + 1, rfl, by first | rfl | rw [hadd], ⟨by have := C1.out; omega, ?_⟩, by repeat (first | exact Drawn0.refl _ | apply Drawn0.step)⟩
          rw [List.take_add_one, List.take_add_one, H2.out.1, H2.out.2, HI.out.2, C2.out]
      · have e2 : (x.toList == y.toList) = false := beq_eq_false_iff_ne.mpr (fun h => c2 (toList_inj.1 h))
        have C2 := Aside0.mk c2
        clear c2
        go_wp2
        repeat (go_quiet (fail); try go_wp2)
        go_ret
        refine ⟨?_, by repeat (first | exact Drawn0.refl _ | apply Drawn0.step)⟩
        have hne : ¬ L = M := fun h => by
          have h1 := H2.out
          rw [h] at h1
          exact C2.out (Option.some.inj (h1.1.symm.trans h1.2))
        rw [← HRr.out, decide_eq_false hne]
        first | done | rfl
    · have e1 : decide ((i : Int) < (m : Int)) = false := decide_eq_false (by omega)
      have e1' : decide (i < m) = false := decide_eq_false c1
      have e1n : (i < m) = False := eq_false c1
      have e1i : ((i : Int) < (m : Int)) = False := eq_false (by omega)
      have C1 := Aside0.mk c1
      clear c1
      go_wp2
      go_ret
      refine ⟨?_, ⟨nd, rfl⟩⟩
      have h := HI.out.2
      rw [List.take_of_length_le (by have := HN.out; have := C1.out; omega), List.take_of_length_le (by have := HN.out; have := C1.out; omega)] at h
      rw [← HRr.out, decide_eq_true h]
      first | done | rfl
def underF (p top : ByteArray) : Bool := decide ((splitF top).length ≤ (splitF p).length) && decide ((splitF p).take (splitF top).length = splitF top)
set_option maxHeartbeats 4000000 in
set_option maxRecDepth 20000 in
theorem path_Under.at_ (p top : ByteArray) (hp : p.size ≤ 1000000) (ht : top.size ≤ 1000000) (w : World) :
    Calls Tryd.prog 55 #[.string p, .string top] w fun e w' => e = .returned (.bool (underF p top)) ∧ Below w.heap.size w w' := by
  have H1 := Aside0.mk (fun w => path_Split.at_ p hp w)
  have H2 := Aside0.mk (fun w => path_Split.at_ top ht w)
  obtain ⟨r, hr⟩ : ∃ r, underF p top = r := ⟨_, rfl⟩
  rw [hr]
  unfold underF at hr
  obtain ⟨L, hL⟩ : ∃ L, splitF p = L := ⟨_, rfl⟩
  obtain ⟨M, hM⟩ : ∃ M, splitF top = M := ⟨_, rfl⟩
  rw [hL] at hr H1
  rw [hM] at hr H2
  have HRr := Aside0.mk hr
  clear hp ht hr hL hM
  go_enter Tryd.func55, Tryd.ntmps55
  go_wp2_with fail
  refine (H1.out w).mono ?_
  rintro e w1 ⟨v, rfl, hR, hb⟩
  have HR1 := Aside0.mk hR
  have HB1 := Aside0.mk hb
  clear hR hb
  go_wp2_with fail
  refine (H2.out w1).mono ?_
  rintro e w2 ⟨v2, rfl, hR2, hb2⟩
  obtain ⟨A, c, rfl, hc, hC⟩ := Kd.R_reads HR1.out
  obtain ⟨A2, c2, rfl, hc2, hC2⟩ := Kd.R_reads hR2
  have HB2 := Aside0.mk (ld_step HB1.out hb2)
  have HC1 := Aside0.mk (Kd.C_below hC hb2)
  have HC2 := Aside0.mk hC2
  have HCc := Aside0.mk (And.intro hc hc2)
  obtain ⟨l, hl⟩ : ∃ l, l = L.length := ⟨_, rfl⟩
  obtain ⟨m, hm⟩ : ∃ m, m = M.length := ⟨_, rfl⟩
  rw [← hl, ← hm]
  have HN := Aside0.mk (And.intro hl hm)
  clear hR2 hb2 hC hC2 hc hc2 hl hm HR1 HB1 H1 H2
  by_cases c0 : m ≤ l
  rotate_left
  · have e0 : decide ((m : Int) ≤ (l : Int)) = false := decide_eq_false (by omega)
    have e0' : decide (m ≤ l) = false := decide_eq_false c0
    have C0 := Aside0.mk c0
    clear c0
    go_wp2
    go_ret
    refine ⟨?_, HB2.out⟩
    rw [← HRr.out, decide_eq_false (p := M.length ≤ L.length) (by have := HN.out; have := C0.out; omega)]
    rfl
  have e0 : decide ((m : Int) ≤ (l : Int)) = true := decide_eq_true (by omega)
  have e0' : decide (m ≤ l) = true := decide_eq_true c0
  obtain ⟨i0, hi0, _, hsz0, _⟩ := info_parts ld_info9
  have hcut0 := cut_to (P := Tryd.prog) 46 9 .i64 Tryd.underlying46 hi0 A l c (m : Int) (by omega) (by omega) (by have := HN.out; have := HCc.out; omega)
  rw [Int.toNat_natCast] at hcut0
  have hcut : ∀ W : World, (Instr.slice 46 (.slice A l c) none (some (.int .i64 (m : Int))) none).run Tryd.prog W = .ok (.slice A m c) W := hcut0
  have hTk := Kd.C_take HC1.out (m := m) (by have := HN.out; omega)
  have hlt : (L.take m).length = m := by rw [List.length_take]; have := HN.out; omega
  have HE := Aside0.mk (sl_Equal A A2 c c2 (L.take m) M w2 hTk HC2.out)
  rw [hlt, ← HN.out.2] at HE
  have C0 := Aside0.mk c0
  clear hcut0 hTk hlt c0 hi0 hsz0
  go_wp2_with fail
  refine HE.out.mono ?_
  rintro e w3 ⟨rfl, hd⟩
  have HB3 := Aside0.mk (ld_step HB2.out hd.below)
  clear hd HE
  go_wp2
  go_ret
  refine ⟨?_, HB3.out⟩
  rw [← HRr.out, ← HN.out.2, decide_eq_true (p := m ≤ L.length) (by have := HN.out; have := C0.out; omega)]
  rfl
theorem clo_cell {w : World} {g : Nat} {c : ByteArray} (h : w.heap[g]? = some (.cells #[.string c] 9 (0, 0))) : w.cell? ⟨g, 0, none⟩ = some (.string c) := by
  rw [cell_of_row w g _ _ 9 (0, 0) h]; rfl
def eqP (c s : ByteArray) : Bool := s.toList == c.toList
theorem eqP_iff (c s : ByteArray) : eqP c s = true ↔ s = c := by
  unfold eqP
  rw [beq_iff_eq, toList_inj]
theorem clo_last (g : Nat) (c s : ByteArray) (w : World) (h : w.heap[g]? = some (.cells #[.string c] 9 (0, 0))) :
    Calls Tryd.prog 66 #[.string s, .pointer (some ⟨g, 0, none⟩)] w fun e w' => e = .returned (.bool (eqP c s)) ∧ Below w.heap.size w w' := by
  have q := clo_cell h
  clear h
  go_enter Tryd.func66, Tryd.ntmps66
  go_wp2
  go_ret
  exact ⟨rfl, Below.refl _ _⟩
theorem clo_tell (g : Nat) (c s : ByteArray) (w : World) (h : w.heap[g]? = some (.cells #[.string c] 9 (0, 0))) :
    Calls Tryd.prog 53 #[.string s, .pointer (some ⟨g, 0, none⟩)] w fun e w' => e = .returned (.bool (eqP c s)) ∧ Below w.heap.size w w' := by
  have q := clo_cell h
  clear h
  go_enter Tryd.func53, Tryd.ntmps53
  go_wp2
  go_ret
  exact ⟨rfl, Below.refl _ _⟩
theorem clo_forget (g : Nat) (c s : ByteArray) (w : World) (h : w.heap[g]? = some (.cells #[.string c] 9 (0, 0))) (hs : s.size ≤ 1000000) (hc : c.size ≤ 1000000) :
    Calls Tryd.prog 54 #[.string s, .pointer (some ⟨g, 0, none⟩)] w fun e w' => e = .returned (.bool (underF s c)) ∧ Below w.heap.size w w' := by
  have q := clo_cell h
  have HU := Aside0.mk (path_Under.at_ s c hs hc w)
  clear h hs hc
  go_enter Tryd.func54, Tryd.ntmps54
  go_wp2_with fail
  refine HU.out.mono ?_
  rintro e w1 ⟨rfl, hb⟩
  have HB := Aside0.mk hb
  clear hb
  go_wp2
  go_ret
  exact ⟨rfl, HB.out⟩
theorem Bm.grown {p mb : Nat} {w w1 w2 : World} {row : Option Nat} (h : Bm p mb w w1) (hg : w1.grownBy w2 row) (hr : ∀ j, row = some j → w.heap.size ≤ j) : Bm p mb w w2 :=
  ⟨hg.os.trans h.os, hg.tape.trans h.tape, hg.output.trans h.output, Nat.le_trans h.size hg.size, fun j hj a b => (hg.block j (Nat.lt_of_lt_of_le hj h.size) (fun e => by have := hr j e.symm; omega)).trans (h.block j hj a b)⟩
theorem own_len (A : Option Addr) (n m c : Nat) : (Value.slice A n c).ownBlock = (Value.slice A m c).ownBlock := by
  rcases A with _ | ⟨b, o, f⟩
  · rfl
  · rfl
theorem mupd_step {P : Program} {o : Oper} {a : Act} {W W' : World} {m k x : Operand} {ty : TypeId} {u v y : Value} (ho : o.op = .mapUpdate ty m k x) (hm : a.eval m = u) (hk : a.eval k = v) (hx : a.eval x = y) (hr : (Instr.mapUpdate ty u v y).run P W = .ok () W') : (execOp a.eval o).run P W = .ok .skip W' := by
  unfold execOp
  simp only [ho, hm, hk, hx, hr, Sem.run_bind, Sem.run_pure, Result.andThen_ok]
def lastS (x : Ln) (S : List Ln) : List Ln := outS (eqP x.path) S ++ [x]
theorem paths_lastS (x : Ln) (S : List Ln) : paths (lastS x S) = paths (outS (eqP x.path) S) ++ [x.path] := by unfold lastS paths; rw [List.map_append]; rfl
theorem not_out (x : Ln) (S : List Ln) : x.path ∉ paths (outS (eqP x.path) S) := by
  rw [paths_outS]
  intro h
  have := (List.mem_filter.1 h).2
  rw [(eqP_iff x.path x.path).2 rfl] at this
  cases this
theorem lastS_nodup (x : Ln) (S : List Ln) (h : (paths S).Nodup) : (paths (lastS x S)).Nodup := by
  rw [paths_lastS, List.nodup_append]
  refine ⟨outS_nodup _ S h, by simp, fun a ha b hb e => ?_⟩
  simp only [List.mem_singleton] at hb
  subst hb
  subst e
  exact not_out x S ha
set_option maxHeartbeats 8000000 in
set_option maxRecDepth 20000 in
theorem row_last.at_ (b0 p mb n : Nat) (room : Int) (v : Value) (S : List Ln) (x : Ln) (w : World) (h : Lg b0 p mb n room v S w) (hx : x.path.size ≤ 1000000) (hS : S.length < 1000000) (hn : n ≤ 1000000) :
    Calls Tryd.prog 42 #[.pointer (some ⟨p, 1, none⟩), .string x.path, lnV x] w fun e w' => e = .returned (.tuple #[]) ∧ ∃ v', Lg b0 p mb (n + 1) room v' (lastS x S) w' ∧ Bm p mb w w' ∧ ∀ j, v'.ownBlock = some j → w.heap.size ≤ j := by
  obtain ⟨path, ino, size, sec, nano, sum⟩ := x
  dsimp only at hx ⊢
  unfold lnV
  dsimp only
  have HO := Aside0.mk (fun (g : Nat) (w1 : World) (h1 : Lg b0 p mb n room v S w1) (hg : w1.heap[g]? = some (.cells #[.string path] 9 (0, 0))) (a : g ≠ p) (b : g ≠ mb) => row_out.last b0 p mb n g path (eqP path) room v S w1 h1 hg a b (fun w2 s h2 _ => clo_last g path s w2 h2))
  have hmf : ∀ (fn : Fn) (first cap : Array Value) (w : World), (Instr.makeFunc fn first cap).run Tryd.prog w = .ok (.func fn first cap) w := fun _ _ _ _ => rfl
  obtain ⟨w1, hw1⟩ : ∃ w1, w1 = (w.alloc (.cells #[.string path] 9)).alloc (.cells #[.string path, .int .i64 ino, .int .i64 size, .int .i64 sec, .int .i64 nano, .string sum] 68) := ⟨_, rfl⟩
  obtain ⟨g, hg⟩ : ∃ g, w.heap.size = g := ⟨_, rfl⟩
  obtain ⟨gx, hgx⟩ : ∃ gx, g + 1 = gx := ⟨_, rfl⟩
  have HG1 : Aside0 (w1.heap[g]? = some (.cells #[.string path] 9 (0, 0))) := ⟨by rw [hw1, ← hg]; exact blk_alloc (blk_new w _) _⟩
  have HX1 : Aside0 (w1.heap[gx]? = some (.cells #[.string path, .int .i64 ino, .int .i64 size, .int .i64 sec, .int .i64 nano, .string sum] 68 (0, 0))) := ⟨by
    rw [hw1, ← hgx, ← hg]
    have := blk_new (w.alloc (.cells #[.string path] 9)) (.cells #[.string path, .int .i64 ino, .int .i64 size, .int .i64 sec, .int .i64 nano, .string sum] 68)
    simpa using this⟩
  have HB1 : Aside0 (Below w.heap.size w w1) := ⟨by rw [hw1]; exact below_alloc (below_alloc (Below.refl _ _) _) _⟩
  have HL1 := Aside0.mk (h.below HB1.out)
  have HN : Aside0 (p < g ∧ mb < g ∧ b0 ≤ p ∧ g + 1 = gx ∧ w.heap.size = g) := ⟨by rw [← hg] at *; exact ⟨blk_lt h.hP, h.hM.lt, h.hp0, hgx, rfl⟩⟩
  have HS := Aside0.mk (And.intro hS hn)
  have HXs := Aside0.mk hx
  have HNN := Aside0.mk (lastS_nodup ⟨path, ino, size, sec, nano, sum⟩ S h.hN)
  have HNO := Aside0.mk (not_out ⟨path, ino, size, sec, nano, sum⟩ S)
  have HPL := Aside0.mk (paths_lastS ⟨path, ino, size, sec, nano, sum⟩ S)
  have HZ := Aside0.mk h.hz
  have HL2n := Aside0.mk h.hne
  have HL0 := Aside0.mk h
  have HW1 : Aside0 (w1.heap.size = g + 2) := ⟨by rw [hw1, ← hg]; simp⟩
  clear h hx hS hn
  go_enter Tryd.func42, Tryd.ntmps42
  go_wp2_with fail
  rw [← hw1]
  clear hw1
  refine (HO.out g w1 HL1.out HG1.out (by have := HN.out; omega) (by have := HN.out; omega)).mono ?_
  rintro e w2 ⟨rfl, v2, hL2, hB2, hO2⟩
  have HL2 := Aside0.mk hL2
  have HB2 := Aside0.mk hB2
  have HOB : Aside0 (∀ j, j < g + 2 → some j ≠ v2.ownBlock) := ⟨fun j hj e => by
    have h2 := hO2 j e.symm
    have h3 := blk_lt HX1.out
    have := HN.out
    omega⟩
  obtain ⟨A, c, rfl⟩ := Kd.R_slice hL2.hR
  obtain ⟨Q, hQ⟩ : ∃ Q, Q = paths (outS (eqP path) S) := ⟨_, rfl⟩
  obtain ⟨m, hm⟩ : ∃ m, m = Q.length := ⟨_, rfl⟩
  have HP2 := Aside0.mk hL2.hP
  have HR2 := Aside0.mk hL2.hR
  rw [← hQ, ← hm] at HP2 HR2
  have HQ := Aside0.mk (And.intro hQ hm)
  have HG2 := Aside0.mk (hB2.blk HG1.out (by have := HN.out; omega) (by have := HN.out; omega))
  have HX2 := Aside0.mk (hB2.blk HX1.out (by have := HN.out; omega) (by have := HN.out; omega))
  have HM2 := Aside0.mk hL2.hM
  have HLT : Aside0 (p < w2.heap.size ∧ mb < w2.heap.size ∧ b0 ≤ p) := ⟨⟨blk_lt HP2.out, HM2.out.lt, HN.out.2.2.1⟩⟩
  have HQl : Aside0 (Q.length ≤ S.length) := ⟨by rw [hQ]; unfold paths outS; rw [List.length_map]; exact List.length_filter_le _ _⟩
  have HLL : Aside0 ((Q.length + 1) * 16 ≤ 140737488355328) := ⟨by have := HQl.out; have := HS.out; omega⟩
  rw [← hQ, ← hm] at HOB
  have HL2l := Aside0.mk hL2.hl
  have HSM := Aside0.mk hB2.size
  rw [← hQ, ← hm] at hL2
  clear hL2 hB2 hO2 hQ hm HO HL1
  go_wp2_with fail
  refine start_ (n := 11) (S := fun w' => w'.cell? ⟨p, 1, none⟩ = some (.slice A m c) ∧ w'.cell? ⟨g, 0, none⟩ = some (.string path)) (ds := [10]) #[false, false, false, false, false, false, false, false, false, false, false] (by kernel_rfl) rfl rfl ⟨(rw_cells HP2.out).2.1, (clo_cell HG2.out)⟩ (fun hHeld => ?_)
  refine pure_ (i := 0) (N := some 9) (v := ?_) (a' := ?_) #[true, false, false, false, false, false, false, false, false, false, false] rfl rfl (by kernel_rfl) (fun _ _ _ h => h) (Or.inl ⟨by rfl, ?_⟩) ?_ ?_
  rotate_left
  · intro w'
    go_simp
    with_reducible rfl
  rotate_left
  · simp only [Act.put, List.setIfInBounds_toArray, List.set_cons_zero, List.set_cons_succ, i64_w, i32_w]
    rfl
  refine pure_ (i := 1) (N := some 10) (v := ?_) (a' := ?_) #[true, true, false, false, false, false, false, false, false, false, false] rfl rfl (by kernel_rfl) (fun _ _ _ h => h) (Or.inl ⟨by rfl, ?_⟩) ?_ ?_
  rotate_left
  · intro w'
    go_simp
    with_reducible rfl
  rotate_left
  · simp only [Act.put, List.setIfInBounds_toArray, List.set_cons_zero, List.set_cons_succ, i64_w, i32_w]
    rfl
  refine pure_ (i := 2) (N := some 11) (v := ?_) (a' := ?_) #[true, true, true, false, false, false, false, false, false, false, false] rfl rfl (by kernel_rfl) (fun _ _ _ h => h) (Or.inl ⟨by rfl, ?_⟩) ?_ ?_
  rotate_left
  · intro w'
    go_simp
    with_reducible rfl
  rotate_left
  · simp only [Act.put, List.setIfInBounds_toArray, List.set_cons_zero, List.set_cons_succ, i64_w, i32_w]
    rfl
  refine pure_ (i := 3) (N := some 12) (v := ?_) (a' := ?_) #[true, true, true, true, false, false, false, false, false, false, false] rfl rfl (by kernel_rfl) (fun _ _ _ h => h) (Or.inl ⟨by rfl, ?_⟩) ?_ ?_
  rotate_left
  · intro w'
    go_simp
    with_reducible rfl
  rotate_left
  · simp only [Act.put, List.setIfInBounds_toArray, List.set_cons_zero, List.set_cons_succ, i64_w, i32_w]
    rfl
  refine take_ (i := 4) (N := some 13) (v := ?_) (a' := ?_) #[true, true, true, true, true, false, false, false, false, false, false] rfl rfl (by kernel_rfl) (fun _ _ _ h => h) (Or.inl ⟨by rfl, ?_⟩) hHeld ?_ ?_
  rotate_left
  · rintro w' ⟨s0, s1⟩
    go_simp
    with_reducible rfl
  rotate_left
  · simp only [Act.put, List.setIfInBounds_toArray, List.set_cons_zero, List.set_cons_succ, i64_w, i32_w]
    rfl
  refine take_ (i := 5) (N := some 14) (v := ?_) (a' := ?_) #[true, true, true, true, true, true, false, false, false, false, false] rfl rfl (by kernel_rfl) (fun _ _ _ h => h) (Or.inl ⟨by rfl, ?_⟩) hHeld ?_ ?_
  rotate_left
  · rintro w' ⟨s0, s1⟩
    go_simp
    with_reducible rfl
  rotate_left
  · simp only [Act.put, List.setIfInBounds_toArray, List.set_cons_zero, List.set_cons_succ, i64_w, i32_w]
    rfl
  refine one_ (i := 6) (N := some 15) #[true, true, true, true, true, true, true, false, false, false, false] rfl rfl (by kernel_rfl) (by decide) (fun K hK => ?_)
  refine value_ (w1 := ?_) (v := ?_) (by rfl) rfl ?_ ?_
  rotate_left 2
  · go_simp
    constructor
    · rfl
    · rfl
  have HPb := Aside0.mk (blk_alloc HP2.out (.cells #[.string path] 9))
  have HGb := Aside0.mk (blk_alloc HG2.out (.cells #[.string path] 9))
  refine hK.out _ _ ⟨(rw_cells HPb.out).2.1, (clo_cell HGb.out)⟩ (fun hHeld => ?_)
  clear hK K
  refine norm_ (a' := ?_) ?_ ?_
  rotate_left
  · show Act.put _ (some 15) _ = _
    simp only [Act.put, List.setIfInBounds_toArray, List.set_cons_zero, List.set_cons_succ, i64_w, i32_w]
    rfl
  refine one_ (i := 7) (N := some 16) #[true, true, true, true, true, true, true, true, false, false, false] rfl rfl (by kernel_rfl) (by decide) (fun K hK => ?_)
  refine Kd.R_append_step Kd.string (w0 := w2.drew) (W := w2.drew) b0 (by rfl) (.tmp 13) (.tmp 15) 46 9 (.string ⟨#[]⟩) 16 rfl Tryd.underlying46 ld_info9 rfl (by decide) (by omega) (.slice A m c) Q path [.string path] (fun j => j ≠ p ∧ j ≠ mb) (fun _ => False) rfl rfl rfl (fun _ hk => hk.elim) (fun j hj => by have := HLT.out; have h2 : w2.heap.size ≤ j := hj; omega) (Kd.R_drew HR2.out) (Below.refl _ _) (by have := HLT.out; show b0 ≤ w2.heap.size; omega) HLL.out ?_
  intro v5 w5 ho hb5 hg hat
  have HAT := Aside0.mk hat
  have HR5 := Aside0.mk ho
  have HGr := Aside0.mk hg
  have HP5 := Aside0.mk ((hg.block p (blk_lt (w := w2.drew) HP2.out) (fun e => (HR2.out.1 p e.symm).1 rfl)).trans HP2.out)
  have HG5 := Aside0.mk ((hg.block g (blk_lt (w := w2.drew) HG2.out) (HOB.out g (by omega))).trans HG2.out)
  have HX5 := Aside0.mk ((hg.block gx (blk_lt (w := w2.drew) HX2.out) (HOB.out gx (by have := HN.out; omega))).trans HX2.out)
  have qf5 := blk_frozen HP5.out 1
  clear ho hb5 hg hat
  obtain ⟨A5, c5, rfl⟩ := Kd.R_slice HR5.out
  generalize hm5 : (Q ++ [path]).length = m5 at HR5 ⊢
  refine hK.out _ _ ⟨(rw_cells HP5.out).2.1, (clo_cell HG5.out)⟩ (fun hHeld => ?_)
  clear hK K
  refine norm_ (a' := ?_) ?_ ?_
  rotate_left
  · show Act.put _ (some 16) _ = _
    simp only [Act.put, List.setIfInBounds_toArray, List.set_cons_zero, List.set_cons_succ, i64_w, i32_w]
    rfl
  refine pure_ (i := 8) (N := some 17) (v := ?_) (a' := ?_) #[true, true, true, true, true, true, true, true, true, false, false] rfl rfl (by kernel_rfl) (fun _ _ _ h => h) (Or.inl ⟨by rfl, ?_⟩) ?_ ?_
  rotate_left
  · intro w'
    go_simp
    with_reducible rfl
  rotate_left
  · simp only [Act.put, List.setIfInBounds_toArray, List.set_cons_zero, List.set_cons_succ, i64_w, i32_w]
    rfl
  refine pure_ (i := 9) (N := some 18) (v := ?_) (a' := ?_) #[true, true, true, true, true, true, true, true, true, true, false] rfl rfl (by kernel_rfl) (fun _ _ _ h => h) (Or.inl ⟨by rfl, ?_⟩) ?_ ?_
  rotate_left
  · intro w'
    go_simp
    with_reducible rfl
  rotate_left
  · simp only [Act.put, List.setIfInBounds_toArray, List.set_cons_zero, List.set_cons_succ, i64_w, i32_w]
    rfl
  refine last_ (i := 10) (N := none) #[true, true, true, true, true, true, true, true, true, true, true] rfl rfl (by kernel_rfl) (by decide) (fun K hK => ?_)
  refine skip_ (w1 := ?_) (by rfl) rfl ?_ ?_
  rotate_left
  · go_simp
    rfl
  refine hK.out _ _ ?_
  clear hK K
  refine done_ (by kernel_rfl) ?_
  have HP6 := Aside0.mk (blk_set HP5.out 1 (.slice A5 m5 c5))
  have HG6 := Aside0.mk (blk_far HG5.out (p := ⟨p, 1, none⟩) (by have := HN.out; show g ≠ p; omega) (.slice A5 m5 c5))
  have HX6 := Aside0.mk (blk_far HX5.out (p := ⟨p, 1, none⟩) (by have := HN.out; show gx ≠ p; omega) (.slice A5 m5 c5))
  have HM6 := Aside0.mk (((HM2.out.below (below_drew (Below.refl _ _))).kept HGr.out (fun e => (HR2.out.1 mb e.symm).2 rfl)).setCell (by have := HL2n.out; exact this) (a := ⟨p, 1, none⟩) (.slice A5 m5 c5))
  have HR6 := Aside0.mk (Kd.R_far HR5.out (p := ⟨p, 1, none⟩) (fun j hj => hj.1) (.slice A5 m5 c5))
  have HB6 := Aside0.mk (((HB2.out.below (below_drew (Below.refl _ _))).grown HGr.out (fun j e => by
    rcases Nat.lt_or_ge j (g + 2) with hj | hj
    · exact absurd e.symm (HOB.out j hj)
    · have := HW1.out; omega)).setCell 1 (.slice A5 m5 c5))
  have HO6 : Aside0 (∀ j, (Value.slice A5 m5 c5).ownBlock = some j → g + 2 ≤ j) := ⟨fun j e => by
    rcases HAT.out with h | ⟨b, h, h2⟩
    · have h' := (own_len A5 m5 (Q ++ [path]).length c5).trans h
      rw [h'] at e
      rcases Nat.lt_or_ge j (g + 2) with hj | hj
      · exact absurd e.symm (HOB.out j hj)
      · exact hj
    · have h' := (own_len A5 m5 (Q ++ [path]).length c5).trans h
      rw [h'] at e
      have e2 := Option.some.inj e
      have h3 : w2.heap.size ≤ b := h2
      have h4 := HSM.out
      have := HW1.out
      omega⟩
  clear HAT HR5 HGr HP5 HG5 HX5 qf5 HP2 HG2 HX2 HM2 HR2 hHeld
  generalize w5.setCell ⟨p, 1, none⟩ (.slice A5 m5 c5) = w6 at HP6 HG6 HX6 HM6 HR6 HB6 ⊢
  obtain ⟨w7, hrun, hM7, ht⟩ := (HM6.out.below (below_drew (Below.refl _ w6))).store ⟨path, ino, size, sec, nano, sum⟩ (by have := HXs.out; unfold maxLen; dsimp only; omega) (by have := HS.out; unfold maxLen; omega) HNO.out
  have HRun := Aside0.mk hrun
  have HM7 := Aside0.mk hM7
  have HT := Aside0.mk ht
  clear hrun hM7 ht
  go_wp2_with fail
  refine start_ (n := 7) (S := fun w' => w'.cell? ⟨p, 2, none⟩ = some (.map (some mb)) ∧ w'.cell? ⟨g, 0, none⟩ = some (.string path) ∧ w'.cell? ⟨gx, 0, none⟩ = some (.string path) ∧ w'.cell? ⟨gx, 1, none⟩ = some (.int .i64 ino) ∧ w'.cell? ⟨gx, 2, none⟩ = some (.int .i64 size) ∧ w'.cell? ⟨gx, 3, none⟩ = some (.int .i64 sec) ∧ w'.cell? ⟨gx, 4, none⟩ = some (.int .i64 nano) ∧ w'.cell? ⟨gx, 5, none⟩ = some (.string sum)) (ds := [6]) #[false, false, false, false, false, false, false] (by kernel_rfl) rfl rfl ⟨(rw_cells HP6.out).2.2, (clo_cell HG6.out), (ln_cells (x := ⟨path, ino, size, sec, nano, sum⟩) HX6.out).1, (ln_cells (x := ⟨path, ino, size, sec, nano, sum⟩) HX6.out).2.1, (ln_cells (x := ⟨path, ino, size, sec, nano, sum⟩) HX6.out).2.2.1, (ln_cells (x := ⟨path, ino, size, sec, nano, sum⟩) HX6.out).2.2.2.1, (ln_cells (x := ⟨path, ino, size, sec, nano, sum⟩) HX6.out).2.2.2.2.1, (ln_cells (x := ⟨path, ino, size, sec, nano, sum⟩) HX6.out).2.2.2.2.2⟩ (fun hHeld => ?_)
  refine pure_ (i := 0) (N := some 19) (v := ?_) (a' := ?_) #[true, false, false, false, false, false, false] rfl rfl (by kernel_rfl) (fun _ _ _ h => h) (Or.inl ⟨by rfl, ?_⟩) ?_ ?_
  rotate_left
  · intro w'
    go_simp
    with_reducible rfl
  rotate_left
  · simp only [Act.put, List.setIfInBounds_toArray, List.set_cons_zero, List.set_cons_succ, i64_w, i32_w]
    rfl
  refine pure_ (i := 1) (N := some 20) (v := ?_) (a' := ?_) #[true, true, false, false, false, false, false] rfl rfl (by kernel_rfl) (fun _ _ _ h => h) (Or.inl ⟨by rfl, ?_⟩) ?_ ?_
  rotate_left
  · intro w'
    go_simp
    with_reducible rfl
  rotate_left
  · simp only [Act.put, List.setIfInBounds_toArray, List.set_cons_zero, List.set_cons_succ, i64_w, i32_w]
    rfl
  refine pure_ (i := 2) (N := some 21) (v := ?_) (a' := ?_) #[true, true, true, false, false, false, false] rfl rfl (by kernel_rfl) (fun _ _ _ h => h) (Or.inl ⟨by rfl, ?_⟩) ?_ ?_
  rotate_left
  · intro w'
    go_simp
    with_reducible rfl
  rotate_left
  · simp only [Act.put, List.setIfInBounds_toArray, List.set_cons_zero, List.set_cons_succ, i64_w, i32_w]
    rfl
  refine take_ (i := 3) (N := some 22) (v := ?_) (a' := ?_) #[true, true, true, true, false, false, false] rfl rfl (by kernel_rfl) (fun _ _ _ h => h) (Or.inl ⟨by rfl, ?_⟩) hHeld ?_ ?_
  rotate_left
  · rintro w' ⟨s0, s1, s2, s3, s4, s5, s6, s7⟩
    go_simp
    with_reducible rfl
  rotate_left
  · simp only [Act.put, List.setIfInBounds_toArray, List.set_cons_zero, List.set_cons_succ, i64_w, i32_w]
    rfl
  refine take_ (i := 4) (N := some 23) (v := ?_) (a' := ?_) #[true, true, true, true, true, false, false] rfl rfl (by kernel_rfl) (fun _ _ _ h => h) (Or.inl ⟨by rfl, ?_⟩) hHeld ?_ ?_
  rotate_left
  · rintro w' ⟨s0, s1, s2, s3, s4, s5, s6, s7⟩
    go_simp
    with_reducible rfl
  rotate_left
  · simp only [Act.put, List.setIfInBounds_toArray, List.set_cons_zero, List.set_cons_succ, i64_w, i32_w]
    rfl
  refine take_ (i := 5) (N := some 24) (v := ?_) (a' := ?_) #[true, true, true, true, true, true, false] rfl rfl (by kernel_rfl) (fun _ _ _ h => h) (Or.inl ⟨by rfl, ?_⟩) hHeld ?_ ?_
  rotate_left
  · rintro w' ⟨s0, s1, s2, s3, s4, s5, s6, s7⟩
    go_simp
    with_reducible rfl
  rotate_left
  · simp only [Act.put, List.setIfInBounds_toArray, List.set_cons_zero, List.set_cons_succ, i64_w, i32_w]
    rfl
  refine last_ (i := 6) (N := none) #[true, true, true, true, true, true, true] rfl rfl (by kernel_rfl) (by decide) (fun K hK => ?_)
  refine skip_ (w1 := w7) (by rfl) rfl (mupd_step rfl rfl rfl rfl HRun.out) ?_
  refine hK.out _ _ ?_
  clear hK K
  refine done_ (by kernel_rfl) ?_
  go_wp2
  refine bodyPost_end (results_none rfl _ _ _) rfl ?_
  have hpm : some p ≠ some mb := fun e => by have := Option.some.inj e; exact HL2n.out this.symm
  have hlen : (lastS ⟨path, ino, size, sec, nano, sum⟩ S).length ≤ 1000000 := by
    have := List.length_filter_le (fun x : Ln => !eqP path x.path) S
    have := HS.out
    unfold lastS outS
    simp only [List.length_append, List.length_cons, List.length_nil]
    omega
  refine ⟨rfl, .slice A5 m5 c5, ⟨(HT.out.grown.block p (blk_lt (w := w6.drew) HP6.out) hpm).trans HP6.out, HM7.out, ?_, HNN.out, fun y hy => ?_, HL0.out.hne, HL0.out.hp0, HL0.out.hm0, hlen⟩, ((Bm.refl p mb w).below HB1.out).trans ((HB6.out.below (below_drew (Below.refl _ _))).turned HT.out), fun j hj => by have := HO6.out j hj; have := HN.out; omega⟩
  · rw [HPL.out]
    rw [← HQ.out.1]
    exact Kd.R_grown (Kd.R_drew HR6.out) HT.out.grown (fun j hj => by simpa using hj.2)
  · unfold lastS at hy
    rcases List.mem_append.1 hy with hy | hy
    · exact HZ.out y (List.mem_filter.1 hy).1
    · simp only [List.mem_singleton] at hy
      rw [hy]; exact HXs.out
/-- What stands in a tree. -/
structure St where
  kind : Int
  ino : Int
  size : Int
  links : Int
  mode : Int
  sec : Int
  nano : Int
  uid : Int
  gid : Int
  target : ByteArray
def stC (s : St) : Array Value := #[.int .i64 s.kind, .int .i64 s.ino, .int .i64 s.size, .int .i64 s.links, .int .i64 s.mode, .int .i64 s.sec, .int .i64 s.nano, .int .i64 s.uid, .int .i64 s.gid, .string s.target]
def stV (s : St) : Value := .agg (stC s)
theorem st_cells {w : World} {g : Nat} {s : St} (h : w.heap[g]? = some (.cells (stC s) 37 (0, 0))) :
    w.cell? ⟨g, 0, none⟩ = some (.int .i64 s.kind) ∧ w.cell? ⟨g, 1, none⟩ = some (.int .i64 s.ino) ∧ w.cell? ⟨g, 2, none⟩ = some (.int .i64 s.size) ∧ w.cell? ⟨g, 5, none⟩ = some (.int .i64 s.sec) ∧ w.cell? ⟨g, 6, none⟩ = some (.int .i64 s.nano) := by
  refine ⟨?_, ?_, ?_, ?_, ?_⟩ <;> rw [cell_of_row w g _ _ 37 (0, 0) h] <;> rfl
theorem led_Len.at_ (b0 p mb n : Nat) (room : Int) (v : Value) (S : List Ln) (w : World) (h : Lg b0 p mb n room v S w) :
    Calls Tryd.prog 15 #[.pointer (some ⟨p, 0, none⟩)] w fun e w' => e = .returned (.int .i64 S.length) ∧ w' = w := by
  obtain ⟨A, c, rfl⟩ := Kd.R_slice h.hR
  have q := (rw_cells h.hP).2.1
  have e : (paths S).length = S.length := by unfold paths; rw [List.length_map]
  rw [e] at q
  clear h e
  go_enter Tryd.func15, Tryd.ntmps15
  go_wp2
  go_ret
  exact ⟨rfl, rfl⟩
theorem mm_run33 (w : World) : (Instr.makeMap 53 none).run Tryd.prog w = .ok (.map (some w.heap.size)) (w.alloc (.map #[] 0)) := by
  simp only [Instr.makeMap, Sem.run_bind, Sem.run_pure, Result.andThen_ok, Tryd.underlying53]
  rfl
theorem led_New.bad (room : Int) (w : World) (h : (decide (room < 1) || decide (room > 4096)) = true) :
    Calls Tryd.prog 7 #[.int .i64 room] w fun e w' => e = .returned (.tuple #[.pointer none, .int .i64 2]) ∧ w' = w := by
  cases h1 : decide (room < 1) with
  | true =>
    clear h
    go_enter Tryd.func7, Tryd.ntmps7
    go_wp2
    go_ret2
    exact ⟨rfl, rfl⟩
  | false =>
    rw [h1, Bool.false_or] at h
    have h2 : decide (4096 < room) = true := h
    clear h
    go_enter Tryd.func7, Tryd.ntmps7
    go_wp2
    go_ret2
    exact ⟨rfl, rfl⟩
theorem led_New.at_ (room : Int) (w : World) (h : (decide (room < 1) || decide (room > 4096)) = false) :
    Calls Tryd.prog 7 #[.int .i64 room] w fun e w' => ∃ p mb, e = .returned (.tuple #[.pointer (some ⟨p, 0, none⟩), .int .i64 0]) ∧ Lg w.heap.size p mb 0 room (.slice none 0 0) [] w' ∧ Below w.heap.size w w' := by
  obtain ⟨h1, h2⟩ := Bool.or_eq_false_iff.1 h
  have h2' : decide (4096 < room) = false := h2
  have hmm := mm_run33
  have key : Lg w.heap.size (w.heap.size + 1) w.heap.size 0 room (.slice none 0 0) [] ((w.alloc (.map #[] 0)).alloc (.cells #[.int .i64 room, .slice none 0 0, .map (some w.heap.size)] 57)) :=
    ⟨by have := blk_new (w.alloc (.map #[] 0)) (.cells #[.int .i64 room, .slice none 0 0, .map (some w.heap.size)] 57); simpa using this,
     (MapOk.made w).below (below_alloc (Below.refl _ _) _), Kd.R_nil _ _ _ _ _, by unfold paths; simp, (fun x hx => nomatch hx), by omega, by omega, by omega, by simp⟩
  have HK := Aside0.mk key
  clear h h2 key
  go_enter Tryd.func7, Tryd.ntmps7
  go_wp2
  go_ret2
  exact ⟨w.heap.size + 1, w.heap.size, by rfl, HK.out, below_alloc (below_alloc (Below.refl _ _) _) _⟩
set_option maxHeartbeats 4000000 in
set_option maxRecDepth 20000 in
theorem led_Forget.at_ (b0 p mb n : Nat) (room : Int) (v : Value) (S : List Ln) (top : ByteArray) (w : World) (h : Lg b0 p mb n room v S w) (ht : top.size ≤ 1000000) :
    Calls Tryd.prog 26 #[.pointer (some ⟨p, 0, none⟩), .string top] w fun e w' => e = .returned (.int .i64 ((S.length : Int) - (outS (fun q => underF q top) S).length)) ∧ ∃ v', Lg b0 p mb n room v' (outS (fun q => underF q top) S) w' ∧ Bm p mb w w' ∧ ∀ j, v'.ownBlock = some j → w.heap.size ≤ j := by
  have hmf : ∀ (fn : Fn) (first cap : Array Value) (w : World), (Instr.makeFunc fn first cap).run Tryd.prog w = .ok (.func fn first cap) w := fun _ _ _ _ => rfl
  obtain ⟨w1, hw1⟩ : ∃ w1, w1 = w.alloc (.cells #[.string top] 9) := ⟨_, rfl⟩
  obtain ⟨g, hg⟩ : ∃ g, w.heap.size = g := ⟨_, rfl⟩
  have HG1 : w1.heap[g]? = some (.cells #[.string top] 9 (0, 0)) := by rw [hw1, ← hg]; exact blk_new w _
  have HB1 : Below w.heap.size w w1 := by rw [hw1]; exact below_alloc (Below.refl _ _) _
  have hp := blk_lt h.hP
  have hm := h.hM.lt
  have HO := Aside0.mk (row_out.forget b0 p mb n g top (fun q => underF q top) room v S w1 (h.below HB1) HG1 (by omega) (by omega) (fun w2 s h2 hs => clo_forget g top s w2 h2 hs ht))
  have HB := Aside0.mk HB1
  clear h ht HG1 HB1 hp hm
  go_enter Tryd.func26, Tryd.ntmps26
  go_wp2_with fail
  rw [← hw1]
  clear hw1
  go_wp2_with fail
  refine HO.out.mono ?_
  rintro e w2 ⟨rfl, v', hL, hBm, hO⟩
  have HL := Aside0.mk hL
  have HBm := Aside0.mk hBm
  have HOo := Aside0.mk hO
  clear hL hBm hO HO
  go_wp2
  go_ret
  exact ⟨rfl, v', HL.out, ((Bm.refl p mb w).below HB.out).trans HBm.out, fun j hj => Nat.le_trans HB.out.size (HOo.out j hj)⟩
def mt (s : St) (x : Ln) : Bool := s.kind == 1 && (s.ino == x.ino) && (s.size == x.size) && (s.sec == x.sec) && (s.nano == x.nano)
set_option maxHeartbeats 8000000 in
set_option maxRecDepth 20000 in
theorem led_Ask.at_ (b0 p mb n : Nat) (room : Int) (v : Value) (S : List Ln) (q : ByteArray) (s : St) (w : World) (h : Lg b0 p mb n room v S w) (hq : q.size ≤ 1000000) (hS : S.length < 1000000) (hn : n ≤ 1000000) :
    Calls Tryd.prog 25 #[.pointer (some ⟨p, 0, none⟩), .string q, stV s] w fun e w' =>
      (e = .returned (.tuple #[.string ⟨#[]⟩, .bool false]) ∧ (∀ x ∈ S, x.path = q → mt s x = false) ∧ Lg b0 p mb n room v S w' ∧ Below w.heap.size w w') ∨
      (∃ x ∈ S, x.path = q ∧ mt s x = true ∧ e = .returned (.tuple #[.string x.sum, .bool true]) ∧ ∃ v', Lg b0 p mb (n + 1) room v' (lastS x S) w' ∧ Bm p mb w w' ∧ ∀ j, v'.ownBlock = some j → w.heap.size ≤ j) := by
  obtain ⟨w1, hw1⟩ : ∃ w1, w.alloc (.cells (stC s) 37) = w1 := ⟨_, rfl⟩
  obtain ⟨g, hg⟩ : ∃ g, w.heap.size = g := ⟨_, rfl⟩
  have HG1 : Aside0 (w1.heap[g]? = some (.cells (stC s) 37 (0, 0))) := ⟨by rw [← hw1, ← hg]; exact blk_new w _⟩
  have HB1 : Aside0 (Below g w w1) := ⟨by rw [← hw1, ← hg]; exact below_alloc (Below.refl _ _) _⟩
  have HL1 := Aside0.mk (h.below (by rw [hg]; exact HB1.out))
  have HW1 : Aside0 (w1.heap.size = g + 1) := ⟨by rw [← hw1, ← hg]; simp⟩
  obtain ⟨x, b, hlk, hb, hxy⟩ := HL1.out.hM.look q (by unfold maxLen; omega)
  have HXY := Aside0.mk (And.intro hb hxy)
  have HQ := Aside0.mk hq
  have HS := Aside0.mk (And.intro hS hn)
  have q0 := (rw_cells HL1.out.hP).2.2
  clear h hq hS hn hb hxy
  unfold stV
  unfold lnV at hlk
  obtain ⟨gx, hgx⟩ : ∃ gx, g + 1 = gx := ⟨_, rfl⟩
  have hsz : w1.heap.size = gx := by rw [HW1.out, hgx]
  obtain ⟨w2, hw2⟩ : ∃ w2, w1.alloc (.cells #[.string x.path, .int .i64 x.ino, .int .i64 x.size, .int .i64 x.sec, .int .i64 x.nano, .string x.sum] 68) = w2 := ⟨_, rfl⟩
  have HX2 : Aside0 (w2.heap[gx]? = some (.cells #[.string x.path, .int .i64 x.ino, .int .i64 x.size, .int .i64 x.sec, .int .i64 x.nano, .string x.sum] 68 (0, 0))) := ⟨by rw [← hw2, ← hsz]; exact blk_new w1 _⟩
  have HB2 : Aside0 (Below gx w1 w2) := ⟨by rw [← hw2, ← hsz]; exact below_alloc (Below.refl _ _) _⟩
  have HL2 := Aside0.mk (HL1.out.below (by rw [hsz]; exact HB2.out))
  have HG2 := Aside0.mk (blk_below HG1.out (by rw [hsz]; exact HB2.out))
  obtain ⟨s0, s1, s2, s5, s6⟩ := st_cells HG2.out
  have HBW : Aside0 (Below w.heap.size w w2) := ⟨ld_step (by rw [hg]; exact HB1.out) (by rw [hsz]; exact HB2.out)⟩
  have HNE : Aside0 (gx ≠ p ∧ gx ≠ mb) := ⟨by have h1 := blk_lt HL1.out.hP; have h2 := HL1.out.hM.lt; exact ⟨by omega, by omega⟩⟩
  obtain ⟨x0, x1, x2, x3, x4, x5⟩ := ln_cells (x := x) HX2.out
  cases hbb : b with
  | false =>
    subst hbb
    go_enter Tryd.func25, Tryd.ntmps25
    go_wp2
    go_ret2
    refine .inl ⟨rfl, fun y hy e => ?_, HL2.out, by first | exact HBW.out | (rw [← hg]; exact HBW.out)⟩
    have := HXY.out.1.2 (by rw [← e]; exact List.mem_map.2 ⟨y, hy, rfl⟩)
    cases this
  | true =>
    subst hbb
    obtain ⟨y, hy, hyq⟩ := List.mem_map.1 (HXY.out.1.1 rfl)
    have hxy := HXY.out.2 y hy hyq
    subst hxy
    subst hyq
    have HXS := Aside0.mk (And.intro hy (And.intro (rfl : x.path = x.path) HXY.out.2))
    clear hy
    by_cases k0 : s.kind = 1
    rotate_left
    · have e0 : (s.kind == 1) = false := beq_eq_false_iff_ne.mpr k0
      have e0' : (s.kind != 1) = true := bne_iff_ne.mpr k0
      have hmt : mt s x = false := by unfold mt; simp [k0]
      have HMT := Aside0.mk hmt
      clear hmt k0
      go_enter Tryd.func25, Tryd.ntmps25
      go_wp2
      go_ret2
      exact .inl ⟨rfl, fun y hy e => by rw [← HXS.out.2.2 y hy e]; exact HMT.out, HL2.out, by first | exact HBW.out | (rw [← hg]; exact HBW.out)⟩
    have e0 : (s.kind == 1) = true := beq_iff_eq.mpr k0
    have e0' : (s.kind != 1) = false := bne_eq_false_iff_eq.mpr k0
    by_cases k1 : s.ino = x.ino
    rotate_left
    · have e1 : (s.ino == x.ino) = false := beq_eq_false_iff_ne.mpr k1
      have e1' : (s.ino != x.ino) = true := bne_iff_ne.mpr k1
      have hmt : mt s x = false := by unfold mt; simp [k1]
      have HMT := Aside0.mk hmt
      clear hmt k1
      go_enter Tryd.func25, Tryd.ntmps25
      go_wp2
      go_ret2
      exact .inl ⟨rfl, fun y hy e => by rw [← HXS.out.2.2 y hy e]; exact HMT.out, HL2.out, by first | exact HBW.out | (rw [← hg]; exact HBW.out)⟩
    have e1 : (s.ino == x.ino) = true := beq_iff_eq.mpr k1
    have e1' : (s.ino != x.ino) = false := bne_eq_false_iff_eq.mpr k1
    by_cases k2 : s.size = x.size
    rotate_left
    · have e2 : (s.size == x.size) = false := beq_eq_false_iff_ne.mpr k2
      have e2' : (s.size != x.size) = true := bne_iff_ne.mpr k2
      have hmt : mt s x = false := by unfold mt; simp [k2]
      have HMT := Aside0.mk hmt
      clear hmt k2
      go_enter Tryd.func25, Tryd.ntmps25
      go_wp2
      go_ret2
      exact .inl ⟨rfl, fun y hy e => by rw [← HXS.out.2.2 y hy e]; exact HMT.out, HL2.out, by first | exact HBW.out | (rw [← hg]; exact HBW.out)⟩
    have e2 : (s.size == x.size) = true := beq_iff_eq.mpr k2
    have e2' : (s.size != x.size) = false := bne_eq_false_iff_eq.mpr k2
    by_cases k3 : s.sec = x.sec
    rotate_left
    · have e3 : (s.sec == x.sec) = false := beq_eq_false_iff_ne.mpr k3
      have e3' : (s.sec != x.sec) = true := bne_iff_ne.mpr k3
      have hmt : mt s x = false := by unfold mt; simp [k3]
      have HMT := Aside0.mk hmt
      clear hmt k3
      go_enter Tryd.func25, Tryd.ntmps25
      go_wp2
      go_ret2
      exact .inl ⟨rfl, fun y hy e => by rw [← HXS.out.2.2 y hy e]; exact HMT.out, HL2.out, by first | exact HBW.out | (rw [← hg]; exact HBW.out)⟩
    have e3 : (s.sec == x.sec) = true := beq_iff_eq.mpr k3
    have e3' : (s.sec != x.sec) = false := bne_eq_false_iff_eq.mpr k3
    by_cases k4 : s.nano = x.nano
    rotate_left
    · have e4 : (s.nano == x.nano) = false := beq_eq_false_iff_ne.mpr k4
      have e4' : (s.nano != x.nano) = true := bne_iff_ne.mpr k4
      have hmt : mt s x = false := by unfold mt; simp [k4]
      have HMT := Aside0.mk hmt
      clear hmt k4
      go_enter Tryd.func25, Tryd.ntmps25
      go_wp2
      go_ret2
      exact .inl ⟨rfl, fun y hy e => by rw [← HXS.out.2.2 y hy e]; exact HMT.out, HL2.out, by first | exact HBW.out | (rw [← hg]; exact HBW.out)⟩
    have e4 : (s.nano == x.nano) = true := beq_iff_eq.mpr k4
    have e4' : (s.nano != x.nano) = false := bne_eq_false_iff_eq.mpr k4
    have hmt : mt s x = true := by unfold mt; simp [k0, k1, k2, k3, k4]
    have HMT := Aside0.mk hmt
    have HLa := Aside0.mk (row_last.at_ b0 p mb n room v S x w2.drew (HL2.out.below (below_drew (Below.refl _ _))) HQ.out HS.out.1 HS.out.2)
    unfold lnV at HLa
    clear hmt k0 k1 k2 k3 k4
    go_enter Tryd.func25, Tryd.ntmps25
    go_wp2_with fail
    refine start_ (n := 6) (S := fun w' => w'.cell? ⟨gx, 0, none⟩ = some (.string x.path) ∧ w'.cell? ⟨gx, 1, none⟩ = some (.int .i64 x.ino) ∧ w'.cell? ⟨gx, 2, none⟩ = some (.int .i64 x.size) ∧ w'.cell? ⟨gx, 3, none⟩ = some (.int .i64 x.sec) ∧ w'.cell? ⟨gx, 4, none⟩ = some (.int .i64 x.nano) ∧ w'.cell? ⟨gx, 5, none⟩ = some (.string x.sum)) (ds := []) #[false, false, false, false, false, false] (by kernel_rfl) rfl rfl ⟨(ln_cells HX2.out).1, (ln_cells HX2.out).2.1, (ln_cells HX2.out).2.2.1, (ln_cells HX2.out).2.2.2.1, (ln_cells HX2.out).2.2.2.2.1, (ln_cells HX2.out).2.2.2.2.2⟩ (fun hHeld => ?_)
    refine pure_ (i := 0) (N := some 59) (v := ?_) (a' := ?_) #[true, false, false, false, false, false] rfl rfl (by kernel_rfl) (fun _ _ _ h => h) (Or.inl ⟨by rfl, ?_⟩) ?_ ?_
    rotate_left
    · intro w'
      go_simp
      with_reducible rfl
    rotate_left
    · simp only [Act.put, List.setIfInBounds_toArray, List.set_cons_zero, List.set_cons_succ, i64_w, i32_w]
      rfl
    refine pure_ (i := 1) (N := some 60) (v := ?_) (a' := ?_) #[true, true, false, false, false, false] rfl rfl (by kernel_rfl) (fun _ _ _ h => h) (Or.inl ⟨by rfl, ?_⟩) ?_ ?_
    rotate_left
    · intro w'
      go_simp
      with_reducible rfl
    rotate_left
    · simp only [Act.put, List.setIfInBounds_toArray, List.set_cons_zero, List.set_cons_succ, i64_w, i32_w]
      rfl
    refine pure_ (i := 2) (N := some 61) (v := ?_) (a' := ?_) #[true, true, true, false, false, false] rfl rfl (by kernel_rfl) (fun _ _ _ h => h) (Or.inl ⟨by rfl, ?_⟩) ?_ ?_
    rotate_left
    · intro w'
      go_simp
      with_reducible rfl
    rotate_left
    · simp only [Act.put, List.setIfInBounds_toArray, List.set_cons_zero, List.set_cons_succ, i64_w, i32_w]
      rfl
    refine pure_ (i := 3) (N := some 62) (v := ?_) (a' := ?_) #[true, true, true, true, false, false] rfl rfl (by kernel_rfl) (fun _ _ _ h => h) (Or.inl ⟨by rfl, ?_⟩) ?_ ?_
    rotate_left
    · intro w'
      go_simp
      with_reducible rfl
    rotate_left
    · simp only [Act.put, List.setIfInBounds_toArray, List.set_cons_zero, List.set_cons_succ, i64_w, i32_w]
      rfl
    refine take_ (i := 4) (N := some 63) (v := ?_) (a' := ?_) #[true, true, true, true, true, false] rfl rfl (by kernel_rfl) (fun _ _ _ h => h) (Or.inl ⟨by rfl, ?_⟩) hHeld ?_ ?_
    rotate_left
    · rintro w' ⟨s0, s1, s2, s3, s4, s5⟩
      go_simp
      with_reducible rfl
    rotate_left
    · simp only [Act.put, List.setIfInBounds_toArray, List.set_cons_zero, List.set_cons_succ, i64_w, i32_w]
      rfl
    refine one_ (i := 5) (N := some 64) #[true, true, true, true, true, true] rfl rfl (by kernel_rfl) (by decide) (fun K hK => ?_)
    refine goes_ Tryd.func42 (by kernel_rfl) rfl #[.pointer (some ⟨p, 1, none⟩), .string x.path, .agg #[.string x.path, .int .i64 x.ino, .int .i64 x.size, .int .i64 x.sec, .int .i64 x.nano, .string x.sum]] (by rfl) rfl rfl (by simp only [List.map_toArray, List.map_cons, List.map_nil]; rfl) ?_
    with_reducible refine (HLa.out).mono ?_
    rintro e w3 ⟨rfl, v3, hL3, hB3, hO3⟩
    refine ⟨_, rfl, ?_⟩
    have HL3 := Aside0.mk hL3
    have HB3 := Aside0.mk hB3
    have HO3 := Aside0.mk hO3
    have HX3 := Aside0.mk (hB3.blk (w := w2.drew) HX2.out HNE.out.1 HNE.out.2)
    clear hL3 hB3 hO3
    refine hK.out _ _ ⟨(ln_cells HX3.out).1, (ln_cells HX3.out).2.1, (ln_cells HX3.out).2.2.1, (ln_cells HX3.out).2.2.2.1, (ln_cells HX3.out).2.2.2.2.1, (ln_cells HX3.out).2.2.2.2.2⟩ (fun hHeld => ?_)
    clear hK K
    refine norm_ (a' := ?_) ?_ ?_
    rotate_left
    · show Act.put _ (some 64) _ = _
      simp only [Act.put, List.setIfInBounds_toArray, List.set_cons_zero, List.set_cons_succ, i64_w, i32_w]
      rfl
    refine done_ (by kernel_rfl) ?_
    have x5' := (ln_cells HX3.out).2.2.2.2.2
    clear hHeld s0 s1 s2 s5 s6 x0 x1 x2 x3 x4 x5
    go_wp2
    go_ret2
    exact .inr ⟨x, HXS.out.1, rfl, HMT.out, rfl, v3, HL3.out, (((Bm.refl p mb w).below HBW.out).below (below_drew (Below.refl _ _))).trans HB3.out, fun j hj => by have h1 := HO3.out j hj; have h2 : w2.heap.size ≤ j := h1; have := HBW.out.size; omega⟩


end Go.Proofs.YtniboafnkiijcaaDoor.P
