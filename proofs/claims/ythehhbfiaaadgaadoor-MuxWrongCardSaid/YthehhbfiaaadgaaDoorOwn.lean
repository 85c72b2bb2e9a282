/- Lemmas of my own over the print's words: make([]T, 0, n). -/
import Derived.Test.YthehhbfiaaadgaaDoorWWords
import Derived.Test.YthehhbfiaaadgaaDoorWLast
import Derived.Lib.SlBytesConst
import Derived.Lib.ConvBytes
import Derived.Lib.Hide
set_option linter.unusedVariables false
namespace Go.Proofs.YthehhbfiaaadgaaDoorW.PrintWords
open Go.RowKit
abbrev T_ : Bool := true
abbrev F_ : Bool := false
namespace Kd
section
variable {P : Program} {ops : Array Oper} {rest : List Oper} {o : Oper} {a : Act} {Q : Exit → Act → World → Prop} {Kc : Act → World → Prop}
variable {α : Type}
theorem R_cap (d : Kd α) {W : World} (base e : Nat) (z : Value) (hz : z.cells.size = d.sz) (hs0 : 0 < d.sz) (z0 : α) {ok okp : Nat → Prop} (hzero : d.M W base okp z0 z.cells.toList)
    (hok : ∀ k, okp k → ok k) (hfresh : ok W.heap.size) (hbase : base ≤ W.heap.size) (m : Nat) (hm : m ≤ 9223372036854775807) :
    d.R e (W.alloc (.cells (madeCells z.cells (m * d.sz)) e)) base ok (.slice (some ⟨W.heap.size, 0, none⟩) 0 m) [] := by
  have h : d.R e (W.alloc (.cells (madeCells z.cells (m * d.sz)) e)) base ok (.slice (some ⟨W.heap.size, 0, none⟩) m m) (List.replicate m z0) := by
    have hrep := reps_made (R := d.M W base okp) (z0 := z0) hz hs0 hzero m
    refine ⟨fun k hk => ?_, (madeCells z.cells (m * d.sz)).toList, ?_, ?_⟩
    · have : W.heap.size = k := by simpa [Value.ownBlock] using hk
      subst this
      exact hfresh
    · have h2 := World.ownsRow_lit (base := base) (e := e) (size := d.sz) W (madeCells z.cells (m * d.sz)) m hbase (by simpa [maxLen] using hm) (by simpa using hrep.1)
      simpa using h2
    · refine hrep.imp_ (fun p c hp => d.M_mono (fun k hk => ⟨hok k hk.1, fun he => ?_⟩) (M_below (d.M_bound hp) (below_alloc (Below.refl _ _) _)))
      have h3 : k = W.heap.size := by simpa [Value.ownBlock] using he
      have := hk.2.2.1
      omega
  simpa using R_take h (m := 0) (Nat.zero_le _)
theorem run_cap (d : Kd α) {W : World} (e : Nat) (t : TypeId) (m : Nat)
    (ht : P.underlying t = some (.slice e)) (z : Value) (bytes : Nat) (hinfo : (P.info? e).map (fun i => (i.zero, i.size, i.bytes)) = some (some z, d.sz, bytes)) (hb0 : 0 < bytes) (hl : m * bytes ≤ 281474976710656) :
    (Instr.makeSlice t (.int .i64 0) (.int .i64 (m : Int))).run P W = .ok (.slice (some ⟨W.heap.size, 0, none⟩) 0 m) (W.alloc (.cells (madeCells z.cells (m * d.sz)) e)) := by
  obtain ⟨i0, hi, hzz⟩ := Option.map_eq_some_iff.1 hinfo
  simp only [Prod.mk.injEq] at hzz
  obtain ⟨hz0, hz1, hz2⟩ := hzz
  have hm : m ≤ 281474976710656 := Nat.le_trans (Nat.le_mul_of_pos_right _ hb0) hl
  have hr := run_make (P := P) W t e i0 z ht hi hz0 .i64 .i64 0 (m : Int) (by omega) (by omega)
    (by
      have h3 : ((i0.bytes * m : Nat) : Int) ≤ 281474976710656 := by rw [hz2, Nat.mul_comm]; omega
      rwa [Int.natCast_mul] at h3) (by omega)
  simp only [Int.toNat_natCast, Int.toNat_zero] at hr
  rw [hz1] at hr
  exact hr
theorem R_makecap (d : Kd α) {w0 W : World} (base e : Nat) (hgd : o.guard = none) {N : Tmp} (hd : o.dst = some N) (t : TypeId) (x y : Operand) (ho : o.op = .makeSlice t x y) (n : Int) (hx : a.eval x = .int .i64 0) (hy : a.eval y = .int .i64 n)
    (ht : P.underlying t = some (.slice e)) (z : Value) (bytes : Nat) (hinfo : (P.info? e).map (fun i => (i.zero, i.size, i.bytes)) = some (some z, d.sz, bytes)) (hz : z.cells.size = d.sz) (hs0 : 0 < d.sz) (hb0 : 0 < bytes)
    (z0 : α) {ok okp : Nat → Prop} (hzero : d.M W base okp z0 z.cells.toList) (hok : ∀ k, okp k → ok k) (hfresh : ok W.heap.size) (h0 : 0 ≤ n) (hl : n.toNat * bytes ≤ 281474976710656) (HB : Below base w0 W) (hbase : base ≤ W.heap.size)
    (h : ∀ v1 w1, d.R e w1 base ok v1 [] → Below base w0 w1 → W.grownBy w1 none → (∃ b, v1.ownBlock = some b ∧ W.heap.size ≤ b) → wpList P ops Q rest (a.put o.dst v1) w1) : wpList P ops Q (o :: rest) a W := by
  obtain ⟨m, rfl⟩ := Int.eq_ofNat_of_zero_le h0
  simp only [Int.toNat_natCast] at hl
  have hr := run_cap (P := P) d (W := W) e t m ht z bytes hinfo hb0 hl
  have hm : m ≤ 281474976710656 := Nat.le_trans (Nat.le_mul_of_pos_right _ hb0) hl
  refine event_run hgd (v := .slice (some ⟨W.heap.size, 0, none⟩) 0 m) (w1 := W.alloc (.cells (madeCells z.cells (m * d.sz)) e)) (by simp [execOp, ho, hx, hy, hr]) (h _ _ ?_ (HB.alloc hbase _) (World.grownBy_alloc W _ none) ⟨W.heap.size, by simp [Value.ownBlock], Nat.le_refl _⟩)
  exact R_cap d base e z hz hs0 z0 hzero hok hfresh hbase m (by omega)
end
theorem C_len2 {α : Type} {d : Kd α} {w : World} {A : Option Addr} {n m : Nat} {xs : List α} (h : n = m) (hc : d.C w A n xs) : d.C w A m xs := h ▸ hc
/-- A constant's bytes, converted: they are read. -/
theorem C_const (W : World) (e : Nat) (C : List Int) (p : Nat × Nat) (h : C.length ≤ 9223372036854775807) : Kd.C (Kd.int .u8) (W.alloc (.cells (C.map fun x => Value.int .u8 x).toArray e p)) (some ⟨W.heap.size, 0, none⟩) C.length C := by
  refine Kd.C_of_reads (enc := Value.int .u8) (d := (0 : Int)) (h1 := fun _ => rfl) ⟨rfl, h, fun _ => ⟨_, rfl, fun j hj => ?_⟩⟩
  have hh : (W.alloc (.cells (C.map fun x => Value.int .u8 x).toArray e p)).heap[W.heap.size]? = some (.cells (C.map fun x => Value.int .u8 x).toArray e p) := heap_alloc_new W _
  rw [add_plain]
  simp only [World.cell?, hh]
  simp [List.getElem?_eq_getElem hj, List.getD_eq_getElem?_getD]
/-- A string's bytes, converted: they are read. -/
theorem C_bytes_u8 (W : World) (e : Nat) (s : ByteArray) (h : s.size ≤ 9223372036854775807) : Kd.C (Kd.int .u8) (Lib.bytesWorld W e s) (some ⟨W.heap.size, 0, none⟩) (bytesOf s).length (bytesOf s) := by
  have hr := bytes_reads W e s h
  rw [← bytesOf_length s] at hr
  exact Kd.C_of_reads (h1 := fun _ => rfl) hr
end Kd
/-! Arrays compared, read whole, made of a slice. -/
theorem run_part_int {P : Program} (w : World) (e : TypeId) (k : IntKind) (cs : Array Value) (off : Nat) (v : Value) (he : P.underlying e = some (.int k)) (h : cs[off]? = some v) : (part e cs off).run P w = .ok v w := by
  have hagg : (isAgg e).run P w = .ok false w := by
    unfold isAgg
    rw [Sem.run_bind, run_underlying he w]
    simp
  simp [part, Sem.run_bind, hagg, h]
theorem run_forIn_eq {β : Type} {P : Program} (w : World) (s0 s1 : β) (b : Nat → β → Sem (ForInStep β)) (xs ys : List Int) (hl : xs.length = ys.length)
    (hb : ∀ j (h1 : j < xs.length) (h2 : j < ys.length), (b j s0).run P w = .ok (if xs[j] = ys[j] then .yield s0 else .done s1) w) :
    ∀ (m j : Nat), j + m = xs.length → (forIn (m := Sem) (List.range' j m 1) s0 b).run P w = .ok (if xs.drop j = ys.drop j then s0 else s1) w := by
  intro m
  induction m with
  | zero =>
    intro j hj
    rw [List.drop_of_length_le (by omega), List.drop_of_length_le (by omega), if_pos rfl]
    simp
  | succ m ih =>
    intro j hj
    have h1 : j < xs.length := by omega
    have h2 : j < ys.length := by omega
    rw [List.range'_succ, List.forIn_cons, Sem.run_bind, hb j h1 h2, Result.andThen_ok, List.drop_eq_getElem_cons h1, List.drop_eq_getElem_cons h2]
    by_cases he : xs[j] = ys[j]
    · rw [if_pos he]
      have := ih (j + 1) (by omega)
      simp only [List.cons.injEq, he, true_and]
      exact this
    · rw [if_neg he, if_neg (fun hc => he (List.cons.inj hc).1)]
      simp
theorem run_equalIn_ints {P : Program} (w : World) (d : Nat) (ty e : TypeId) (k : IntKind) (n : Nat) (xs ys : List Int) (hu : P.underlying ty = some (.array n e)) (he : P.underlying e = some (.int k)) (hi : (P.info? e).map (·.size) = some 1) (hx : xs.length = n) (hy : ys.length = n) :
    (Op.equalIn (d + 2) ty (.agg (xs.map (Value.int k)).toArray) (.agg (ys.map (Value.int k)).toArray)).run P w = .ok (decide (xs = ys)) w := by
  cases hq : P.info? e with
  | none => simp [hq] at hi
  | some i =>
    have hs : i.size = 1 := by simpa [hq] using hi
    have hsz : (sizeOf e).run P w = .ok 1 w := by simp [sizeOf, typeInfo, hq, hs]
    rw [Op.equalIn, Sem.run_bind, run_underlying hu, Result.andThen_ok]
    dsimp only
    rw [Sem.run_bind, hsz, Result.andThen_ok]
    simp only [Std.Legacy.Range.forIn_eq_forIn_range', show ∀ n : Nat, ([:n] : Std.Legacy.Range).size = n from fun n => by simp [Std.Legacy.Range.size]]
    rw [Sem.run_bind, run_forIn_eq w (none, ()) (some false, ()) _ xs ys (by omega) (fun j h1 h2 => ?_) n 0 (by omega)]
    · rw [Result.andThen_ok, List.drop_zero, List.drop_zero]
      by_cases hxy : xs = ys
      · simp [hxy]
      · simp [hxy]
    · have px := run_part_int (P := P) w e k (xs.map (Value.int k)).toArray (j * 1) (.int k xs[j]) he (by simp [h1])
      have py := run_part_int (P := P) w e k (ys.map (Value.int k)).toArray (j * 1) (.int k ys[j]) he (by simp [h2])
      rw [Sem.run_bind, px, Result.andThen_ok, Sem.run_bind, py, Result.andThen_ok, Sem.run_bind, run_equalIn_int (P := P) w d e k k _ _ he, Result.andThen_ok]
      by_cases hxy : xs[j] = ys[j]
      · simp [hxy]
      · simp [hxy]
theorem run_loadAt_any {P : Program} (w : World) (p : Addr) (ty : TypeId) (cs : List Value) (d : TypeDesc) (hc : ∀ j v, cs[j]? = some v → w.cell? (p.add j) = some v)
    (hu : P.underlying ty = some d) (hd : d.isRow = true) (hi : (P.info? ty).map (·.size) = some cs.length) :
    (Instr.loadAt ty (.pointer (some p))).run P w = .ok (.agg cs.toArray) w := by
  have hl : (loadCells p cs.length).run P w = .ok cs.toArray w := run_loadCells_list (P := P) w p cs hc
  cases hq : P.info? ty with
  | none => simp [hq] at hi
  | some i =>
    have hs : i.size = cs.length := by simpa [hq] using hi
    have hagg : (isAgg ty).run P w = .ok true w := by
      unfold isAgg
      rw [Sem.run_bind, run_underlying hu w]
      cases d <;> simp_all
    simp [Instr.loadAt, Instr.sureAddr, loadVar, Sem.run_bind, hagg, sizeOf, typeInfo, hq, hs, hl]
theorem run_arrayAt {P : Program} (w : World) (ty e : TypeId) (n : Nat) (A : Option Addr) (len cap : Nat) (hu : P.underlying ty = some (.array n e)) (hl : n ≤ len) :
    (Instr.arrayAt ty (.slice A len cap)).run P w = .ok (.pointer A) w := by
  unfold Instr.arrayAt
  rw [Sem.run_bind, run_underlying hu w]
  simp [Nat.not_lt.2 hl]
theorem run_guard_agg {P : Program} (w : World) (t : TypeId) (x y : Operand) (xs ys : Array Value) (h : P.eqGuardType P.depth t = false) : (eqGuard .neq t x y (.agg xs) (.agg ys)).run P w = .ok () w := by
  simp [eqGuard, Sem.run_bind, h]
end Go.Proofs.YthehhbfiaaadgaaDoorW.PrintWords
