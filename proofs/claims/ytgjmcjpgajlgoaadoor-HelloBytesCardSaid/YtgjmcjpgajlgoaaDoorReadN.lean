/- Numbers read one behind the other, and where they are laid in memory: words for two walks by hand. -/
import Derived.Test.YtgjmcjpgajlgoaaDoorWWords
import Derived.Test.YtgjmcjpgajlgoaaDoorWLast
import Derived.Test.YtgjmcjpgajlgoaaDoorWMore
import Derived.Test.YtgjmcjpgajlgoaaDoorOwn
set_option linter.unusedVariables false
namespace Go.Proofs.YtgjmcjpgajlgoaaDoor.P
open Go.RowKit Go.Proofs.YtgjmcjpgajlgoaaDoorW.PrintWords Go.Proofs.YtgjmcjpgajlgoaaDoorW.PrintLast Go.Proofs.YtgjmcjpgajlgoaaDoorW.PrintMore
/-- m numbers, one behind the other: what they are, the place behind, and what is wrong first. -/
def readN (G : List Int → Int → Option (Int × Int × Int)) (l : List Int) : Nat → Int → Option (List Int × Int × Int)
  | 0, a => some ([], a, 0)
  | m + 1, a => (G l a).bind fun g => if g.2.2 = 0 then (readN G l m g.2.1).bind fun r => some (g.1 :: r.1, r.2.1, r.2.2) else some ([], 0, g.2.2)
def five (vs : List Int) (j : Nat) : Int := vs.getD j 0
def fiveC (vs : List Int) : Array Value := #[.int .i64 (five vs 0), .int .i64 (five vs 1), .int .i64 (five vs 2), .int .i64 (five vs 3), .int .i64 (five vs 4)]
theorem fiveC_snoc (vs : List Int) (x : Int) (h : vs.length < 5) : (fiveC vs).setIfInBounds vs.length (.int .i64 x) = fiveC (vs ++ [x]) := by
  match vs, h with
  | [], _ => rfl
  | [a], _ => rfl
  | [a, b], _ => rfl
  | [a, b, c], _ => rfl
  | [a, b, c, d], _ => rfl
  | _ :: _ :: _ :: _ :: _ :: _, h => simp at h; omega
theorem off_read {w : World} {A : Option Addr} {l : List Int} (hC : Kd.C (Kd.int .u8) w A l.length l) (h : 0 < l.length) : ∃ ad, A = some ad ∧ w.cell? ad = some (.int .u8 (rd l 0)) := by
  obtain ⟨ad, e, hx⟩ := Kd.at_int hC 0 (by decide) (by omega)
  exact ⟨ad, e, by simpa [Addr.add_zero'] using hx⟩
theorem fr_new (w : World) (o : Obj) : (w.alloc o).heap[w.heap.size]? = some o := by
  show (w.heap.push o)[w.heap.size]? = some o
  simp
theorem fr_size (w : World) (o : Obj) : (w.alloc o).heap.size = w.heap.size + 1 := by
  show (w.heap.push o).size = _
  simp
theorem R_sl {w : World} {b0 : Nat} {ok : Nat → Prop} {v : Value} {l : List Int} {e : Nat} (h : (Kd.int .u8).R e w b0 ok v l) : ∃ A c, v = .slice A l.length c ∧ l.length ≤ c ∧ Kd.C (Kd.int .u8) w A l.length l := by
  obtain ⟨A, c, rfl⟩ := Kd.R_slice h
  obtain ⟨_, h2, h3⟩ := Kd.R_reads' h
  exact ⟨A, c, rfl, h2, h3⟩
abbrev off0 : Array Value := #[.int .i64 0, .int .i64 0, .int .i64 0, .int .i64 0, .int .i64 0]
abbrev ptrs (q : Nat) : Array Value := #[.pointer (some ⟨q, 0, none⟩), .pointer (some ⟨q, 1, none⟩), .pointer (some ⟨q, 2, none⟩), .pointer (some ⟨q, 3, none⟩), .pointer (some ⟨q, 4, none⟩)]
/-- Where the numbers go: the offer at w1's end, the pointers behind it. -/
structure RdSt (w1 : World) (pre : List Int) (w' : World) : Prop where
  hB : Below w1.heap.size w1 w'
  hQ : w'.heap[w1.heap.size]? = some (.cells (fiveC pre) 23 (0, 0))
  hR : w'.heap[w1.heap.size + 1]? = some (.cells (ptrs w1.heap.size) 43 (0, 0))
theorem RdSt.start (w1 : World) : RdSt w1 [] ((w1.alloc (.cells off0 23)).alloc (.cells (ptrs w1.heap.size) 43)) := by
  have s1 := fr_size w1 (.cells off0 23)
  have n1 := fr_new w1 (.cells off0 23)
  have n2 := fr_new (w1.alloc (.cells off0 23)) (.cells (ptrs w1.heap.size) 43)
  have b2 := below_alloc (Below.refl _ (w1.alloc (.cells off0 23))) (.cells (ptrs w1.heap.size) 43)
  refine ⟨below_alloc (below_alloc (Below.refl _ w1) _) _, (b2.block _ (by omega)).trans n1, ?_⟩
  rw [← s1]
  exact n2
theorem RdSt.step {w1 w' w'' : World} {pre : List Int} (h : RdSt w1 pre w') (hb : Below w'.heap.size w' w'') : RdSt w1 pre w'' :=
  ⟨h.hB.trans (hb.mono h.hB.size), (hb.block _ (blk_lt h.hQ)).trans h.hQ, (hb.block _ (blk_lt h.hR)).trans h.hR⟩
theorem RdSt.put {w1 w' : World} {pre : List Int} (h : RdSt w1 pre w') (x : Int) (hl : pre.length < 5) : RdSt w1 (pre ++ [x]) (w'.setCell ⟨w1.heap.size, pre.length, none⟩ (.int .i64 x)) :=
  ⟨h.hB.setCell (p := ⟨w1.heap.size, pre.length, none⟩) (Nat.le_refl _) _, by rw [← fiveC_snoc pre x hl]; exact blk_set h.hQ _ _, blk_far h.hR (p := ⟨w1.heap.size, pre.length, none⟩) (show w1.heap.size + 1 ≠ w1.heap.size by omega) _⟩
theorem RdSt.ptr {w1 w' : World} {pre : List Int} (h : RdSt w1 pre w') (hR : w'.heap[w1.heap.size + 1]? = some (.cells (ptrs w1.heap.size) 43 (0, 0))) (i : Nat) (hi : i < 5) : w'.cell? ⟨w1.heap.size + 1, i, none⟩ = some (.pointer (some ⟨w1.heap.size, i, none⟩)) := by
  rw [cell_of_row _ _ _ _ 43 (0, 0) hR]
  match i, hi with
  | 0, _ => rfl
  | 1, _ => rfl
  | 2, _ => rfl
  | 3, _ => rfl
  | 4, _ => rfl
theorem RdSt.cell {w1 w' : World} {pre : List Int} (h : RdSt w1 pre w') (i : Nat) (hi : i < 5) : w'.cell? ⟨w1.heap.size, i, none⟩ = some (.int .i64 (five pre i)) := by
  rw [cell_of_row _ _ _ _ 23 (0, 0) h.hQ]
  match i, hi with
  | 0, _ => rfl
  | 1, _ => rfl
  | 2, _ => rfl
  | 3, _ => rfl
  | 4, _ => rfl
theorem RdSt.size {w1 w' : World} {pre : List Int} (h : RdSt w1 pre w') : w1.heap.size + 1 < w'.heap.size := blk_lt h.hR
theorem off_cells {w : World} {g : Nat} {t : Nat} (h : w.heap[g]? = some (.cells off0 t (0, 0))) : w.cell? ⟨g, 0, none⟩ = some (.int .i64 0) ∧ w.cell? ⟨g, 1, none⟩ = some (.int .i64 0) ∧ w.cell? ⟨g, 2, none⟩ = some (.int .i64 0) ∧ w.cell? ⟨g, 3, none⟩ = some (.int .i64 0) ∧ w.cell? ⟨g, 4, none⟩ = some (.int .i64 0) := by
  refine ⟨?_, ?_, ?_, ?_, ?_⟩ <;> (rw [cell_of_row _ _ _ _ t (0, 0) h]; rfl)
theorem five_cell {w : World} {g t : Nat} {vs : List Int} (h : w.heap[g]? = some (.cells (fiveC vs) t (0, 0))) (i : Nat) (hi : i < 5) : w.cell? ⟨g, i, none⟩ = some (.int .i64 (five vs i)) := by
  rw [cell_of_row _ _ _ _ t (0, 0) h]
  match i, hi with
  | 0, _ => rfl
  | 1, _ => rfl
  | 2, _ => rfl
  | 3, _ => rfl
  | 4, _ => rfl
/-- Where the document's numbers go: an array at w1's end. -/
structure RdRf (w1 : World) (pre : List Int) (w' : World) : Prop where
  hB : Below w1.heap.size w1 w'
  hQ : w'.heap[w1.heap.size]? = some (.cells (fiveC pre) 47 (0, 0))
theorem RdRf.start (w1 : World) : RdRf w1 [] (w1.alloc (.cells off0 47)) := ⟨below_alloc (Below.refl _ w1) _, fr_new w1 _⟩
theorem RdRf.step {w1 w' w'' : World} {pre : List Int} (h : RdRf w1 pre w') (hb : Below w'.heap.size w' w'') : RdRf w1 pre w'' :=
  ⟨h.hB.trans (hb.mono h.hB.size), (hb.block _ (blk_lt h.hQ)).trans h.hQ⟩
theorem RdRf.put {w1 w' : World} {pre : List Int} (h : RdRf w1 pre w') (x : Int) (hl : pre.length < 5) : RdRf w1 (pre ++ [x]) (w'.setCell ⟨w1.heap.size, pre.length, none⟩ (.int .i64 x)) :=
  ⟨h.hB.setCell (p := ⟨w1.heap.size, pre.length, none⟩) (Nat.le_refl _) _, by rw [← fiveC_snoc pre x hl]; exact blk_set h.hQ _ _⟩
theorem RdRf.cell {w1 w' : World} {pre : List Int} (h : RdRf w1 pre w') (i : Nat) (hi : i < 5) : w'.cell? ⟨w1.heap.size, i, none⟩ = some (.int .i64 (five pre i)) := five_cell h.hQ i hi
theorem RdRf.size {w1 w' : World} {pre : List Int} (h : RdRf w1 pre w') : w1.heap.size < w'.heap.size := blk_lt h.hQ
end Go.Proofs.YtgjmcjpgajlgoaaDoor.P
