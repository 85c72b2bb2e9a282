-- Written by a program of the session (wip/tool/mk.py) out of the translation; Lean checks it.
import Derived.Test.YtplpckppejnicaaDoorPx0
namespace Go.Proofs.YtplpckppejnicaaDoor.P
open Go.RowKit Go.Proofs.YtplpckppejnicaaDoorW.PrintWords Go.Proofs.YtplpckppejnicaaDoorW.PrintLast Go.Proofs.YtplpckppejnicaaDoorW.PrintMore
attribute [local go_sem] max2_int min2_int max_two min_two max_three min_three max_four min_four   -- for this text's walks alone
set_option linter.unusedVariables false
set_option linter.unusedSimpArgs false

/-! ### crc_Join: function 17, a contract of my own -/
open Go.Proofs.YtplpckppejnicaaDoor.Crc
/-- A block that holds 32 registers. -/
def Regs (M : List Nat) : Array Value := (M.map fun (r : Nat) => Value.int .u32 (r : Int)).toArray
theorem and1_nat (y : Nat) (hy : y < 2 ^ 32) : Go.bits .and .u32 (y : Int) 1 = ((y % 2 : Nat) : Int) := by
  have := bits_mask .u32 32 (by decide) wraps_u32 1 (by decide) (y : Int) (by omega) (by exact_mod_cast hy)
  rw [show (2 : Int) ^ 1 - 1 = 1 by decide, show (2 : Int) ^ 1 = 2 by decide] at this
  rw [this]; omega
theorem regs_cell {w : World} {g : Nat} {M : List Nat} {T : Nat} (h : w.heap[g]? = some (.cells (Regs M) T (0, 0))) (i : Nat) (hi : i < M.length) : w.cell? ⟨g, i, none⟩ = some (.int .u32 (M[i] : Int)) := by
  rw [blk_cell h]
  simp [Regs, hi]
set_option maxHeartbeats 1000000 in
theorem crc_of.calls (g : Nat) (M : List Nat) (x : Nat) (w : World) (hB : w.heap[g]? = some (.cells (Regs M) 45 (0, 0))) (hl : M.length = 32) (hM : ∀ r ∈ M, r < 2 ^ 32) (hx : x < 2 ^ 32) :
    Calls Tryd.prog 22 #[.pointer (some ⟨g, 0, none⟩), .int .u32 (x : Int)] w fun e w' => e = .returned (.int .u32 (rowsOf M x : Int)) ∧ w' = w := by
  have HB := Aside0.mk hB
  have HL := Aside0.mk hl
  have HM := Aside0.mk hM
  clear hB hl hM
  go_enter Tryd.func22, Tryd.ntmps22
  go_wp2
  go_loopg [1, 5, 6] 32 (fun n v1 v5 v6 w' => w' = w ∧ ∃ i y o : Nat, i ≤ 32 ∧ n = 32 - i ∧ v1 = .int .u32 (y : Int) ∧ v5 = .int .u32 (o : Int) ∧ v6 = .int .i64 (i : Int) ∧ Aside0 (y < 2 ^ (32 - i)) ∧ o < 2 ^ 32 ∧ Aside0 (o ^^^ rowsOf (M.drop i) y = rowsOf M x))
  case atStart => exact ⟨rfl, 0, x, 0, Nat.zero_le _, rfl, rfl, rfl, rfl, ⟨hx⟩, by decide, ⟨by simp⟩⟩
  case round =>
    obtain ⟨rfl, i, y, o, hi, rfl, rfl, rfl, rfl, hy, ho, he⟩ := hrel
    have hy32 : y < 2 ^ 32 := Nat.lt_of_lt_of_le hy.out (Nat.pow_le_pow_right (by decide) (by omega))
    by_cases h0 : y = 0
    · have hb0 : ((y : Int) != 0) = false := by simp [h0]
      have hee : Aside0 (o = rowsOf M x) := ⟨by have := he.out; rwa [h0, rowsOf_zero, Nat.xor_zero] at this⟩
      clear he h0
      go_wp2
      go_ret
      exact ⟨congrArg (fun q : Nat => Ending.returned (.int .u32 (q : Int))) hee.out, rfl⟩
    · have hb0 : ((y : Int) != 0) = true := by simp [h0]
      have hi32 : i < 32 := by
        rcases Nat.lt_or_ge i 32 with h | h
        · exact h
        · have := hy.out
          rw [show 32 - i = 0 by omega] at this
          simp at this
          exact absurd this h0
      have hlm : i < M.length := by rw [HL.out]; exact hi32
      obtain ⟨r, hr⟩ : ∃ r, M[i] = r := ⟨_, rfl⟩
      have hcell : wr.cell? ⟨g, i, none⟩ = some (.int .u32 (r : Int)) := by rw [regs_cell HB.out i hlm, hr]
      have hr32 : r < 2 ^ 32 := hr ▸ HM.out _ (List.getElem_mem hlm)
      have hd : M.drop i = r :: M.drop (i + 1) := by rw [List.drop_eq_getElem_cons hlm, hr]
      have hy2 : Aside0 (y / 2 < 2 ^ (32 - (i + 1))) := ⟨by have := hy.out; rw [show 32 - i = (32 - (i + 1)) + 1 by omega, Nat.pow_succ] at this; omega⟩
      have hand := and1_nat y hy32
      have hi0 : (0 : Int) ≤ i := by omega
      have hi1 : (i : Int) < 32 := by omega
      by_cases hbit : y % 2 = 1
      · have hb1 : (Go.bits .and .u32 (y : Int) 1 == 1) = true := by rw [hand, hbit]; rfl
        have hes : Aside0 ((o ^^^ r) ^^^ rowsOf (M.drop (i + 1)) (y / 2) = rowsOf M x) := ⟨by
          have := he.out
          rw [hd] at this
          simp only [rowsOf] at this
          rw [if_pos hbit, ← Nat.xor_assoc] at this
          exact this⟩
        have hxo := xor_u32 o r ho hr32
        have HXO := Aside0.mk hxo
        clear hxo hd hand hr he
        go_wp2
        go_roundg (32 - (i + 1))
        case measure => omega
        case rel => exact ⟨rfl, i + 1, y / 2, o ^^^ r, by omega, rfl, rfl, by rw [HXO.out], rfl, hy2, Nat.xor_lt_two_pow ho hr32, hes⟩
      · have hb1 : (Go.bits .and .u32 (y : Int) 1 == 1) = false := by rw [hand, show y % 2 = 0 by omega]; rfl
        have hes : Aside0 (o ^^^ rowsOf (M.drop (i + 1)) (y / 2) = rowsOf M x) := ⟨by
          have := he.out
          rw [hd] at this
          simp only [rowsOf] at this
          rw [if_neg hbit, Nat.zero_xor] at this
          exact this⟩
        clear hd hand hr he
        go_wp2
        go_roundg (32 - (i + 1))
        case measure => omega
        case rel => exact ⟨rfl, i + 1, y / 2, o, by omega, rfl, rfl, rfl, rfl, hy2, ho, hes⟩
theorem blk_setCells {w : World} {g t : Nat} : ∀ (vs : List Value) (pre post : List Value), w.heap[g]? = some (.cells (pre ++ post).toArray t (0, 0)) → post.length = vs.length → (w.setCells g pre.length vs).heap[g]? = some (.cells (pre ++ vs).toArray t (0, 0))
  | [], pre, post, h, hl => by
    have : post = [] := by simpa using hl
    subst this
    exact h
  | v :: vs, pre, p :: post, h, hl => by
    have h1 := blk_set h pre.length v
    have e : (pre ++ p :: post).toArray.setIfInBounds pre.length v = ((pre ++ [v]) ++ post).toArray := by simp
    rw [e] at h1
    have := blk_setCells (w := w.setCell ⟨g, pre.length, none⟩ v) vs (pre ++ [v]) post h1 (by simpa using hl)
    simpa [World.setCells] using this
  | v :: vs, pre, [], h, hl => by simp at hl
theorem blk_setAll {w : World} {g t : Nat} {cs vs : Array Value} (h : w.heap[g]? = some (.cells cs t (0, 0))) (hl : cs.size = vs.size) : (w.setCells g 0 vs.toList).heap[g]? = some (.cells vs t (0, 0)) := by
  have := blk_setCells (w := w) (g := g) (t := t) vs.toList [] cs.toList (by simpa using h) (by simpa using hl)
  simpa using this
theorem below_setCells {w0 : World} {g : Nat} (hg : w0.heap.size ≤ g) : ∀ (vs : List Value) (o : Nat) (w : World), Below w0.heap.size w0 w → Below w0.heap.size w0 (w.setCells g o vs)
  | [], _, _, h => h
  | v :: vs, o, w, h => below_setCells hg vs (o + 1) _ (below_set h hg)
theorem regs_size (M : List Nat) : (Regs M).size = M.length := by simp [Regs]
theorem regs_one (M : List Nat) : (Regs M).all (·.oneCell') = true := by simp [Regs, Value.oneCell']
theorem regs_set (M : List Nat) (i r : Nat) : (Regs M).setIfInBounds i (.int .u32 (r : Int)) = Regs (M.set i r) := by simp [Regs, List.map_set]
theorem regs_zero : Regs (List.replicate 32 0) = #[.int .u32 0, .int .u32 0, .int .u32 0, .int .u32 0, .int .u32 0, .int .u32 0, .int .u32 0, .int .u32 0, .int .u32 0, .int .u32 0, .int .u32 0, .int .u32 0, .int .u32 0, .int .u32 0, .int .u32 0, .int .u32 0, .int .u32 0, .int .u32 0, .int .u32 0, .int .u32 0, .int .u32 0, .int .u32 0, .int .u32 0, .int .u32 0, .int .u32 0, .int .u32 0, .int .u32 0, .int .u32 0, .int .u32 0, .int .u32 0, .int .u32 0, .int .u32 0] := rfl
theorem there_of_blk {w : World} {g t n : Nat} {cs : Array Value} (h : w.heap[g]? = some (.cells cs t (0, 0))) (hn : n ≤ cs.size) : w.there g 0 n := fun j hj => by
  rw [Nat.zero_add]
  refine ⟨?_, blk_frozen h j⟩
  rw [blk_cell h]
  simp; omega
theorem fill_step (L : List Nat) (i : Nat) (hi : i < 32) (hl : L.length = 32) : (L.take i ++ List.replicate (32 - i) 0).set i L[i] = L.take (i + 1) ++ List.replicate (32 - (i + 1)) 0 := by
  have h1 : (L.take i).length = i := by rw [List.length_take]; omega
  have h2 : L.take (i + 1) = L.take i ++ [L[i]] := List.take_succ_eq_append_getElem (by omega)
  rw [List.set_append_right _ _ (by omega), h1, Nat.sub_self, h2, show 32 - i = (32 - (i + 1)) + 1 by omega, List.replicate_succ, List.set_cons_zero, List.append_assoc]
  rfl
set_option maxHeartbeats 2000000 in
theorem crc_twice.calls (g : Nat) (M : List Nat) (w : World) (hB : w.heap[g]? = some (.cells (Regs M) 45 (0, 0))) (hl : M.length = 32) (hM : ∀ r ∈ M, r < 2 ^ 32) :
    Calls Tryd.prog 21 #[.pointer (some ⟨g, 0, none⟩)] w fun e w' => e = .returned (.agg (Regs (M.map (rowsOf M)))) ∧ Below w.heap.size w w' := by
  have HB := Aside0.mk hB
  have HL := Aside0.mk hl
  have HM := Aside0.mk hM
  obtain ⟨L, hL⟩ : ∃ L, M.map (rowsOf M) = L := ⟨_, rfl⟩
  have HLL : Aside0 (L.length = 32) := ⟨by rw [← hL]; simpa using hl⟩
  have HLe : Aside0 (M.map (rowsOf M) = L) := ⟨hL⟩
  rw [hL]
  clear hB hl hM hL
  go_enter Tryd.func21, Tryd.ntmps21
  go_wp2
  go_loopg [4, 5] 32 (fun n v4 v5 w' => ∃ i : Nat, i ≤ 32 ∧ n = 32 - i ∧ v5 = .int .i64 (i : Int) ∧ Aside0 (w'.heap[w.heap.size + 1]? = some (.cells (Regs (L.take i ++ List.replicate (32 - i) 0)) 45 (0, 0))) ∧ Aside0 (w'.heap[w.heap.size]? = some (.cells (Regs (List.replicate 32 0)) 45 (0, 0))) ∧ Aside0 (Below w.heap.size w w'))
  case atStart =>
    refine ⟨0, by omega, rfl, rfl, ⟨?_⟩, ⟨?_⟩, ⟨below_alloc (below_alloc (Below.refl _ w) _) _⟩⟩
    · have := heap_alloc2_new w (.cells (Regs (List.replicate 32 0)) 45) (.cells (Regs (List.replicate 32 0)) 45)
      exact this
    · have := heap_alloc2_old w (.cells (Regs (List.replicate 32 0)) 45) (.cells (Regs (List.replicate 32 0)) 45)
      exact this
  case round =>
    obtain ⟨i, hi, rfl, rfl, h3, h2, hbel⟩ := hrel
    by_cases hlt : i < 32
    · have hb0 : decide ((i : Int) < 32) = true := decide_eq_true (by omega)
      have hi0 : (0 : Int) ≤ i := by omega
      have hi1 : (i : Int) < 32 := by omega
      have hlm : i < M.length := by rw [HL.out]; exact hlt
      have hBr := blk_below HB.out hbel.out
      obtain ⟨r, hr⟩ : ∃ r, M[i] = r := ⟨_, rfl⟩
      have hcell : wr.cell? ⟨g, i, none⟩ = some (.int .u32 (r : Int)) := by rw [regs_cell hBr i hlm, hr]
      have hr32 : r < 2 ^ 32 := hr ▸ HM.out _ (List.getElem_mem hlm)
      have hLi : L[i]'(by rw [HLL.out]; exact hlt) = rowsOf M r := by
        have := HLe.out
        subst this
        simp [hr]
      have hbl : (L.take i ++ List.replicate (32 - i) 0).length = 32 := by have := HLL.out; simp; omega
      have hc3 : wr.cell? ⟨w.heap.size + 1, i, none⟩ = some (.int .u32 (((L.take i ++ List.replicate (32 - i) 0)[i]'(by rw [hbl]; exact hlt) : Nat) : Int)) := regs_cell h3.out i (by rw [hbl]; exact hlt)
      have hf3 := blk_frozen h3.out i
      have HBr := Aside0.mk hBr
      have HLi := Aside0.mk hLi
      clear hBr hr hLi
      go_wp2_with fail
      refine (crc_of.calls g M r wr HBr.out HL.out HM.out hr32).mono ?_
      rintro e w' ⟨rfl, rfl⟩
      go_wp2
      go_roundg (32 - (i + 1))
      case measure => omega
      case rel =>
        refine ⟨i + 1, by omega, rfl, rfl, ⟨?_⟩, ⟨?_⟩, ⟨below_set hbel.out (by omega)⟩⟩
        · refine blk_put h3.out i _ ?_
          rw [regs_set, ← HLi.out, fill_step L i hlt HLL.out]
        · exact blk_far h2.out (by simp) _
    · have hie : i = 32 := by omega
      have hb0 : decide ((i : Int) < 32) = false := decide_eq_false (by omega)
      have h3' : Aside0 (wr.heap[w.heap.size + 1]? = some (.cells (Regs L) 45 (0, 0))) := ⟨by
        have := h3.out
        rw [hie] at this
        rw [List.take_of_length_le (by have := HLL.out; omega)] at this
        simpa using this⟩
      clear h3 hie
      go_wp2_with (first | (refine wpList_load_row rfl 45 (.tmp 3) rfl (w.heap.size + 1) rfl 45 (Regs L) (0, 0) _ h3'.out Tryd.underlying45 rfl (by rw [regs_size, HLL.out]; kernel_rfl) ?_) | (refine wpList_store_mid rfl 45 (.tmp 2) (.tmp 18) rfl w.heap.size 0 (Regs L) rfl rfl (there_of_blk h2.out (by rw [regs_size, regs_size, HLL.out]; simp)) (by rw [regs_size, HLL.out]; kernel_rfl) (regs_one L) ?_))
      refine bodyPost_ret (results_cell_row rfl _ _ w.heap.size 45 (Regs L) (0, 0) _ rfl (blk_setAll h2.out (by rw [regs_size, regs_size, HLL.out]; simp)) Tryd.underlying45 rfl (by rw [regs_size, HLL.out]; kernel_rfl)) rfl ?_
      exact ⟨rfl, below_setCells (Nat.le_refl _) _ _ _ hbel.out⟩
def shRows : List Nat := rows sh
theorem shRows_len : shRows.length = 32 := by simp [shRows, rows]
theorem shRows_zero : shRows[0]'(by rw [shRows_len]; decide) = 3988292384 := by decide +kernel
theorem shRows_succ (j : Nat) (h : j + 1 < 32) : shRows[j + 1]'(by rw [shRows_len]; exact h) = 2 ^ j := by
  have : sh (2 ^ (j + 1)) = 2 ^ j := by
    unfold sh
    rw [if_neg (by rw [Nat.pow_succ]; omega), Nat.pow_succ]; omega
  simp [shRows, rows, this]
theorem rows_len (f : Nat → Nat) : (rows f).length = 32 := by simp [rows]
theorem rows_lt (f : Nat → Nat) (hf : ∀ x, x < 2 ^ 32 → f x < 2 ^ 32) : ∀ r ∈ rows f, r < 2 ^ 32 := by
  intro r hr
  simp only [rows, List.mem_map, List.mem_range] at hr
  obtain ⟨i, hi, rfl⟩ := hr
  exact hf _ (Nat.pow_lt_pow_right (by decide) hi)
theorem rows_shM_twice (P : Nat) : (rows (shM P)).map (rowsOf (rows (shM P))) = rows (shM (P + P)) := by
  rw [rows_twice _ (shM_xor P) (shM_lt P)]
  congr 1
  funext x
  exact (shM_add P P x).symm
set_option maxHeartbeats 2000000 in
theorem crc_Join.walked (a b : Nat) (n : Int) (w : World) (ha : a < 2 ^ 32) (hb : b < 2 ^ 32) (N : Nat) (hn : -9223372036854775808 ≤ n ∧ n ≤ 9223372036854775807) (hN : n.toNat = N) :
    Calls Tryd.prog 17 #[.int .u32 (a : Int), .int .u32 (b : Int), .int .i64 n] w fun e w' => e = .returned (.int .u32 ((shM (8 * N) a ^^^ b : Nat) : Int)) ∧ Below w.heap.size w w' := by
  have HN := Aside0.mk hN
  have Hn := Aside0.mk hn
  clear hN hn
  go_enter Tryd.func17, Tryd.ntmps17
  go_wp2
  go_loopg [8] 31 (fun q v8 w' => ∃ i : Nat, i ≤ 32 ∧ 1 ≤ i ∧ q = 32 - i ∧ v8 = .int .i64 (i : Int) ∧ Aside0 (w'.heap[w.heap.size]? = some (.cells (Regs (shRows.take i ++ List.replicate (32 - i) 0)) 45 (0, 0))) ∧ Aside0 (Below w.heap.size w w'))
  case atStart =>
    refine ⟨1, by omega, by omega, rfl, rfl, ⟨?_⟩, ⟨below_alloc (Below.refl _ w) _⟩⟩
    have e : shRows.take 1 = [3988292384] := by
      have := shRows_zero
      rw [List.take_succ_eq_append_getElem (by rw [shRows_len]; decide), this]; rfl
    rw [e]
    exact heap_alloc_new w _
  case round =>
    obtain ⟨i, hi, hi1, rfl, rfl, hblk, hbel⟩ := hrel
    by_cases hlt : i < 32
    · obtain ⟨j, rfl⟩ : ∃ j, i = j + 1 := ⟨i - 1, by omega⟩
      have hb0 : decide (((j + 1 : Nat) : Int) < 32) = true := decide_eq_true (by omega)
      have hj0 : (0 : Int) ≤ j := by omega
      have hj1 : (j : Int) + 1 < 32 := by omega
      have hbl : (shRows.take (j + 1) ++ List.replicate (32 - (j + 1)) 0).length = 32 := by have := shRows_len; simp; omega
      have hc3 : wr.cell? ⟨w.heap.size, j + 1, none⟩ = some (.int .u32 (((shRows.take (j + 1) ++ List.replicate (32 - (j + 1)) 0)[j + 1]'(by rw [hbl]; exact hlt) : Nat) : Int)) := regs_cell hblk.out (j + 1) (by rw [hbl]; exact hlt)
      have hc := blk_frozen hblk.out (j + 1)
      go_wp2
      go_roundg (32 - (j + 1 + 1))
      case measure => omega
      case rel =>
        refine ⟨j + 1 + 1, by omega, by omega, rfl, rfl, ⟨?_⟩, ⟨below_set hbel.out (Nat.le_refl _)⟩⟩
        refine blk_put hblk.out (j + 1) _ ?_
        rw [← fill_step shRows (j + 1) hlt shRows_len, shRows_succ j hlt, ← regs_set]
        congr 1
        have hp : (2 : Int) ^ j = ((2 ^ j : Nat) : Int) := by rw [Int.natCast_pow]; rfl
        have hlt2 : 2 ^ j < 2 ^ 32 := Nat.pow_lt_pow_right (by decide) (by omega)
        rw [hp]
        congr 1
        generalize 2 ^ j = Q at hlt2
        omega
    · have hie : i = 32 := by omega
      have hb0 : decide ((i : Int) < 32) = false := decide_eq_false (by omega)
      have h1 : Aside0 (wr.heap[w.heap.size]? = some (.cells (Regs (rows (shM 1))) 45 (0, 0))) := ⟨by
        have := hblk.out
        rw [hie, List.take_of_length_le (by rw [shRows_len]; decide)] at this
        simpa [shRows, shM] using this⟩
      clear hblk hie
      go_wp2
      go_loopg [19] 3 (fun q v19 w' => ∃ k : Nat, k ≤ 3 ∧ q = 3 - k ∧ v19 = .int .i64 (k : Int) ∧ Aside0 (w'.heap[w.heap.size]? = some (.cells (Regs (rows (shM (2 ^ k)))) 45 (0, 0))) ∧ Aside0 (Below w.heap.size w w'))
      case atStart => exact ⟨0, by omega, rfl, rfl, h1, hbel⟩
      case round =>
        clear h1 hbel
        obtain ⟨k, hk, rfl, rfl, hblk, hbel⟩ := hrel
        by_cases hk3 : k < 3
        · have hb0 : decide ((k : Int) < 3) = true := decide_eq_true (by omega)
          have hk1 : (k : Int) < 3 := by omega
          go_wp2_with fail
          refine (crc_twice.calls _ (rows (shM (2 ^ k))) _ hblk.out (rows_len _) (rows_lt _ (shM_lt _))).mono ?_
          rintro e w2 ⟨rfl, hb2⟩
          have hblk2 := Aside0.mk (blk_below hblk.out hb2)
          have hbel2 := Aside0.mk (below_step hbel.out hb2)
          clear hb2
          have hR : rows (shM (2 ^ k + 2 ^ k)) = rows (shM (2 ^ (k + 1))) := by rw [Nat.pow_succ]; congr 2; omega
          rw [rows_shM_twice, hR]
          obtain ⟨R2, hR2⟩ : ∃ R2, rows (shM (2 ^ (k + 1))) = R2 := ⟨_, rfl⟩
          rw [hR2]
          have hlen2 : R2.length = 32 := by rw [← hR2, rows_len]
          have hsz2 : (Regs R2).size = (Regs (rows (shM (2 ^ k)))).size := by rw [regs_size, regs_size, hlen2, rows_len]
          have hin2 : (Tryd.prog.info? 45).map (·.size) = some (Regs R2).size := by rw [regs_size, hlen2]; kernel_rfl
          have HR2 := Aside0.mk hR2
          have HS2 := Aside0.mk hsz2
          have HI2 := Aside0.mk hin2
          clear hR2 hR hlen2 hsz2 hin2
          go_wp2_with (refine wpList_store_mid rfl 45 (.tmp 7) (.tmp 21) rfl w.heap.size 0 (Regs R2) rfl rfl (there_of_blk hblk2.out (Nat.le_of_eq HS2.out)) HI2.out (regs_one _) ?_)
          go_roundg (3 - (k + 1))
          case measure => omega
          case rel => exact ⟨k + 1, by omega, rfl, rfl, ⟨by rw [HR2.out]; exact blk_setAll hblk2.out HS2.out.symm⟩, ⟨below_setCells (Nat.le_refl _) _ _ _ hbel2.out⟩⟩
        · have hke : k = 3 := by omega
          have hb0 : decide ((k : Int) < 3) = false := decide_eq_false (by omega)
          have h8 : Aside0 (wr.heap[w.heap.size]? = some (.cells (Regs (rows (shM 8))) 45 (0, 0))) := ⟨by have := hblk.out; rw [hke] at this; exact this⟩
          clear hblk hke
          have hmax : 0 ≤ n → n = (N : Int) := fun h => by have := HN.out; omega
          have hmin : n < 0 → N = 0 := fun h => by have := HN.out; omega
          have hNle : N ≤ 9223372036854775807 := by have := HN.out; have := Hn.out; omega
          have HMX := Aside0.mk hmax
          have HMN := Aside0.mk hmin
          have HNL := Aside0.mk hNle
          clear hmax hmin hNle
          go_wp2
          all_goals
            go_loopg [0, 2] N (fun q v0 v2 w' => ∃ A m P : Nat, m = q ∧ v0 = .int .u32 (A : Int) ∧ v2 = .int .i64 (m : Int) ∧ A < 2 ^ 32 ∧ m ≤ 9223372036854775807 ∧ Aside0 (shM (P * m) A = shM (8 * N) a) ∧ Aside0 (w'.heap[w.heap.size]? = some (.cells (Regs (rows (shM P))) 45 (0, 0))) ∧ Aside0 (Below w.heap.size w w'))
            case atStart =>
              refine ⟨a, N, 8, rfl, rfl, ?_, ha, HNL.out, ⟨rfl⟩, h8, hbel⟩
              first
                | (rw [HMN.out (by assumption)]; rfl)
                | (rw [← HMX.out (by omega)])
            case round =>
              clear h8 hbel
              obtain ⟨A, m, P, rfl, rfl, rfl, hA, hm, hAe, hblk, hbel⟩ := hrel
              by_cases hm0 : 0 < m
              · have hb1 : decide (0 < (m : Int)) = true := decide_eq_true (by omega)
                have hb2 : (0 : Int) < m := by omega
                have hand : Go.bits .and .i64 (m : Int) 1 = ((m % 2 : Nat) : Int) := by
                  have := bits_mask .i64 63 (by decide) (fun n h0 h1 => by rw [IntKind.wrap_i64]; omega) 1 (by decide) (m : Int) (by omega) (by omega)
                  rw [show (2 : Int) ^ 1 - 1 = 1 by decide, show (2 : Int) ^ 1 = 2 by decide] at this
                  rw [this]; omega
                have hP : rows (shM (P + P)) = rows (shM (P + P)) := rfl
                by_cases hodd : m % 2 = 1
                · have hb3 : (Go.bits .and .i64 (m : Int) 1 == 1) = true := by rw [hand, hodd]; rfl
                  have hnx : Aside0 (shM ((P + P) * (m / 2)) (shM P A) = shM (8 * N) a) := ⟨by
                    rw [← hAe.out, ← shM_add]
                    congr 1
                    have : m = 2 * (m / 2) + 1 := by omega
                    generalize m / 2 = z at this
                    subst this
                    rw [Nat.mul_add, Nat.add_mul, Nat.mul_one, Nat.add_comm, ← Nat.mul_assoc, Nat.mul_comm P 2, Nat.two_mul, Nat.add_mul]⟩
                  clear hand hAe
                  go_wp2_with fail
                  refine (crc_of.calls _ (rows (shM P)) A _ hblk.out (rows_len _) (rows_lt _ (shM_lt _)) hA).mono ?_
                  rintro e w2 ⟨rfl, rfl⟩
                  rw [rows_of (shM P) (shM_xor P) A hA]
                  go_wp2_with fail
                  refine (crc_twice.calls _ (rows (shM P)) _ hblk.out (rows_len _) (rows_lt _ (shM_lt _))).mono ?_
                  rintro e w2 ⟨rfl, hb2⟩
                  have hblk2 := Aside0.mk (blk_below hblk.out hb2)
                  have hbel2 := Aside0.mk (below_step hbel.out hb2)
                  clear hb2
                  rw [rows_shM_twice]
                  obtain ⟨R2, hR2⟩ : ∃ R2, rows (shM (P + P)) = R2 := ⟨_, rfl⟩
                  rw [hR2]
                  have hlen2 : R2.length = 32 := by rw [← hR2, rows_len]
                  have hsz2 : (Regs R2).size = (Regs (rows (shM P))).size := by rw [regs_size, regs_size, hlen2, rows_len]
                  have hin2 : (Tryd.prog.info? 45).map (·.size) = some (Regs R2).size := by rw [regs_size, hlen2]; kernel_rfl
                  have HR2 := Aside0.mk hR2
                  have HS2 := Aside0.mk hsz2
                  have HI2 := Aside0.mk hin2
                  clear hR2 hlen2 hsz2 hin2
                  go_wp2_with (refine wpList_store_mid rfl 45 (.tmp 7) (.tmp 34) rfl w.heap.size 0 (Regs R2) rfl rfl (there_of_blk hblk2.out (Nat.le_of_eq HS2.out)) HI2.out (regs_one _) ?_)
                  go_roundg (m / 2)
                  case measure => omega
                  case rel => exact ⟨shM P A, m / 2, P + P, rfl, rfl, rfl, shM_lt _ _ hA, by omega, hnx, ⟨by rw [HR2.out]; exact blk_setAll hblk2.out HS2.out.symm⟩, ⟨below_setCells (Nat.le_refl _) _ _ _ hbel2.out⟩⟩
                · have hb3 : (Go.bits .and .i64 (m : Int) 1 == 1) = false := by rw [hand, show m % 2 = 0 by omega]; rfl
                  have hnx : Aside0 (shM ((P + P) * (m / 2)) A = shM (8 * N) a) := ⟨by
                    rw [← hAe.out]
                    congr 1
                    have : m = 2 * (m / 2) := by omega
                    generalize m / 2 = z at this
                    subst this
                    rw [← Nat.mul_assoc, Nat.mul_comm P 2, Nat.two_mul]⟩
                  clear hand hAe
                  go_wp2_with fail
                  refine (crc_twice.calls _ (rows (shM P)) _ hblk.out (rows_len _) (rows_lt _ (shM_lt _))).mono ?_
                  rintro e w2 ⟨rfl, hb2⟩
                  have hblk2 := Aside0.mk (blk_below hblk.out hb2)
                  have hbel2 := Aside0.mk (below_step hbel.out hb2)
                  clear hb2
                  rw [rows_shM_twice]
                  obtain ⟨R2, hR2⟩ : ∃ R2, rows (shM (P + P)) = R2 := ⟨_, rfl⟩
                  rw [hR2]
                  have hlen2 : R2.length = 32 := by rw [← hR2, rows_len]
                  have hsz2 : (Regs R2).size = (Regs (rows (shM P))).size := by rw [regs_size, regs_size, hlen2, rows_len]
                  have hin2 : (Tryd.prog.info? 45).map (·.size) = some (Regs R2).size := by rw [regs_size, hlen2]; kernel_rfl
                  have HR2 := Aside0.mk hR2
                  have HS2 := Aside0.mk hsz2
                  have HI2 := Aside0.mk hin2
                  clear hR2 hlen2 hsz2 hin2
                  go_wp2_with (refine wpList_store_mid rfl 45 (.tmp 7) (.tmp 34) rfl w.heap.size 0 (Regs R2) rfl rfl (there_of_blk hblk2.out (Nat.le_of_eq HS2.out)) HI2.out (regs_one _) ?_)
                  go_roundg (m / 2)
                  case measure => omega
                  case rel => exact ⟨A, m / 2, P + P, rfl, rfl, rfl, hA, by omega, hnx, ⟨by rw [HR2.out]; exact blk_setAll hblk2.out HS2.out.symm⟩, ⟨below_setCells (Nat.le_refl _) _ _ _ hbel2.out⟩⟩
              · have hme : m = 0 := by omega
                have hb1 : decide (0 < (m : Int)) = false := decide_eq_false (by omega)
                have hAf : Aside0 (A = shM (8 * N) a) := ⟨by have := hAe.out; rw [hme, Nat.mul_zero] at this; exact this⟩
                have hxo := xor_u32 A b hA hb
                have HXO := Aside0.mk hxo
                clear hme hAe hxo
                go_wp2
                go_ret
                refine ⟨?_, hbel.out⟩
                have h1_ := HXO.out
                have h2_ := hAf.out
                rw [h1_, h2_]
                rfl
def crc_Join.f (a0 a1 a2 : Int) : Option Int :=
  if (0 ≤ a0 ∧ a0 < 4294967296) ∧ (0 ≤ a1 ∧ a1 < 4294967296) ∧ (-9223372036854775808 ≤ a2 ∧ a2 ≤ 9223372036854775807) then some ((shM (8 * a2.toNat) a0.toNat ^^^ a1.toNat : Nat) : Int) else none
theorem crc_Join.calls (a0 : Int) (a1 : Int) (a2 : Int) (r : Int) (w : World) (h : crc_Join.f a0 a1 a2 = some r) :
    Calls Tryd.prog 17 #[.int .u32 a0, .int .u32 a1, .int .i64 a2] w fun e w' => e = .returned (.int .u32 r) ∧ Below w.heap.size w w' := by
  unfold crc_Join.f at h
  split at h
  · rename_i hc
    obtain ⟨⟨h0, h1⟩, ⟨h2, h3⟩, h4⟩ := hc
    obtain ⟨a, rfl⟩ := Int.eq_ofNat_of_zero_le h0
    obtain ⟨b, rfl⟩ := Int.eq_ofNat_of_zero_le h2
    obtain rfl := Option.some.inj h
    exact crc_Join.walked a b a2 w (by omega) (by omega) _ h4 rfl
  · cases h


end Go.Proofs.YtplpckppejnicaaDoor.P
