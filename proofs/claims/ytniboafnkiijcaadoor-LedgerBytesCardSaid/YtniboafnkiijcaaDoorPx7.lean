-- Written by a program of the session (wip/tool/mk.py) out of the translation; Lean checks it.
import Derived.Test.YtniboafnkiijcaaDoorPx0
import Derived.Test.YtniboafnkiijcaaDoorPx1
import Derived.Test.YtniboafnkiijcaaDoorPx2
import Derived.Test.YtniboafnkiijcaaDoorPx3
import Derived.Test.YtniboafnkiijcaaDoorPx4
import Derived.Test.YtniboafnkiijcaaDoorPx5
namespace Go.Proofs.YtniboafnkiijcaaDoor.P
open Go.RowKit Go.Proofs.YtniboafnkiijcaaDoorW.PrintWords Go.Proofs.YtniboafnkiijcaaDoorW.PrintLast Go.Proofs.YtniboafnkiijcaaDoorW.PrintMore
attribute [local go_sem] max2_int min2_int max_two min_two max_three min_three max_four min_four   -- for this text's walks alone
set_option linter.unusedVariables false
set_option linter.unusedSimpArgs false

/-! ### remoraref33_Ledger_Paths: function 19, a contract of my own -/
/-- The parts of a text byte by byte: pos the place, fr where the part begins. -/
def bsp (s : ByteArray) : Nat → Nat → Nat → List ByteArray → List ByteArray
  | 0, _, fr, acc => acc ++ [s.extract fr s.size]
  | q + 1, pos, fr, acc => if bt s (pos : Int) = 47 then bsp s q (pos + 1) (pos + 1) (acc ++ [s.extract fr pos]) else bsp s q (pos + 1) fr acc
theorem bt_nat (s : ByteArray) (pos : Nat) (h : pos < s.size) : bt s (pos : Int) = ((s[pos]'h).toNat : Int) := by
  unfold bt
  rw [dif_pos (by simpa using h)]
  rfl
theorem get_bt (s : ByteArray) (pos : Nat) (h : pos < s.size) : ((s.get! pos).toNat : Int) = bt s (pos : Int) := by
  rw [bt_nat s pos h]
  have e : s.get! pos = s[pos]'h := by
    simp [ByteArray.get!, getElem!_pos, h]
    rfl
  rw [e]
theorem decode_cont (s : ByteArray) (pos : Nat) (h : pos < s.size) : ∀ j, 0 < j → j < (Utf8.decode s pos).2 → pos + j < s.size ∧ 128 ≤ (s.get! (pos + j)).toNat := by
  intro j hj
  simp only [Utf8.decode]
  repeat' split
  all_goals (intro hlt; simp only [Bool.and_eq_true, decide_eq_true_eq, beq_iff_eq] at *)
  all_goals first
    | omega
    | (have hj1 : j = 1 := by omega
       subst hj1
       constructor <;> omega)
    | (have hj1 : j = 1 ∨ j = 2 := by omega
       rcases hj1 with rfl | rfl <;> constructor <;> omega)
    | (have hj1 : j = 1 ∨ j = 2 ∨ j = 3 := by omega
       rcases hj1 with rfl | rfl | rfl <;> constructor <;> omega)
theorem bsp_skip (s : ByteArray) (fr : Nat) (acc : List ByteArray) : ∀ (k q pos : Nat), (∀ j, j < k → bt s ((pos + j : Nat) : Int) ≠ 47) → bsp s (q + k) pos fr acc = bsp s q (pos + k) fr acc := by
  intro k
  induction k with
  | zero => intro q pos _; rfl
  | succ k ih =>
    intro q pos h
    rw [show q + (k + 1) = (q + k) + 1 by omega, bsp, if_neg (show ¬ bt s (pos : Int) = 47 from h 0 (by omega)), ih q (pos + 1) (fun j hj => by have := h (j + 1) (by omega); rwa [show pos + 1 + j = pos + (j + 1) by omega]), show pos + 1 + k = pos + (k + 1) by omega]
theorem spl_bsp (s : ByteArray) : ∀ (n q pos fr : Nat) (acc : List ByteArray), s.size - pos ≤ n → s.size - pos ≤ q → pos ≤ s.size → spl s q pos fr acc = bsp s (s.size - pos) pos fr acc := by
  intro n
  induction n with
  | zero =>
    intro q pos fr acc h1 h2 h3
    rw [spl_end s q pos fr acc (by omega), show s.size - pos = 0 by omega, bsp]
  | succ n ih =>
    intro q pos fr acc h1 h2 h3
    by_cases hp : pos < s.size
    rotate_left
    · rw [spl_end s q pos fr acc hp, show s.size - pos = 0 by omega, bsp]
    obtain ⟨q, rfl⟩ : ∃ q', q = q' + 1 := ⟨q - 1, by omega⟩
    rw [spl, if_pos hp]
    have hw := dec_pos s pos hp
    have hc := decode_cont s pos hp
    by_cases ha : (s[pos]'hp).toNat < 128
    · have hd := decode_ascii s pos hp ha
      rw [hd]
      obtain ⟨d, hdd⟩ : ∃ d, s.size - pos = d + 1 := ⟨s.size - pos - 1, by omega⟩
      have hd1 : s.size - (pos + 1) = d := by omega
      rw [hdd, bsp, bt_nat s pos hp]
      by_cases h47 : (s[pos]'hp).toNat = 47
      · rw [if_pos h47, if_pos (by omega), ih q (pos + 1) (pos + 1) _ (by omega) (by omega) (by omega), hd1]
      · rw [if_neg h47, if_neg (by omega), ih q (pos + 1) fr _ (by omega) (by omega) (by omega), hd1]
    · have hh := decode_high s pos hp (by omega)
      have hle : pos + (Utf8.decode s pos).2 ≤ s.size := by
        by_cases h1 : (Utf8.decode s pos).2 = 1
        · omega
        · have := (hc ((Utf8.decode s pos).2 - 1) (by omega) (by omega)).1
          omega
      rw [if_neg (by omega), ih q _ fr _ (by omega) (by omega) hle]
      generalize (Utf8.decode s pos).2 = wd at hw hc hle
      rw [show s.size - pos = (s.size - (pos + wd)) + wd by omega]
      refine (bsp_skip s fr acc wd _ pos (fun j hj => ?_)).symm
      by_cases hj0 : j = 0
      · subst hj0
        rw [Nat.add_zero, bt_nat s pos hp]
        omega
      · have := hc j (by omega) hj
        have h2 := get_bt s (pos + j) this.1
        omega
theorem splitF_bsp (s : ByteArray) : splitF s = if s.toList = [] then [] else bsp s s.size 0 0 [] := by
  unfold splitF
  split
  · rfl
  · exact spl_bsp s s.size s.size 0 0 [] (by omega) (by omega) (by omega)
theorem bsp_len (s : ByteArray) : ∀ (d i fr : Nat) (acc : List ByteArray), (bsp s d i fr acc).length ≤ acc.length + d + 1 := by
  intro d
  induction d with
  | zero => intro i fr acc; rw [bsp, List.length_append]; exact Nat.le_refl _
  | succ d ih =>
    intro i fr acc
    rw [bsp]
    split
    · have := ih (i + 1) (i + 1) (acc ++ [s.extract fr i])
      rw [List.length_append] at this
      simp only [List.length_cons, List.length_nil] at this
      omega
    · have := ih (i + 1) fr acc
      omega
theorem splitF_len (s : ByteArray) : (splitF s).length ≤ s.size + 1 := by
  rw [splitF_bsp]
  split
  · exact Nat.zero_le _
  · have := bsp_len s s.size 0 0 []
    simpa using this
theorem split13_l0 (s : ByteArray) (hs : s.size ≤ 1000000) : ∀ (d k i fr : Nat) (acc : List ByteArray), i + d = s.size → d + 1 < k → fr ≤ i → acc.length ≤ i → remoraref13_Split.l0 k s acc (fr : Int) (i : Int) = some (bsp s d i fr acc) := by
  intro d
  induction d with
  | zero =>
    intro k i fr acc hi hk hf hl
    obtain ⟨k, rfl⟩ : ∃ k', k = k' + 1 + 1 := ⟨k - 2, by omega⟩
    have hw : wrap64 ((i : Int) + 1) = ((i + 1 : Nat) : Int) := by unfold wrap64; omega
    have hx : (s.size : Int) = (i : Int) := by omega
    have hn : i = s.size := by omega
    rw [remoraref13_Split.l0, if_pos (by omega), if_pos (by omega), if_pos (by omega), if_pos (by omega), if_pos (by omega), hw, remoraref13_Split.l0, if_neg (by omega), bsp, Int.toNat_natCast, Int.toNat_natCast, hn]
  | succ d ih =>
    intro k i fr acc hi hk hf hl
    obtain ⟨k, rfl⟩ : ∃ k', k = k' + 1 := ⟨k - 1, by omega⟩
    have hw : wrap64 ((i : Int) + 1) = ((i + 1 : Nat) : Int) := by unfold wrap64; omega
    rw [remoraref13_Split.l0, if_pos (by omega), if_neg (by omega), if_pos (by omega), if_pos (by omega), hw, bsp]
    by_cases h47 : bt s (i : Int) = 47
    · rw [if_pos h47, if_pos h47, if_pos (by omega), if_pos (by omega), if_pos (by omega), Int.toNat_natCast, Int.toNat_natCast]
      exact ih k (i + 1) (i + 1) _ (by omega) (by omega) (by omega) (by simp; omega)
    · rw [if_neg h47, if_neg h47]
      exact ih k (i + 1) fr _ (by omega) (by omega) (by omega) (by omega)
theorem split13_f (s : ByteArray) (hs : s.size ≤ 1000000) (k : Nat) (hk : s.size + 2 ≤ k) : remoraref13_Split.f k s = some (splitF s) := by
  rw [splitF_bsp]
  unfold remoraref13_Split.f
  split
  · rfl
  · exact split13_l0 s hs s.size k 0 0 [] (by omega) (by omega) (Nat.le_refl _) (Nat.le_refl _)
theorem idx_cons (b : UInt8) (l : List UInt8) (c : UInt8) : decide (Lib.indexByte (b :: l) c < 0) = (!(b == c) && decide (Lib.indexByte l c < 0)) := by
  have h := Lib.indexByte_ge l c
  rw [Lib.indexByte]
  cases hb : (b == c) with
  | true => simp
  | false =>
    by_cases h1 : Lib.indexByte l c = -1
    · rw [h1]; simp
    · have h2 : (Lib.indexByte l c == -1) = false := beq_eq_false_iff_ne.mpr h1
      rw [h2]
      simp
      omega
theorem nought_l0 (s : ByteArray) (hs : s.size ≤ 1000000) : ∀ (d k i : Nat), i + d = s.size → d < k → remoraref13_nought.l0 k s (i : Int) = some (!decide (Lib.indexByte (s.data.toList.drop i) 0 < 0)) := by
  intro d
  induction d with
  | zero =>
    intro k i hi hk
    obtain ⟨k, rfl⟩ : ∃ k', k = k' + 1 := ⟨k - 1, by omega⟩
    have hd : s.data.toList.drop i = [] := List.drop_eq_nil_of_le (by rw [Array.length_toList]; show s.size ≤ i; omega)
    rw [remoraref13_nought.l0, if_neg (by omega), hd]
    rfl
  | succ d ih =>
    intro k i hi hk
    obtain ⟨k, rfl⟩ : ∃ k', k = k' + 1 := ⟨k - 1, by omega⟩
    have hlt : i < s.size := by omega
    have hlt2 : i < s.data.toList.length := by rw [Array.length_toList]; exact hlt
    have hw : wrap64 ((i : Int) + 1) = ((i + 1 : Nat) : Int) := by unfold wrap64; omega
    have hb : s.data.toList[i] = s[i]'hlt := by rw [Array.getElem_toList]; rfl
    rw [remoraref13_nought.l0, if_pos (by omega), if_pos (by omega), hw, List.drop_eq_getElem_cons hlt2, idx_cons, hb, bt_nat s i hlt]
    by_cases h0 : (s[i]'hlt) = 0
    · rw [h0, if_pos (by rfl)]
      rfl
    · have h0' : (s[i]'hlt == 0) = false := beq_eq_false_iff_ne.mpr h0
      have h1 : ¬ (((s[i]'hlt).toNat : Nat) : Int) = 0 := fun e => h0 (UInt8.toNat_inj.1 (by show (s[i]'hlt).toNat = 0; omega))
      rw [if_neg h1, h0', ih k (i + 1) (by omega) (by omega)]
      rfl
theorem nought_f (s : ByteArray) (hs : s.size ≤ 1000000) (k : Nat) (hk : s.size < k) : remoraref13_nought.f k s = some (!decide (Lib.indexByte s.data.toList 0 < 0)) := nought_l0 s hs s.size k 0 (by omega) hk
theorem right_l0 (L : List ByteArray) (hL : L.length ≤ 1000000) : ∀ (d k i : Nat), i + d = L.length → d + 50 < k → remoraref13_Right.l0 k L (i : Int) = some ((L.drop i).all partF) := by
  intro d
  induction d with
  | zero =>
    intro k i hi hk
    obtain ⟨k, rfl⟩ : ∃ k', k = k' + 1 := ⟨k - 1, by omega⟩
    rw [remoraref13_Right.l0, if_neg (by omega), List.drop_eq_nil_of_le (by omega)]
    rfl
  | succ d ih =>
    intro k i hi hk
    obtain ⟨k, rfl⟩ : ∃ k', k = k' + 1 := ⟨k - 1, by omega⟩
    have hlt : i < L.length := by omega
    have hw : wrap64 ((i : Int) + 1) = ((i + 1 : Nat) : Int) := by unfold wrap64; omega
    have hr : rdOf ByteArray.empty L (i : Int) = L[i] := by
      unfold rdOf
      rw [Int.toNat_natCast, List.getD_eq_getElem?_getD, List.getElem?_eq_getElem hlt]
      rfl
    rw [remoraref13_Right.l0, if_pos (by omega), if_pos (by omega), hw, hr, List.drop_eq_getElem_cons hlt, List.all_cons]
    generalize L[i] = x
    unfold partF
    by_cases c1 : x.toList = []
    · rw [if_pos c1, c1]; rfl
    · rw [if_neg c1]
      by_cases c2 : x.toList = [46]
      · rw [if_pos c2, c2]; simp
      · rw [if_neg c2]
        by_cases c3 : x.toList = [46, 46]
        · rw [if_pos c3, c3]; simp
        · rw [if_neg c3]
          by_cases c4 : (x.size : Int) > 48
          · rw [if_pos c4, decide_eq_false (p := x.size ≤ 48) (by omega)]; simp
          · rw [if_neg c4, nought_f x (by omega) k (by omega), Option.bind_some, decide_eq_true (p := x.size ≤ 48) (by omega), beq_eq_false_iff_ne.mpr c1, beq_eq_false_iff_ne.mpr c2, beq_eq_false_iff_ne.mpr c3]
            cases decide (Lib.indexByte x.data.toList 0 < 0) with
            | true => rw [if_neg (by simp), ih k (i + 1) (by omega) (by omega)]; rfl
            | false => rw [if_pos (by rfl)]; rfl
theorem right13_f (s : ByteArray) (hs : s.size ≤ 1000000) (k : Nat) (hk : s.size + 100 ≤ k) : remoraref13_Right.f k s = some (rightF s) := by
  unfold remoraref13_Right.f rightF
  rw [split13_f s hs k (by omega), Option.bind_some]
  obtain ⟨k, rfl⟩ : ∃ k', k = k' + 1 := ⟨k - 1, by omega⟩
  by_cases c1 : ((splitF s).length : Int) > 12
  · rw [if_pos c1, remoraref13_Right.j0, if_pos rfl, decide_eq_false (p := (splitF s).length ≤ 12) (by omega)]; simp
  · rw [if_neg c1, remoraref13_Right.j0, decide_eq_true (p := (splitF s).length ≤ 12) (by omega)]
    by_cases c2 : (s.size : Int) > 200
    · rw [decide_eq_true (p := (s.size : Int) > 200) c2, if_pos rfl, decide_eq_false (p := s.size ≤ 200) (by omega)]; simp
    · rw [decide_eq_false (p := (s.size : Int) > 200) c2, if_neg (by decide), decide_eq_true (p := s.size ≤ 200) (by omega)]
      have := right_l0 (splitF s) (by omega) (splitF s).length k 0 (by omega) (by omega)
      rw [List.drop_zero] at this
      rw [show (0 : Int) = ((0 : Nat) : Int) from rfl, this, Bool.and_true, Bool.and_true]
theorem may33_f (x : Ln) (hs : x.path.size ≤ 1000000) (k : Nat) (hk : x.path.size + 100 ≤ k) : remoraref33_may.f k x.path x.ino x.size x.sec x.nano x.sum = some (mayF x) := by
  unfold remoraref33_may.f mayF wrongF
  rw [right13_f x.path hs k hk, Option.bind_some]
  obtain ⟨k, rfl⟩ : ∃ k', k = k' + 1 := ⟨k - 1, by omega⟩
  cases rightF x.path with
  | false => rw [if_neg (by decide), remoraref33_may.j0, if_pos rfl]; rfl
  | true =>
    rw [if_pos rfl, remoraref33_may.j0]
    have he : (x.path.toList == ([] : List UInt8)) = x.path.toList.isEmpty := by cases x.path.toList <;> rfl
    rw [he]
    cases x.path.toList.isEmpty with
    | true => rw [if_pos rfl]; rfl
    | false =>
      rw [if_neg (by decide)]
      simp only [Bool.not_true, Bool.or_false, Bool.false_eq_true, if_false]
      repeat' split
      all_goals first | rfl | (simp at *; omega)
theorem under_l0 (L M : List ByteArray) (hL : L.length ≤ 2000000) (hM : M.length ≤ 2000000) : ∀ (d k i : Nat), i + d = M.length → d < k → i ≤ L.length → L.take i = M.take i → remoraref13_Under.l0 k L M (i : Int) = some (decide (M.length ≤ L.length) && decide (L.take M.length = M)) := by
  intro d
  induction d with
  | zero =>
    intro k i hi hk hil hti
    obtain ⟨k, rfl⟩ : ∃ k', k = k' + 1 := ⟨k - 1, by omega⟩
    have him : i = M.length := by omega
    subst him
    rw [List.take_length] at hti
    rw [remoraref13_Under.l0, if_neg (by omega), decide_eq_true hil, decide_eq_true hti]
    rfl
  | succ d ih =>
    intro k i hi hk hil hti
    obtain ⟨k, rfl⟩ : ∃ k', k = k' + 1 := ⟨k - 1, by omega⟩
    have hlt : i < M.length := by omega
    have hw : wrap64 ((i : Int) + 1) = ((i + 1 : Nat) : Int) := by unfold wrap64; omega
    have hr : ∀ (X : List ByteArray) (h : i < X.length), rdOf ByteArray.empty X (i : Int) = X[i] := fun X h => by
      unfold rdOf
      rw [Int.toNat_natCast, List.getD_eq_getElem?_getD, List.getElem?_eq_getElem h]
      rfl
    rw [remoraref13_Under.l0, if_pos (by omega)]
    by_cases c1 : L.length ≤ i
    · rw [if_pos (by omega), decide_eq_false (p := M.length ≤ L.length) (by omega)]; rfl
    · have hlt2 : i < L.length := by omega
      rw [if_neg (by omega), if_pos (by omega), if_pos (by omega), hr L hlt2, hr M hlt, hw]
      by_cases c2 : L[i].toList = M[i].toList
      · rw [if_pos c2]
        refine ih k (i + 1) (by omega) (by omega) (by omega) ?_
        rw [List.take_add_one, List.take_add_one, List.getElem?_eq_getElem hlt2, List.getElem?_eq_getElem hlt, hti, toList_inj.1 c2]
      · rw [if_neg c2]
        have hne : ¬ L.take M.length = M := fun e => c2 (by
          have h1 : (L.take M.length)[i]? = M[i]? := by rw [e]
          rw [List.getElem?_take_of_lt hlt, List.getElem?_eq_getElem hlt2, List.getElem?_eq_getElem hlt] at h1
          rw [Option.some.inj h1])
        rw [decide_eq_false hne, Bool.and_false]
theorem under13_f (p t : ByteArray) (hp : p.size ≤ 1000000) (ht : t.size ≤ 1000000) (k : Nat) (hk : p.size + 2 ≤ k) (hk2 : t.size + 2 ≤ k) : remoraref13_Under.f k p t = some (underF p t) := by
  unfold remoraref13_Under.f underF
  rw [split13_f p hp k hk, Option.bind_some, split13_f t ht k hk2, Option.bind_some]
  have h1 := splitF_len p
  have h2 := splitF_len t
  exact under_l0 (splitF p) (splitF t) (by omega) (by omega) (splitF t).length k 0 (by omega) (by omega) (by omega) rfl
theorem info_line : (Tryd.prog.info? 71).map (fun i => (i.zero, i.size, i.bytes)) = some (some (.agg #[.string ⟨#[]⟩, .int .i64 0, .int .i64 0, .int .i64 0, .int .i64 0, .string ⟨#[]⟩]), 6, 64) := by kernel_rfl
def ofL (x : Ln) : S71 := ⟨x.path, x.ino, x.size, x.sec, x.nano, x.sum⟩
/-- The document's ledger in memory. -/
structure Rl (b0 p : Nat) (room : Int) (v : Value) (S : List Ln) (w : World) : Prop where
  hP : w.heap[p]? = some (.cells #[.int .i64 room, v] 60 (0, 0))
  hR : Kd.R k71 71 w b0 (fun j => j ≠ p) v (S.map ofL)
  hp0 : b0 ≤ p
  hl : S.length ≤ 1000000
theorem Rl.below {b0 p : Nat} {room : Int} {v : Value} {S : List Ln} {w w' : World} (h : Rl b0 p room v S w) (hb : Below w.heap.size w w') : Rl b0 p room v S w' :=
  ⟨blk_below h.hP hb, Kd.R_below h.hR hb, h.hp0, h.hl⟩
theorem rl_cells {w : World} {p : Nat} {u v : Value} {ty : Nat} (h : w.heap[p]? = some (.cells #[u, v] ty (0, 0))) : w.cell? ⟨p, 0, none⟩ = some u ∧ w.cell? ⟨p, 1, none⟩ = some v := by
  refine ⟨?_, ?_⟩ <;> rw [cell_of_row w p _ _ ty (0, 0) h] <;> rfl
theorem map_len (S : List Ln) : (S.map ofL).length = S.length := List.length_map _
theorem line_at {w : World} {A : Option Addr} {n : Nat} {S : List Ln} (h : Kd.C k71 w A n (S.map ofL)) (i : Nat) (h1 : i < n) (h2 : n = S.length) : ∃ ad x, A = some ad ∧ S[i]? = some x ∧ w.cell? (ad.add (i * 6)) = some (.string x.path) ∧ w.cell? ⟨(ad.add (i * 6)).block, (ad.add (i * 6)).off + 1, none⟩ = some (.int .i64 x.ino) ∧ w.cell? ⟨(ad.add (i * 6)).block, (ad.add (i * 6)).off + 2, none⟩ = some (.int .i64 x.size) ∧ w.cell? ⟨(ad.add (i * 6)).block, (ad.add (i * 6)).off + 3, none⟩ = some (.int .i64 x.sec) ∧ w.cell? ⟨(ad.add (i * 6)).block, (ad.add (i * 6)).off + 4, none⟩ = some (.int .i64 x.nano) ∧ w.cell? ⟨(ad.add (i * 6)).block, (ad.add (i * 6)).off + 5, none⟩ = some (.string x.sum) := by
  have hlt : i < S.length := by omega
  obtain ⟨ad, e, h3⟩ := at_T71 h (i : Int) (by omega) (by omega)
  have hr : rd_T71 (S.map ofL) (i : Int) = ofL S[i] := by
    unfold rd_T71
    rw [Int.toNat_natCast, List.getD_eq_getElem?_getD, List.getElem?_map, List.getElem?_eq_getElem hlt]
    rfl
  rw [hr, Int.toNat_natCast] at h3
  exact ⟨ad, S[i], e, List.getElem?_eq_getElem hlt, h3⟩
theorem ref_New.bad (room : Int) (w : World) (h : (decide (room < 1) || decide (room > 4096)) = true) :
    Calls Tryd.prog 8 #[.int .i64 room] w fun e w' => e = .returned (.tuple #[.pointer none, .int .i64 2]) ∧ w' = w := by
  cases h1 : decide (room < 1) with
  | true =>
    clear h
    go_enter Tryd.func8, Tryd.ntmps8
    go_wp2
    go_ret2
    exact ⟨rfl, rfl⟩
  | false =>
    rw [h1, Bool.false_or] at h
    have h2 : decide (4096 < room) = true := h
    clear h
    go_enter Tryd.func8, Tryd.ntmps8
    go_wp2
    go_ret2
    exact ⟨rfl, rfl⟩
theorem ref_New.at_ (room : Int) (w : World) (h : (decide (room < 1) || decide (room > 4096)) = false) :
    Calls Tryd.prog 8 #[.int .i64 room] w fun e w' => ∃ p, e = .returned (.tuple #[.pointer (some ⟨p, 0, none⟩), .int .i64 0]) ∧ Rl w.heap.size p room (.slice none 0 0) [] w' ∧ Below w.heap.size w w' := by
  obtain ⟨h1, h2⟩ := Bool.or_eq_false_iff.1 h
  have h2' : decide (4096 < room) = false := h2
  have key : Rl w.heap.size w.heap.size room (.slice none 0 0) [] (w.alloc (.cells #[.int .i64 room, .slice none 0 0] 60)) :=
    ⟨blk_new w _, Kd.R_nil _ _ _ _ _, Nat.le_refl _, by simp⟩
  have HK := Aside0.mk key
  clear h h2 key
  go_enter Tryd.func8, Tryd.ntmps8
  go_wp2
  go_ret2
  exact ⟨w.heap.size, by rfl, HK.out, below_alloc (Below.refl _ _) _⟩
theorem ref_Len.at_ (b0 p : Nat) (room : Int) (v : Value) (S : List Ln) (w : World) (h : Rl b0 p room v S w) :
    Calls Tryd.prog 16 #[.pointer (some ⟨p, 0, none⟩)] w fun e w' => e = .returned (.int .i64 S.length) ∧ w' = w := by
  obtain ⟨A, c, rfl⟩ := Kd.R_slice h.hR
  have q := (rl_cells h.hP).2
  rw [map_len] at q
  clear h
  go_enter Tryd.func16, Tryd.ntmps16
  go_wp2
  go_ret
  exact ⟨rfl, rfl⟩
def idxF (S : List Ln) (q : ByteArray) : Option Nat := S.findIdx? (fun x => eqP q x.path)
set_option maxHeartbeats 4000000 in
set_option maxRecDepth 20000 in
theorem ref_at.at_ (b0 p : Nat) (room : Int) (v : Value) (S : List Ln) (q : ByteArray) (w : World) (h : Rl b0 p room v S w) :
    Calls Tryd.prog 50 #[.pointer (some ⟨p, 0, none⟩), .string q] w fun e w' => Drawn0 w w' ∧
      ((e = .returned (.int .i64 (-1)) ∧ ∀ x ∈ S, x.path ≠ q) ∨ (∃ (i : Nat) (x : Ln), e = .returned (.int .i64 (i : Int)) ∧ S[i]? = some x ∧ x.path = q)) := by
  obtain ⟨A, c, rfl, hc, hC⟩ := Kd.R_reads h.hR
  have q1 := (rl_cells h.hP).2
  obtain ⟨m, hm⟩ : ∃ m, m = (S.map ofL).length := ⟨_, rfl⟩
  rw [← hm] at q1 hC
  have HM : Aside0 (m = S.length) := ⟨by rw [hm, map_len]⟩
  have HC := Aside0.mk hC
  have HS := Aside0.mk h.hl
  clear h hc hC hm
  go_enter Tryd.func50, Tryd.ntmps50
  go_wp2
  go_loopg [5] m (fun g v5 w' => ∃ i : Nat, g = m - i ∧ v5 = .int .i64 i ∧ Aside0 (i ≤ m) ∧ Aside0 (∀ j x, j < i → S[j]? = some x → x.path ≠ q) ∧ Drawn0 w w')
  case atStart => exact ⟨0, rfl, rfl, ⟨Nat.zero_le _⟩, ⟨fun j x hj => absurd hj (Nat.not_lt_zero _)⟩, Drawn0.refl _⟩
  case round =>
    obtain ⟨i, rfl, rfl, HI, HN, ⟨nd, rfl⟩⟩ := hrel
    have q2 : ∀ z, (w.drewN z).cell? ⟨p, 1, none⟩ = some (.slice A m c) := fun z => q1
    by_cases c1 : i < m
    rotate_left
    · have e1 : decide ((i : Int) < (m : Int)) = false := decide_eq_false (by omega)
      have e1' : decide (i < m) = false := decide_eq_false c1
      have HC1 := Aside0.mk c1
      clear c1
      go_wp2
      go_ret
      refine ⟨by repeat (first | exact Drawn0.refl _ | apply Drawn0.step), .inl ⟨rfl, fun x hx => ?_⟩⟩
      obtain ⟨j, hj, hjx⟩ := List.getElem_of_mem hx
      exact HN.out j x (by have := HI.out; have := HM.out; have := HC1.out; omega) (by rw [List.getElem?_eq_getElem hj, hjx])
    have e1 : decide ((i : Int) < (m : Int)) = true := decide_eq_true (by omega)
    have e1' : decide (i < m) = true := decide_eq_true c1
    have e1n : (i < m) = True := eq_true c1
    have e1i : ((i : Int) < (m : Int)) = True := eq_true (by omega)
    have hi0 : (0 ≤ (i : Int)) = True := eq_true (by omega)
    obtain ⟨ad, x, rfl, hx, d0, -⟩ := line_at HC.out i c1 HM.out
    have d0' : ∀ z, (w.drewN z).cell? (ad.add (i * 6)) = some (.string x.path) := fun z => d0
    have C1 := Aside0.mk c1
    have HX := Aside0.mk hx
    have hadd : wrap64 ((i : Int) + 1) = ((i + 1 : Nat) : Int) := by have := HM.out; have := HS.out; unfold wrap64; omega
    clear hx c1
    cases hq : (x.path.toList == q.toList) with
    | true =>
      have HQ : Aside0 (x.path = q) := ⟨toList_inj.1 (beq_iff_eq.1 hq)⟩
      go_wp2
      repeat (go_quiet (fail); try go_wp2)
      go_ret
      exact ⟨by repeat (first | exact Drawn0.refl _ | apply Drawn0.step), .inr ⟨i, x, rfl, HX.out, HQ.out⟩⟩
    | false =>
      have HQ : Aside0 (x.path ≠ q) := ⟨fun e => by rw [e] at hq; simp at hq⟩
      go_wp2
      repeat (go_quiet (fail); try go_wp2)
      go_roundg (m - (i + 1))
      case measure => have := C1.out; omega
      case rel => exact ⟨i + 1, rfl, by first | rfl | rw [hadd], ⟨by have := C1.out; omega⟩, ⟨fun j y hj hy => by
        by_cases hji : j = i
        · subst hji
          rw [HX.out] at hy
          cases hy
          exact HQ.out
        · exact HN.out j y (by omega) hy⟩, by repeat (first | exact Drawn0.refl _ | apply Drawn0.step)⟩
set_option maxHeartbeats 4000000 in
set_option maxRecDepth 20000 in
theorem ref_Paths.at_ (b0 p : Nat) (room : Int) (v : Value) (S : List Ln) (w : World) (h : Rl b0 p room v S w) :
    Calls Tryd.prog 19 #[.pointer (some ⟨p, 0, none⟩)] w fun e w' => ∃ v', e = .returned v' ∧ Kd.R Kd.string 9 w' w.heap.size (fun _ => True) v' (paths S) ∧ Below w.heap.size w w' := by
  obtain ⟨A, c, rfl, hc, hC⟩ := Kd.R_reads h.hR
  have q1 := (rl_cells h.hP).2
  obtain ⟨m, hm⟩ : ∃ m, m = (S.map ofL).length := ⟨_, rfl⟩
  rw [← hm] at q1 hC
  have HM : Aside0 (m = S.length) := ⟨by rw [hm, map_len]⟩
  have HC := Aside0.mk hC
  have HS := Aside0.mk h.hl
  have HP := Aside0.mk h.hP
  rw [← hm] at HP
  clear h hc hC hm
  go_enter Tryd.func19, Tryd.ntmps19
  go_wp2
  go_loopg [3, 4] m (fun g v3 v4 w' => ∃ i : Nat, g = m - i ∧ v4 = .int .i64 i ∧ Aside0 (i ≤ m) ∧ Aside0 (Kd.R Kd.string 9 w' w.heap.size (fun _ => True) v3 ((paths S).take i)) ∧ Aside0 (Below w.heap.size w w'))
  case atStart => exact ⟨0, rfl, rfl, ⟨Nat.zero_le _⟩, ⟨Kd.R_nil _ _ _ _ _⟩, ⟨Below.refl _ _⟩⟩
  case round =>
    clear q1
    obtain ⟨i, rfl, rfl, HI, HR, HB⟩ := hrel
    have q1 := (rl_cells (blk_below HP.out HB.out)).2
    by_cases c1 : i < m
    rotate_left
    · have e1 : decide ((i : Int) < (m : Int)) = false := decide_eq_false (by omega)
      have e1' : decide (i < m) = false := decide_eq_false c1
      have HC1 := Aside0.mk c1
      clear c1
      go_wp2
      go_ret
      refine ⟨_, rfl, ?_, HB.out⟩
      have := HR.out
      rw [List.take_of_length_le (by unfold paths; rw [List.length_map]; have := HM.out; have := HC1.out; omega)] at this
      exact this
    have e1 : decide ((i : Int) < (m : Int)) = true := decide_eq_true (by omega)
    have e1' : decide (i < m) = true := decide_eq_true c1
    have e1n : (i < m) = True := eq_true c1
    have e1i : ((i : Int) < (m : Int)) = True := eq_true (by omega)
    have hi0 : (0 ≤ (i : Int)) = True := eq_true (by omega)
    obtain ⟨ad, x, rfl, hx, d0, -⟩ := line_at (Kd.C_below HC.out HB.out) i c1 HM.out
    have C1 := Aside0.mk c1
    have HX := Aside0.mk hx
    have hadd : wrap64 ((i : Int) + 1) = ((i + 1 : Nat) : Int) := by have := HM.out; have := HS.out; unfold wrap64; omega
    have HLL : Aside0 ((((paths S).take i).length + 1) * 16 ≤ 140737488355328) := ⟨by rw [List.length_take]; have := HM.out; have := HS.out; have := HI.out; omega⟩
    have HSB : Aside0 (w.heap.size ≤ wr.heap.size) := ⟨HB.out.size⟩
    clear hx c1
    go_wp2_with (first | ((with_reducible refine gate_builtin (b := .append) (xs := #[.tmp 14, .tmp 23]) rfl ?_); at_builtin; refine Kd.R_append Kd.string (w0 := w) w.heap.size rfl (.tmp 14) (.tmp 23) 46 9 (.string ⟨#[]⟩) 16 rfl Tryd.underlying46 ld_info9 rfl (by decide) (by omega) u3 ((paths S).take i) x.path [.string x.path] (fun _ => True) (fun _ => False) rfl rfl rfl (fun _ hk => hk.elim) (fun _ _ => trivial) HR.out HB.out HSB.out HLL.out ?_; intro v9 w9 ho9 hb9 hg9 ha9; clear ha9))
    have HR9 := Aside0.mk ho9
    have HB9 := Aside0.mk hb9
    clear ho9 hb9 hg9 d0 q1
    go_wp2
    go_roundg (m - (i + 1))
    case measure => have := C1.out; omega
    case rel =>
      refine ⟨i + 1, rfl, by first | rfl | rw [hadd], ⟨by have := C1.out; omega⟩, ⟨?_⟩, HB9⟩
      rw [List.take_add_one, show (paths S)[i]? = some x.path from by unfold paths; rw [List.getElem?_map, HX.out]; rfl]
      exact HR9.out
/-- The lines but those of a predicate. -/
theorem take_snoc (S : List Ln) (i : Nat) (x : Ln) (hx : S[i]? = some x) (pr : ByteArray → Bool) : outS pr (S.take (i + 1)) = outS pr (S.take i) ++ (if pr x.path = true then [] else [x]) := by
  unfold outS
  rw [List.take_add_one, hx, List.filter_append]
  cases h : pr x.path <;> simp [h]
set_option maxHeartbeats 8000000 in
set_option maxRecDepth 20000 in
theorem ref_Forget.at_ (b0 p : Nat) (room : Int) (v : Value) (S : List Ln) (top : ByteArray) (w : World) (h : Rl b0 p room v S w) (ht : top.size ≤ 1000000) (hz : ∀ x ∈ S, x.path.size ≤ 1000000)
    (hun : ∀ (q : ByteArray) (w1 : World), q.size ≤ 1000000 → Calls Tryd.prog 57 #[.string q, .string top] w1 fun e w' => e = .returned (.bool (underF q top)) ∧ Below w1.heap.size w1 w') :
    Calls Tryd.prog 29 #[.pointer (some ⟨p, 0, none⟩), .string top] w fun e w' => e = .returned (.int .i64 ((S.length : Int) - (outS (fun q => underF q top) S).length)) ∧ ∃ v', Rl b0 p room v' (outS (fun q => underF q top) S) w' ∧ Bm p p w w' := by
  obtain ⟨A, c, rfl, hc, hC⟩ := Kd.R_reads h.hR
  have q1 := (rl_cells h.hP).2
  obtain ⟨m, hm⟩ : ∃ m, m = (S.map ofL).length := ⟨_, rfl⟩
  rw [← hm] at q1 hC
  have HM : Aside0 (m = S.length) := ⟨by rw [hm, map_len]⟩
  have HC := Aside0.mk hC
  have HS := Aside0.mk h.hl
  have HP := Aside0.mk h.hP
  have HP0 := Aside0.mk h.hp0
  rw [← hm] at HP
  have HZ := Aside0.mk hz
  have HUN := Aside0.mk hun
  have HLT : Aside0 (p < w.heap.size) := ⟨blk_lt h.hP⟩
  clear h hc hC hm hz hun ht
  go_enter Tryd.func29, Tryd.ntmps29
  go_wp2
  go_loopg [5, 6] m (fun g v5 v6 w' => ∃ i : Nat, g = m - i ∧ v6 = .int .i64 i ∧ Aside0 (i ≤ m) ∧ Aside0 (Kd.R k71 71 w' w.heap.size (fun j => j ≠ p) v5 ((outS (fun q => underF q top) (S.take i)).map ofL)) ∧ Aside0 (Below w.heap.size w w'))
  case atStart => exact ⟨0, rfl, rfl, ⟨Nat.zero_le _⟩, ⟨Kd.R_nil _ _ _ _ _⟩, ⟨Below.refl _ _⟩⟩
  case round =>
    clear q1
    obtain ⟨i, rfl, rfl, HI, HR, HB⟩ := hrel
    have q1 := (rl_cells (blk_below HP.out HB.out)).2
    by_cases c1 : i < m
    rotate_left
    · have e1 : decide ((i : Int) < (m : Int)) = false := decide_eq_false (by omega)
      have e1' : decide (i < m) = false := decide_eq_false c1
      have HR1 := HR
      rw [List.take_of_length_le (by have := HM.out; omega)] at HR1
      obtain ⟨A2, c2, rfl⟩ := Kd.R_slice HR1.out
      have hml : ((outS (fun q => underF q top) S).map ofL).length = (outS (fun q => underF q top) S).length := map_len _
      obtain ⟨m2, hm2⟩ : ∃ m2, m2 = (outS (fun q => underF q top) S).length := ⟨_, rfl⟩
      rw [hml, ← hm2] at HR1
      rw [hml, ← hm2]
      have hle : m2 ≤ S.length := by rw [hm2]; exact List.length_filter_le _ _
      have hsub : wrap64 ((m : Int) - (m2 : Int)) = (m : Int) - (m2 : Int) := by have := HM.out; have := HS.out; unfold wrap64; omega
      have HPw := Aside0.mk (blk_below HP.out HB.out)
      have f1 := blk_frozen HPw.out 1
      have HP5 := Aside0.mk (blk_set HPw.out 1 (.slice A2 m2 c2))
      have HLE := Aside0.mk (And.intro hle hm2)
      clear c1 HR hml hle hm2
      go_wp2
      go_ret
      refine ⟨by show Ending.returned (.int .i64 (wrap64 ((m : Int) - (m2 : Int)))) = _; rw [hsub, ← HM.out, ← HLE.out.2], .slice A2 m2 c2, ⟨HP5.out, Kd.R_far (Kd.R_lower HR1.out (by have := HP0.out; have := HLT.out; omega)) (p := ⟨p, 1, none⟩) (fun j hj => hj) _, HP0.out, by rw [← HLE.out.2]; have := HLE.out.1; have := HS.out; omega⟩, ((Bm.refl p p w).below HB.out).setCell 1 _⟩
    have e1 : decide ((i : Int) < (m : Int)) = true := decide_eq_true (by omega)
    have e1' : decide (i < m) = true := decide_eq_true c1
    have e1n : (i < m) = True := eq_true c1
    have e1i : ((i : Int) < (m : Int)) = True := eq_true (by omega)
    have hi0 : (0 ≤ (i : Int)) = True := eq_true (by omega)
    obtain ⟨ad, x, rfl, hx, d0, -⟩ := line_at (Kd.C_below HC.out HB.out) i c1 HM.out
    have C1 := Aside0.mk c1
    have HX := Aside0.mk hx
    have HXs : Aside0 (x.path.size ≤ 1000000) := ⟨HZ.out x (List.mem_of_getElem? hx)⟩
    have hadd : wrap64 ((i : Int) + 1) = ((i + 1 : Nat) : Int) := by have := HM.out; have := HS.out; unfold wrap64; omega
    clear hx c1
    go_wp2_with fail
    refine (HUN.out x.path wr HXs.out).mono ?_
    rintro e w2 ⟨rfl, hb⟩
    have HB2 := Aside0.mk (ld_step HB.out hb)
    have HR2 := Aside0.mk (Kd.R_below HR.out hb)
    clear hb HR HB d0 q1
    cases hpr : underF x.path top with
    | true =>
      have HPR := Aside0.mk hpr
      clear hpr
      go_wp2
      go_roundg (m - (i + 1))
      case measure => have := C1.out; omega
      case rel =>
        refine ⟨i + 1, rfl, by first | rfl | rw [hadd], ⟨by have := C1.out; omega⟩, ⟨?_⟩, HB2⟩
        rw [take_snoc S i x HX.out, if_pos HPR.out, List.append_nil]
        exact HR2.out
    | false =>
      have HPR := Aside0.mk hpr
      have q1 := (rl_cells (blk_below HP.out HB2.out)).2
      obtain ⟨ad2, y, hadq, hy, d0, d1, d2, d3, d4, d5⟩ := line_at (Kd.C_below HC.out HB2.out) i C1.out HM.out
      cases hadq
      rw [HX.out] at hy
      cases hy
      have HLL : Aside0 ((((outS (fun q => underF q top) (S.take i)).map ofL).length + 1) * 64 ≤ 140737488355328) := ⟨by
        have h1 : (outS (fun q => underF q top) (S.take i)).length ≤ (S.take i).length := List.length_filter_le _ _
        rw [List.length_take] at h1
        rw [map_len]
        have := HS.out; omega⟩
      have HSB : Aside0 (w.heap.size ≤ w2.heap.size) := ⟨HB2.out.size⟩
      clear hpr
      go_wp2_with (first | ((with_reducible refine gate_builtin (b := .append) (xs := #[.tmp 28, .tmp 36]) rfl ?_); at_builtin; refine Kd.R_append k71 (w0 := w) w.heap.size rfl (.tmp 28) (.tmp 36) 58 71 (.agg #[.string ⟨#[]⟩, .int .i64 0, .int .i64 0, .int .i64 0, .int .i64 0, .string ⟨#[]⟩]) 64 rfl Tryd.underlying58 info_line rfl (by decide) (by omega) u5 ((outS (fun q => underF q top) (S.take i)).map ofL) (ofL x) [.string x.path, .int .i64 x.ino, .int .i64 x.size, .int .i64 x.sec, .int .i64 x.nano, .string x.sum] (fun j => j ≠ p) (fun _ => False) rfl rfl (k71_mkM _ _ _ (ofL x)) (fun _ hk => hk.elim) (fun j hj => by have := HLT.out; have := HSB.out; omega) HR2.out HB2.out HSB.out HLL.out ?_; intro v9 w9 ho9 hb9 hg9 ha9; clear ha9))
      have HR9 := Aside0.mk ho9
      have HB9 := Aside0.mk hb9
      clear ho9 hb9 hg9 d0 d1 d2 d3 d4 d5 q1
      go_wp2
      go_roundg (m - (i + 1))
      case measure => have := C1.out; omega
      case rel =>
        refine ⟨i + 1, rfl, by first | rfl | rw [hadd], ⟨by have := C1.out; omega⟩, ⟨?_⟩, HB9⟩
        rw [take_snoc S i x HX.out, if_neg (by rw [HPR.out]; decide), List.map_append]
        exact HR9.out
theorem lx_cells {w : World} {g : Nat} {x : Ln} {ty : Nat} (h : w.heap[g]? = some (.cells #[.string x.path, .int .i64 x.ino, .int .i64 x.size, .int .i64 x.sec, .int .i64 x.nano, .string x.sum] ty (0, 0))) : w.cell? ⟨g, 0, none⟩ = some (.string x.path) ∧ w.cell? ⟨g, 1, none⟩ = some (.int .i64 x.ino) ∧ w.cell? ⟨g, 2, none⟩ = some (.int .i64 x.size) ∧ w.cell? ⟨g, 3, none⟩ = some (.int .i64 x.sec) ∧ w.cell? ⟨g, 4, none⟩ = some (.int .i64 x.nano) ∧ w.cell? ⟨g, 5, none⟩ = some (.string x.sum) := by
  refine ⟨?_, ?_, ?_, ?_, ?_, ?_⟩ <;> rw [cell_of_row w g _ _ ty (0, 0) h] <;> rfl
theorem R_void {α : Type} (d : Kd α) (e : Nat) {w : World} {g base : Nat} {ok : Nat → Prop} (h : w.heap[g]? = some (.cells #[] e (0, 0))) (hb : base ≤ g) (hok : ok g) : d.R e w base ok (.slice (some ⟨g, 0, none⟩) 0 0) [] :=
  ⟨fun k hk => by simp only [Value.ownBlock, Option.some.injEq] at hk; subst hk; exact hok, ⟨[], ⟨by simp, .inr ⟨g, 0, #[], rfl, hb, h, Nat.le_refl _, by decide, by simp, by simp⟩⟩, Reps.none _ _⟩⟩
set_option maxHeartbeats 8000000 in
set_option maxRecDepth 20000 in
theorem ref_last.at_ (b0 p : Nat) (room : Int) (v : Value) (S : List Ln) (x : Ln) (w : World) (h : Rl b0 p room v S w) (hS : S.length < 1000000) :
    Calls Tryd.prog 56 #[.pointer (some ⟨p, 0, none⟩), .agg #[.string x.path, .int .i64 x.ino, .int .i64 x.size, .int .i64 x.sec, .int .i64 x.nano, .string x.sum]] w fun e w' => e = .returned (.tuple #[]) ∧ ∃ v', Rl b0 p room v' (capS room (lastS x S)) w' ∧ Bm p p w w' := by
  obtain ⟨w1, hw1⟩ : ∃ w1, w.alloc (.cells #[.string x.path, .int .i64 x.ino, .int .i64 x.size, .int .i64 x.sec, .int .i64 x.nano, .string x.sum] 71) = w1 := ⟨_, rfl⟩
  obtain ⟨g, hg⟩ : ∃ g, w.heap.size = g := ⟨_, rfl⟩
  have HG1 : Aside0 (w1.heap[g]? = some (.cells #[.string x.path, .int .i64 x.ino, .int .i64 x.size, .int .i64 x.sec, .int .i64 x.nano, .string x.sum] 71 (0, 0))) := ⟨by rw [← hw1, ← hg]; exact blk_new w _⟩
  have HB1 : Aside0 (Below w.heap.size w w1) := ⟨by rw [← hw1]; exact below_alloc (Below.refl _ _) _⟩
  have HW1 : Aside0 (w1.heap.size = g + 1 ∧ w.heap.size = g) := ⟨by rw [← hw1, ← hg]; simp⟩
  have h1 := h.below HB1.out
  obtain ⟨A, c, rfl, hc, hC⟩ := Kd.R_reads h1.hR
  obtain ⟨m, hm⟩ : ∃ m, m = (S.map ofL).length := ⟨_, rfl⟩
  have hP := h1.hP
  rw [← hm] at hC hP
  have HM : Aside0 (m = S.length) := ⟨by rw [hm, map_len]⟩
  have HC := Aside0.mk hC
  have HS := Aside0.mk hS
  have HP := Aside0.mk hP
  have HP0 := Aside0.mk h.hp0
  have HLT : Aside0 (p < g) := ⟨by have := blk_lt h.hP; omega⟩
  clear h h1 hc hC hm hS hP
  go_enter Tryd.func56, Tryd.ntmps56
  go_wp2
  go_loopg [4, 5] m (fun gg v4 v5 w' => ∃ i : Nat, gg = m - i ∧ v5 = .int .i64 i ∧ Aside0 (i ≤ m) ∧ Aside0 (Kd.R k71 71 w' (g + 1) (fun j => j ≠ p) v4 ((outS (eqP x.path) (S.take i)).map ofL)) ∧ Aside0 (Below (g + 1) w1 w'))
  case atStart => exact ⟨0, rfl, rfl, ⟨Nat.zero_le _⟩, ⟨Kd.R_nil _ _ _ _ _⟩, ⟨Below.refl _ _⟩⟩
  case round =>
    obtain ⟨i, rfl, rfl, HI, HR, HB⟩ := hrel
    have HBB : Aside0 (Below w1.heap.size w1 wr) := ⟨by rw [HW1.out.1]; exact HB.out⟩
    have q1 := (rl_cells (blk_below HP.out HBB.out)).2
    have q0 := (rl_cells (blk_below HP.out HBB.out)).1
    obtain ⟨x0, x1, x2, x3, x4, x5⟩ := lx_cells (blk_below HG1.out HBB.out)
    by_cases c1 : i < m
    rotate_left
    · have e1 : decide ((i : Int) < (m : Int)) = false := decide_eq_false (by omega)
      have e1' : decide (i < m) = false := decide_eq_false c1
      have HR1 := HR
      rw [List.take_of_length_le (by have := HM.out; omega)] at HR1
      have HOl : Aside0 ((outS (eqP x.path) S).length ≤ S.length) := ⟨List.length_filter_le _ _⟩
      have HLL : Aside0 ((((outS (eqP x.path) S).map ofL).length + 1) * 64 ≤ 140737488355328) := ⟨by rw [map_len]; have := HOl.out; have := HS.out; omega⟩
      have HSB : Aside0 (g + 1 ≤ wr.heap.size) := ⟨by have := HB.out.size; have := HW1.out.1; omega⟩
      have HE : Aside0 ((outS (eqP x.path) S).map ofL ++ [ofL x] = (lastS x S).map ofL) := ⟨by unfold lastS; rw [List.map_append]; rfl⟩
      have HML : Aside0 (((lastS x S).map ofL).length = (lastS x S).length) := ⟨map_len _⟩
      obtain ⟨m2, hm2⟩ : ∃ m2, m2 = (lastS x S).length := ⟨_, rfl⟩
      have HM2 := Aside0.mk hm2
      have HM3 : Aside0 (m2 = (outS (eqP x.path) S).length + 1) := ⟨by rw [hm2]; unfold lastS; simp⟩
      clear c1 HR q0 hm2
      go_wp2_with (first | ((with_reducible refine gate_builtin (b := .append) (xs := #[.tmp 37, .tmp 39]) rfl ?_); at_builtin; refine Kd.R_append k71 (w0 := w1) (g + 1) rfl (.tmp 37) (.tmp 39) 58 71 (.agg #[.string ⟨#[]⟩, .int .i64 0, .int .i64 0, .int .i64 0, .int .i64 0, .string ⟨#[]⟩]) 64 rfl Tryd.underlying58 info_line rfl (by decide) (by omega) u4 ((outS (eqP x.path) S).map ofL) (ofL x) [.string x.path, .int .i64 x.ino, .int .i64 x.size, .int .i64 x.sec, .int .i64 x.nano, .string x.sum] (fun j => j ≠ p) (fun _ => False) rfl rfl (k71_mkM _ _ _ (ofL x)) (fun _ hk => hk.elim) (fun j hj => by have := HLT.out; have := HSB.out; omega) HR1.out HB.out HSB.out HLL.out ?_; intro v9 w9 ho9 hb9 hg9 ha9; clear ha9; rw [HE.out] at ho9; obtain ⟨A2, c2, rfl⟩ := Kd.R_slice ho9; rw [HML.out, ← HM2.out] at ho9; rw [HML.out, ← HM2.out]; have HO9 := Aside0.mk ho9; have HB9 : Aside0 (Below w1.heap.size w1 w9) := ⟨by rw [HW1.out.1]; exact hb9⟩; have HP9 := Aside0.mk (blk_below HP.out HB9.out); have f1 := blk_frozen HP9.out 1; have q9 := (rl_cells HP9.out).2; clear ho9 hb9 hg9))
      have HP10 := Aside0.mk (blk_set HP9.out 1 (.slice A2 m2 c2))
      obtain ⟨w10, hw10⟩ : ∃ w10, w10 = w9.setCell ⟨p, 1, none⟩ (.slice A2 m2 c2) := ⟨_, rfl⟩
      have HO10 : Aside0 (Kd.R k71 71 w10 (g + 1) (fun j => j ≠ p) (.slice A2 m2 c2) ((lastS x S).map ofL)) := ⟨by rw [hw10]; exact Kd.R_far HO9.out (p := ⟨p, 1, none⟩) (fun j hj => hj) _⟩
      have HSZ10 : Aside0 (g + 1 ≤ w10.heap.size) := ⟨by
        have h1 : w9.heap.size ≤ w10.heap.size := by rw [hw10]; simp [World.setCell]
        have h2 := HB9.out.size
        have h3 := HW1.out.1
        omega⟩
      have HBm : Aside0 (Bm p p w w10) := ⟨by rw [hw10]; exact (((Bm.refl p p w).below HB1.out).below HB9.out).setCell 1 _⟩
      rw [← hw10]
      rw [← hw10] at HP10
      clear f1 hw10 q9 q1 x0 x1 x2 x3 x4 x5
      have q1 := (rl_cells HP10.out).2
      have q0 := (rl_cells HP10.out).1
      by_cases cr : (m2 : Int) > room
      rotate_left
      · have er : decide ((m2 : Int) > room) = false := decide_eq_false cr
        have er' : decide (room < (m2 : Int)) = false := decide_eq_false (by omega)
        have HCP : Aside0 (capS room (lastS x S) = lastS x S) := ⟨by unfold capS; rw [if_neg (by rw [← HM2.out]; omega)]⟩
        clear cr
        go_wp2
        repeat (go_quiet (fail); try go_wp2)
        refine bodyPost_end (results_none rfl _ _ _) rfl ?_
        refine ⟨rfl, .slice A2 m2 c2, ?_, ?_⟩
        · rw [HCP.out]
          refine ⟨HP10.out, by repeat (first | exact Kd.R_lower HO10.out (by have := HP0.out; have := HLT.out; omega) | apply Kd.R_drew), HP0.out, by rw [← HM2.out]; have := HM3.out; have := HOl.out; have := HS.out; omega⟩
        · first | exact HBm.out | exact HBm.out.below (by repeat (first | exact Below.refl _ _ | apply pw_below_drewN | apply below_drew))
      have er : decide ((m2 : Int) > room) = true := decide_eq_true cr
      have er' : decide (room < (m2 : Int)) = true := decide_eq_true (by omega)
      have HCP : Aside0 (capS room (lastS x S) = (lastS x S).tail) := ⟨by unfold capS; rw [if_pos (by rw [← HM2.out]; omega)]⟩
      have q2 : ∀ z, ((w10.drewN z).alloc (.cells #[] 71)).cell? ⟨p, 1, none⟩ = some (.slice A2 m2 c2) := fun z => (rl_cells (blk_below (w := w10.drewN z) HP10.out (below_alloc (Below.refl _ _) _))).2
      have hm1 : (1 ≤ (m2 : Int)) = True := eq_true (by have := HM3.out; omega)
      have hm1n : (1 ≤ m2) = True := eq_true (by have := HM3.out; omega)
      have hmc : m2 ≤ c2 := (Kd.R_reads' (show Kd.R k71 71 w10 (g + 1) (fun j => j ≠ p) (.slice A2 m2 c2) ((lastS x S).map ofL) from HO10.out)).2.1
      clear cr
      go_wp2
      go_quiet (fail)
      have HWs : Aside0 (∀ z, g + 1 ≤ ((w10.drewN z).alloc (.cells #[] 71)).heap.size) := ⟨fun z => by have := HBm.out.size; have h2 := HW1.out; have := blk_lt HP10.out; have := HSB.out; have h3 := HSZ10.out; simp; omega⟩
      have HTL : Aside0 (((lastS x S).map ofL).drop 1 = (lastS x S).tail.map ofL) := ⟨by rw [← List.map_drop, List.drop_one]⟩
      have HLd : Aside0 (((([] : List S71)).length + (m2 - 1)) * 64 ≤ 140737488355328) := ⟨by have := HM3.out; have := HOl.out; have := HS.out; simp; omega⟩
      have HCd : Aside0 (∀ z, Kd.C k71 ((w10.drewN z).alloc (.cells #[] 71)) (if c2 = 1 then A2 else A2.map (·.add (1 * 6))) (m2 - 1) ((lastS x S).tail.map ofL)) := ⟨fun z => by
        obtain ⟨h1, h2, h3⟩ := Kd.R_reads' HO10.out
        have h4 := Kd.C_drop (c := c2) (m := 1) (Kd.C_below h3 (show Below w10.heap.size w10 ((w10.drewN z).alloc (.cells #[] 71)) from below_alloc (pw_below_drewN (Below.refl _ _) z) _)) (by have := HM3.out; omega) (by omega)
        rw [List.length_drop, ← h1, HTL.out] at h4
        exact h4⟩
      go_wp2_with (first | ((with_reducible refine gate_builtin (b := .append) (xs := #[.tmp 54, .tmp 59]) rfl ?_); at_builtin; (refine Kd.R_append_rows k71 (w0 := (w10.drewN nq).alloc (.cells #[] 71)) (g + 1) rfl (.tmp 54) (.tmp 59) 58 71 (.agg #[.string ⟨#[]⟩, .int .i64 0, .int .i64 0, .int .i64 0, .int .i64 0, .string ⟨#[]⟩]) 64 rfl Tryd.underlying58 info_line rfl (by decide) (by omega) (.slice (some ⟨(w10.drewN nq).heap.size, 0, none⟩) 0 0) [] ((lastS x S).tail.map ofL) _ (m2 - 1) _ (fun j => j ≠ p) (fun _ => False) rfl rfl (R_void _ _ (blk_new (w10.drewN nq) _) HSZ10.out (Nat.ne_of_gt (blk_lt HP10.out))) (HCd.out nq) (fun y cs h => (k71_open h).symm ▸ k71_mkM _ _ _ y) (fun _ h => h.elim) (fun j hj => by have h1 := blk_lt HP10.out; have h2 : (w10.drewN nq).heap.size + 1 ≤ j := (by simpa using hj); have h3 : w10.heap.size + 1 ≤ j := h2; omega) (Below.refl _ _) (HWs.out nq) HLd.out ?_); intro v11 w11 ho11 hb11 hg11 ha11; clear ha11; rw [List.nil_append] at ho11; obtain ⟨A3, c3, rfl⟩ := Kd.R_slice ho11; have HO11 := Aside0.mk ho11; have HP11 := Aside0.mk ((hb11.block p (by have := HLT.out; omega)).trans (blk_below (w := w10.drewN nq) HP10.out (below_alloc (Below.refl _ _) _))); have hBel : Below w10.heap.size w10 ((w10.drewN nq).alloc (.cells #[] 71)) := below_alloc (pw_below_drewN (Below.refl _ _) nq) _; have HBm11 : Aside0 (Bm p p w w11) := ⟨HBm.out.trans ⟨hb11.os.trans hBel.os, hb11.tape.trans hBel.tape, hb11.output.trans hBel.output, Nat.le_trans hBel.size hb11.size, fun j hj _ _ => (hg11.block j (Nat.lt_of_lt_of_le hj hBel.size) (fun e => Nat.ne_of_lt hj (Option.some.inj e))).trans (hBel.block j hj)⟩⟩; clear hBel; have f11 := blk_frozen HP11.out 1; have q11 := (rl_cells HP11.out).2; clear ho11 hb11 hg11))
      all_goals
        go_wp2
        refine bodyPost_end (results_none rfl _ _ _) rfl ?_
        refine ⟨rfl, ⟨.slice A3 ((lastS x S).length - 1) c3, ?_⟩, ?_⟩
        · rw [HCP.out]
          refine ⟨blk_set HP11.out 1 _, ?_, HP0.out, ?_⟩
          · have h1 := Kd.R_lower (base' := b0) HO11.out (by have := HP0.out; have := HLT.out; omega)
            have e : ((lastS x S).tail.map ofL).length = (lastS x S).length - 1 := by rw [List.length_map, List.length_tail]
            rw [e] at h1
            exact Kd.R_far h1 (p := ⟨p, 1, none⟩) (fun j hj => hj) _
          · rw [List.length_tail, ← HM2.out]
            have := HM3.out
            have := HOl.out
            have := HS.out
            omega
        · exact HBm11.out.setCell 1 _
    have e1 : decide ((i : Int) < (m : Int)) = true := decide_eq_true (by omega)
    have e1' : decide (i < m) = true := decide_eq_true c1
    have e1n : (i < m) = True := eq_true c1
    have e1i : ((i : Int) < (m : Int)) = True := eq_true (by omega)
    have hi0 : (0 ≤ (i : Int)) = True := eq_true (by omega)
    obtain ⟨ad, y, rfl, hy, d0, d1, d2, d3, d4, d5⟩ := line_at (Kd.C_below HC.out HBB.out) i c1 HM.out
    have C1 := Aside0.mk c1
    have HY := Aside0.mk hy
    have hadd : wrap64 ((i : Int) + 1) = ((i + 1 : Nat) : Int) := by have := HM.out; have := HS.out; unfold wrap64; omega
    clear hy c1
    cases hpr : eqP x.path y.path with
    | true =>
      have HPR := Aside0.mk hpr
      have hq : (y.path.toList == x.path.toList) = true := hpr
      have hqn : (y.path.toList != x.path.toList) = false := by simp only [bne, hq]; rfl
      clear hpr
      go_wp2
      repeat (go_quiet (fail); try go_wp2)
      go_roundg (m - (i + 1))
      case measure => have := C1.out; omega
      case rel =>
        refine ⟨i + 1, rfl, by first | rfl | rw [hadd], ⟨by have := C1.out; omega⟩, ⟨?_⟩, ⟨?_⟩⟩
        · rw [take_snoc S i y HY.out, if_pos HPR.out, List.append_nil]
          exact Kd.R_below HR.out (by repeat (first | exact Below.refl _ _ | apply pw_below_drewN | apply below_drew))
        · exact ld_step HB.out (by repeat (first | exact Below.refl _ _ | apply pw_below_drewN | apply below_drew)) (by have := HW1.out.1; omega)
    | false =>
      have HPR := Aside0.mk hpr
      have hq : (y.path.toList == x.path.toList) = false := hpr
      have hqn : (y.path.toList != x.path.toList) = true := by simp only [bne, hq]; rfl
      have HLL : Aside0 ((((outS (eqP x.path) (S.take i)).map ofL).length + 1) * 64 ≤ 140737488355328) := ⟨by
        have h1 : (outS (eqP x.path) (S.take i)).length ≤ (S.take i).length := List.length_filter_le _ _
        rw [List.length_take] at h1
        rw [map_len]
        have := HS.out; omega⟩
      have HSB : Aside0 (g + 1 ≤ wr.heap.size) := ⟨by have := HB.out.size; have := HW1.out.1; omega⟩
      clear hpr
      go_wp2
      go_quiet (fail)
      go_wp2_with (first | ((with_reducible refine gate_builtin (b := .append) (xs := #[.tmp 26, .tmp 34]) rfl ?_); at_builtin; refine Kd.R_append k71 (w0 := w1) (g + 1) rfl (.tmp 26) (.tmp 34) 58 71 (.agg #[.string ⟨#[]⟩, .int .i64 0, .int .i64 0, .int .i64 0, .int .i64 0, .string ⟨#[]⟩]) 64 rfl Tryd.underlying58 info_line rfl (by decide) (by omega) u4 ((outS (eqP x.path) (S.take i)).map ofL) (ofL y) [.string y.path, .int .i64 y.ino, .int .i64 y.size, .int .i64 y.sec, .int .i64 y.nano, .string y.sum] (fun j => j ≠ p) (fun _ => False) rfl rfl (k71_mkM _ _ _ (ofL y)) (fun _ hk => hk.elim) (fun j hj => by have h1 := HLT.out; have h2 := HSB.out; have h3 : wr.heap.size ≤ j := hj; omega) (Kd.R_below HR.out (by repeat (first | exact Below.refl _ _ | apply pw_below_drewN | apply below_drew))) (ld_step HB.out (by repeat (first | exact Below.refl _ _ | apply pw_below_drewN | apply below_drew)) (by have := HW1.out.1; omega)) HSB.out HLL.out ?_; intro v9 w9 ho9 hb9 hg9 ha9; clear ha9))
      have HR9 := Aside0.mk ho9
      have HB9 := Aside0.mk hb9
      clear ho9 hb9 hg9 d0 d1 d2 d3 d4 d5 q1 q0 x0 x1 x2 x3 x4 x5
      go_wp2
      go_roundg (m - (i + 1))
      case measure => have := C1.out; omega
      case rel =>
        refine ⟨i + 1, rfl, by first | rfl | rw [hadd], ⟨by have := C1.out; omega⟩, ⟨?_⟩, HB9⟩
        rw [take_snoc S i y HY.out, if_neg (by rw [HPR.out]; decide), List.map_append]
        exact HR9.out
theorem st_cells_w {w : World} {g : Nat} {s : St} (h : w.heap[g]? = some (.cells (stC s) 37 (0, 0))) : ∀ z, (w.drewN z).cell? ⟨g, 0, none⟩ = some (.int .i64 s.kind) ∧ (w.drewN z).cell? ⟨g, 1, none⟩ = some (.int .i64 s.ino) ∧ (w.drewN z).cell? ⟨g, 2, none⟩ = some (.int .i64 s.size) ∧ (w.drewN z).cell? ⟨g, 5, none⟩ = some (.int .i64 s.sec) ∧ (w.drewN z).cell? ⟨g, 6, none⟩ = some (.int .i64 s.nano) := fun _ => st_cells h
set_option maxHeartbeats 8000000 in
set_option maxRecDepth 20000 in
theorem ref_Ask.at_ (b0 p : Nat) (room : Int) (v : Value) (S : List Ln) (q : ByteArray) (s : St) (w : World) (h : Rl b0 p room v S w) (hS : S.length < 1000000) (hN : (paths S).Nodup) :
    Calls Tryd.prog 27 #[.pointer (some ⟨p, 0, none⟩), .string q, stV s] w fun e w' =>
      (e = .returned (.tuple #[.string ⟨#[]⟩, .bool false]) ∧ (∀ x ∈ S, x.path = q → mt s x = false) ∧ Rl b0 p room v S w' ∧ Below w.heap.size w w') ∨
      (∃ x ∈ S, x.path = q ∧ mt s x = true ∧ e = .returned (.tuple #[.string x.sum, .bool true]) ∧ ∃ v', Rl b0 p room v' (capS room (lastS x S)) w' ∧ Bm p p w w') := by
  obtain ⟨w1, hw1⟩ : ∃ w1, w.alloc (.cells (stC s) 37) = w1 := ⟨_, rfl⟩
  obtain ⟨g, hg⟩ : ∃ g, w.heap.size = g := ⟨_, rfl⟩
  have HG1 : Aside0 (w1.heap[g]? = some (.cells (stC s) 37 (0, 0))) := ⟨by rw [← hw1, ← hg]; exact blk_new w _⟩
  have HB1 : Aside0 (Below w.heap.size w w1) := ⟨by rw [← hw1]; exact below_alloc (Below.refl _ _) _⟩
  have HL1 := Aside0.mk (h.below HB1.out)
  have HAt := Aside0.mk (ref_at.at_ b0 p room v S q w1 HL1.out)
  have HS := Aside0.mk (And.intro hS hN)
  have HNE : Aside0 (g ≠ p) := ⟨by have := blk_lt h.hP; omega⟩
  unfold stV
  clear h hS hN
  go_enter Tryd.func27, Tryd.ntmps27
  go_wp2_with fail
  refine HAt.out.mono ?_
  rintro e w2 ⟨hd, ⟨rfl, hno⟩ | ⟨i, x, rfl, hix, hxq⟩⟩
  · have HB2 := Aside0.mk (ld_step HB1.out hd.below)
    have HL2 := Aside0.mk (HL1.out.below hd.below)
    have HNo := Aside0.mk hno
    clear hd hno HAt
    go_wp2
    go_ret2
    refine .inl ⟨rfl, fun x hx e => absurd e (HNo.out x hx), HL2.out, ?_⟩
    first | exact HB2.out | (rw [← hg]; exact HB2.out)
  have HB2 := Aside0.mk (ld_step HB1.out hd.below)
  have HL2 := Aside0.mk (HL1.out.below hd.below)
  have HG2 := Aside0.mk (blk_below HG1.out hd.below)
  have HX := Aside0.mk (And.intro hix hxq)
  have HM : Aside0 (∀ y ∈ S, y.path = q → y = x) := ⟨fun y hy e => nodup_unique HS.out.2 hy (List.mem_of_getElem? hix) (e.trans hxq.symm)⟩
  obtain ⟨A, c, rfl, hc, hC⟩ := Kd.R_reads HL2.out.hR
  obtain ⟨m, hm⟩ : ∃ m, m = (S.map ofL).length := ⟨_, rfl⟩
  have hmS : m = S.length := by rw [hm, map_len]
  rw [← hm] at hC
  have HP2 := Aside0.mk HL2.out.hP
  have HVS := HL2
  rw [← hm] at HP2 HL2
  have him : i < m := by rw [hmS]; exact (List.getElem?_eq_some_iff.1 hix).1
  have e1n : (i < m) = True := eq_true him
  have e1i : ((i : Int) < (m : Int)) = True := eq_true (by omega)
  have hi0 : (0 ≤ (i : Int)) = True := eq_true (by omega)
  have hi1 : ((i : Int) < 0) = False := eq_false (by omega)
  have hi2 : decide ((i : Int) < 0) = false := decide_eq_false (by omega)
  obtain ⟨ad, y, rfl, hy, d0, d1, d2, d3, d4, d5⟩ := line_at hC i him hmS
  rw [hix] at hy
  cases hy
  have HC := Aside0.mk hC
  have HI := Aside0.mk (And.intro him hmS)
  have q1 := (rl_cells HP2.out).2
  have HSZ : Aside0 (w2.heap.size = w1.heap.size) := ⟨by obtain ⟨⟨z, rfl⟩⟩ := hd; rfl⟩
  obtain ⟨gx, hgx⟩ : ∃ gx, w2.heap.size = gx := ⟨_, rfl⟩
  obtain ⟨w3, hw3⟩ : ∃ w3, w2.alloc (.cells #[.string x.path, .int .i64 x.ino, .int .i64 x.size, .int .i64 x.sec, .int .i64 x.nano, .string x.sum] 71) = w3 := ⟨_, rfl⟩
  have HX3 : Aside0 (w3.heap[gx]? = some (.cells #[.string x.path, .int .i64 x.ino, .int .i64 x.size, .int .i64 x.sec, .int .i64 x.nano, .string x.sum] 71 (0, 0))) := ⟨by rw [← hw3, ← hgx]; exact blk_new w2 _⟩
  have HB23 : Aside0 (Below w2.heap.size w2 w3) := ⟨by rw [← hw3]; exact below_alloc (Below.refl _ _) _⟩
  have HB3 := Aside0.mk (ld_step HB2.out HB23.out)
  have HL3 := Aside0.mk (HL2.out.below HB23.out)
  have HV3 := Aside0.mk (HVS.out.below HB23.out)
  have HG3 := Aside0.mk (blk_below HG2.out HB23.out)
  obtain ⟨s0, s1, s2, s5, s6⟩ := st_cells HG3.out
  obtain ⟨x0, x1, x2, x3, x4, x5⟩ := lx_cells (x := x) HX3.out
  have HLa := Aside0.mk (ref_last.at_ b0 p room (.slice (some ad) m c) S x w3 HL3.out HS.out.1)
  clear hd hix hxq hc hC hm him hmS HAt
  by_cases k0 : s.kind = 1
  rotate_left
  · have e0 : (s.kind == 1) = false := beq_eq_false_iff_ne.mpr k0
    have e0' : (s.kind != 1) = true := bne_iff_ne.mpr k0
    have hmt : mt s x = false := by unfold mt; simp [k0]
    have HMT := Aside0.mk hmt
    clear hmt k0 HLa
    go_wp2
    go_ret2
    refine .inl ⟨rfl, fun y hy e => by rw [HM.out y hy e]; exact HMT.out, HV3.out, ?_⟩
    first | exact HB3.out | (rw [← hg]; exact HB3.out)
  have e0 : (s.kind == 1) = true := beq_iff_eq.mpr k0
  have e0' : (s.kind != 1) = false := bne_eq_false_iff_eq.mpr k0
  by_cases k1 : s.ino = x.ino
  rotate_left
  · have e1 : (s.ino == x.ino) = false := beq_eq_false_iff_ne.mpr k1
    have e1' : (s.ino != x.ino) = true := bne_iff_ne.mpr k1
    have hmt : mt s x = false := by unfold mt; simp [k1]
    have HMT := Aside0.mk hmt
    clear hmt k0 k1 HLa
    go_wp2
    go_ret2
    refine .inl ⟨rfl, fun y hy e => by rw [HM.out y hy e]; exact HMT.out, HV3.out, ?_⟩
    first | exact HB3.out | (rw [← hg]; exact HB3.out)
  have e1 : (s.ino == x.ino) = true := beq_iff_eq.mpr k1
  have e1' : (s.ino != x.ino) = false := bne_eq_false_iff_eq.mpr k1
  by_cases k2 : s.size = x.size
  rotate_left
  · have e2 : (s.size == x.size) = false := beq_eq_false_iff_ne.mpr k2
    have e2' : (s.size != x.size) = true := bne_iff_ne.mpr k2
    have hmt : mt s x = false := by unfold mt; simp [k2]
    have HMT := Aside0.mk hmt
    clear hmt k0 k1 k2 HLa
    go_wp2
    go_ret2
    refine .inl ⟨rfl, fun y hy e => by rw [HM.out y hy e]; exact HMT.out, HV3.out, ?_⟩
    first | exact HB3.out | (rw [← hg]; exact HB3.out)
  have e2 : (s.size == x.size) = true := beq_iff_eq.mpr k2
  have e2' : (s.size != x.size) = false := bne_eq_false_iff_eq.mpr k2
  by_cases k3 : s.sec = x.sec
  rotate_left
  · have e3 : (s.sec == x.sec) = false := beq_eq_false_iff_ne.mpr k3
    have e3' : (s.sec != x.sec) = true := bne_iff_ne.mpr k3
    have hmt : mt s x = false := by unfold mt; simp [k3]
    have HMT := Aside0.mk hmt
    clear hmt k0 k1 k2 k3 HLa
    go_wp2
    go_ret2
    refine .inl ⟨rfl, fun y hy e => by rw [HM.out y hy e]; exact HMT.out, HV3.out, ?_⟩
    first | exact HB3.out | (rw [← hg]; exact HB3.out)
  have e3 : (s.sec == x.sec) = true := beq_iff_eq.mpr k3
  have e3' : (s.sec != x.sec) = false := bne_eq_false_iff_eq.mpr k3
  by_cases k4 : s.nano = x.nano
  rotate_left
  · have e4 : (s.nano == x.nano) = false := beq_eq_false_iff_ne.mpr k4
    have e4' : (s.nano != x.nano) = true := bne_iff_ne.mpr k4
    have hmt : mt s x = false := by unfold mt; simp [k4]
    have HMT := Aside0.mk hmt
    clear hmt k0 k1 k2 k3 k4 HLa
    go_wp2
    go_ret2
    refine .inl ⟨rfl, fun y hy e => by rw [HM.out y hy e]; exact HMT.out, HV3.out, ?_⟩
    first | exact HB3.out | (rw [← hg]; exact HB3.out)
  have e4 : (s.nano == x.nano) = true := beq_iff_eq.mpr k4
  have e4' : (s.nano != x.nano) = false := bne_eq_false_iff_eq.mpr k4
  have HMT : Aside0 (mt s x = true) := ⟨by unfold mt; simp [k0, k1, k2, k3, k4]⟩
  clear k0 k1 k2 k3 k4
  go_wp2_with fail
  refine HLa.out.mono ?_
  rintro e w4 ⟨rfl, v', hL4, hB4⟩
  have HX4 := Aside0.mk (hB4.blk HX3.out (by have := blk_lt HP2.out; omega) (by have := blk_lt HP2.out; omega))
  have HL4 := Aside0.mk hL4
  have HB4 := Aside0.mk (((Bm.refl p p w).below HB3.out).trans hB4)
  clear hL4 hB4 HLa s0 s1 s2 s5 s6 x0 x1 x2 x3 x4 x5 d0 d1 d2 d3 d4 d5 q1
  obtain ⟨x0, x1, x2, x3, x4, x5⟩ := lx_cells (x := x) HX4.out
  go_wp2
  go_ret2
  exact .inr ⟨x, List.mem_of_getElem? HX.out.1, HX.out.2, HMT.out, rfl, v', HL4.out, HB4.out⟩
set_option maxHeartbeats 8000000 in
set_option maxRecDepth 20000 in
theorem ref_Tell.at_ (b0 p : Nat) (room : Int) (v : Value) (S : List Ln) (q : ByteArray) (s : St) (sm : ByteArray) (w : World) (h : Rl b0 p room v S w) (hq : q.size ≤ 1000000) (hS : S.length < 1000000) :
    Calls Tryd.prog 28 #[.pointer (some ⟨p, 0, none⟩), .string q, stV s, .string sm] w fun e w' => e = .returned (.int .i64 (tellE q s sm)) ∧
      ((tellE q s sm ≠ 0 ∧ Rl b0 p room v S w' ∧ Below w.heap.size w w') ∨
       (tellE q s sm = 0 ∧ ∃ v', Rl b0 p room v' (capS room (lastS (tellX q s sm) S)) w' ∧ Bm p p w w')) := by
  obtain ⟨w1, hw1⟩ : ∃ w1, w.alloc (.cells (stC s) 37) = w1 := ⟨_, rfl⟩
  obtain ⟨g, hg⟩ : ∃ g, w.heap.size = g := ⟨_, rfl⟩
  have HG1 : Aside0 (w1.heap[g]? = some (.cells (stC s) 37 (0, 0))) := ⟨by rw [← hw1, ← hg]; exact blk_new w _⟩
  have HB1 : Aside0 (Below w.heap.size w w1) := ⟨by rw [← hw1]; exact below_alloc (Below.refl _ _) _⟩
  have HW1 : Aside0 (w1.heap.size = g + 1) := ⟨by rw [← hw1, ← hg]; simp⟩
  have HH := Aside0.mk h
  have HS := Aside0.mk hS
  obtain ⟨gx, hgx⟩ : ∃ gx, g + 1 = gx := ⟨_, rfl⟩
  have hsz : w1.heap.size = gx := by rw [HW1.out, hgx]
  obtain ⟨w2, hw2⟩ : ∃ w2, w1.alloc (.cells #[.string q, .int .i64 s.ino, .int .i64 s.size, .int .i64 s.sec, .int .i64 s.nano, .string sm] 71) = w2 := ⟨_, rfl⟩
  have HX2 : Aside0 (w2.heap[gx]? = some (.cells #[.string q, .int .i64 s.ino, .int .i64 s.size, .int .i64 s.sec, .int .i64 s.nano, .string sm] 71 (0, 0))) := ⟨by rw [← hw2, ← hsz]; exact blk_new w1 _⟩
  have HB2 : Aside0 (Below gx w1 w2) := ⟨by rw [← hw2, ← hsz]; exact below_alloc (Below.refl _ _) _⟩
  have HBW : Aside0 (Below w.heap.size w w2) := ⟨ld_step HB1.out (by rw [hsz]; exact HB2.out)⟩
  have HNE : Aside0 (gx ≠ p ∧ g ≠ p) := ⟨by have h1 := blk_lt h.hP; exact ⟨by omega, by omega⟩⟩
  have HG2 := Aside0.mk (blk_below HG1.out (by rw [hsz]; exact HB2.out))
  obtain ⟨s0, s1, s2, s5, s6⟩ := st_cells HG1.out
  obtain ⟨x0, x1, x2, x3, x4, x5⟩ := lx_cells (x := (⟨q, s.ino, s.size, s.sec, s.nano, sm⟩ : Ln)) HX2.out
  dsimp only at x0 x1 x2 x3 x4 x5
  have HMay : Aside0 (Calls Tryd.prog 49 #[.agg #[.string q, .int .i64 s.ino, .int .i64 s.size, .int .i64 s.sec, .int .i64 s.nano, .string sm]] w2 fun e w' => e = .returned (.int .i64 (mayF (tellX q s sm))) ∧ Below w2.heap.size w2 w') := ⟨remoraref33_may.calls _ q s.ino s.size s.sec s.nano sm _ w2 (may33_f (tellX q s sm) hq _ (Nat.le_refl _))⟩
  have HE : Aside0 (mayF (tellX q s sm) = 9 ∨ mayF (tellX q s sm) = 2 ∨ mayF (tellX q s sm) = 0) := ⟨by unfold mayF; split; exact .inl rfl; split; exact .inr (.inl rfl); exact .inr (.inr rfl)⟩
  obtain ⟨r, hr⟩ : ∃ r, tellE q s sm = r := ⟨_, rfl⟩
  rw [hr]
  unfold tellE at hr
  have HRr := Aside0.mk hr
  unfold tellX at HMay HE HRr ⊢
  unfold stV
  clear h hq hS hr
  go_enter Tryd.func28, Tryd.ntmps28
  go_wp2_with fail
  refine HMay.out.mono ?_
  rintro e w3 ⟨rfl, hb⟩
  have HB3 := Aside0.mk (ld_step HBW.out hb)
  have HL3 := Aside0.mk (HH.out.below HB3.out)
  have HX3 := Aside0.mk (blk_below HX2.out hb)
  have HG3 := Aside0.mk (blk_below HG2.out hb)
  clear hb s0 s1 s2 s5 s6 x0 x1 x2 x3 x4 x5 HMay
  obtain ⟨s0, s1, s2, s5, s6⟩ := st_cells HG3.out
  obtain ⟨x0, x1, x2, x3, x4, x5⟩ := lx_cells (x := (⟨q, s.ino, s.size, s.sec, s.nano, sm⟩ : Ln)) HX3.out
  dsimp only at x0 x1 x2 x3 x4 x5
  have HRR := HRr.out
  generalize mayF (⟨q, s.ino, s.size, s.sec, s.nano, sm⟩ : Ln) = f at HE HRR ⊢
  have quit : ∀ z : Int, z = r → z ≠ 0 → (Ending.returned (.int .i64 z) = Ending.returned (.int .i64 r) ∧ ((r ≠ 0 ∧ Rl b0 p room v S w3 ∧ Below w.heap.size w w3) ∨ (r = 0 ∧ ∃ v', Rl b0 p room v' (capS room (lastS (⟨q, s.ino, s.size, s.sec, s.nano, sm⟩ : Ln) S)) w3 ∧ Bm p p w w3))) := fun z hz h0 => ⟨by rw [hz], .inl ⟨by rw [← hz]; exact h0, HL3.out, HB3.out⟩⟩
  by_cases k0 : s.kind = 1
  rotate_left
  · have e0 : (s.kind == 1) = false := beq_eq_false_iff_ne.mpr k0
    have e0' : (s.kind != 1) = true := bne_iff_ne.mpr k0
    rcases HE.out with rfl | rfl | rfl
    · have HQ9 := Aside0.mk (quit 9 (by simpa [k0] using HRR) (by decide))
      clear k0 HRR
      go_wp2
      go_ret
      have q9 := HQ9.out
      rw [hg] at q9
      first | exact q9 | (rw [hg]; exact q9) | exact HQ9.out
    · have HQ9 := Aside0.mk (quit 17 (by simpa [k0] using HRR) (by decide))
      clear k0 HRR
      go_wp2
      go_ret
      have q9 := HQ9.out
      rw [hg] at q9
      first | exact q9 | (rw [hg]; exact q9) | exact HQ9.out
    · have HQ9 := Aside0.mk (quit 17 (by simpa [k0] using HRR) (by decide))
      clear k0 HRR
      go_wp2
      go_ret
      have q9 := HQ9.out
      rw [hg] at q9
      first | exact q9 | (rw [hg]; exact q9) | exact HQ9.out
  have e0 : (s.kind == 1) = true := beq_iff_eq.mpr k0
  have e0' : (s.kind != 1) = false := bne_eq_false_iff_eq.mpr k0
  rcases HE.out with rfl | rfl | rfl
  · have HQ9 := Aside0.mk (quit 9 (by simpa [k0] using HRR) (by decide))
    clear k0 HRR
    go_wp2
    go_ret
    have q9 := HQ9.out
    rw [hg] at q9
    first | exact q9 | (rw [hg]; exact q9) | exact HQ9.out
  · have HQ9 := Aside0.mk (quit 2 (by simpa [k0] using HRR) (by decide))
    clear k0 HRR
    go_wp2
    go_ret
    have q9 := HQ9.out
    rw [hg] at q9
    first | exact q9 | (rw [hg]; exact q9) | exact HQ9.out
  have hr0 : 0 = r := by simpa [k0] using HRR
  have HLa := Aside0.mk (ref_last.at_ b0 p room v S (⟨q, s.ino, s.size, s.sec, s.nano, sm⟩ : Ln) w3 HL3.out HS.out)
  have HR0 := Aside0.mk hr0
  clear k0 quit HRR hr0
  go_wp2_with fail
  refine HLa.out.mono ?_
  rintro e w4 ⟨rfl, v', hL4, hB4⟩
  have HL4 := Aside0.mk hL4
  have HB4 := Aside0.mk (((Bm.refl p p w).below HB3.out).trans hB4)
  clear hL4 hB4 HLa
  go_wp2
  go_ret
  have hr9 := HR0.out
  subst hr9
  exact ⟨rfl, .inr ⟨rfl, v', HL4.out, HB4.out⟩⟩
set_option maxHeartbeats 8000000 in
set_option maxRecDepth 20000 in
theorem ref_Do.at_ (b0 p : Nat) (room : Int) (v : Value) (S : List Ln) (a : Ac) (w : World) (h : Rl b0 p room v S w) (hq : a.path.size ≤ 1000000) (hS : S.length < 1000000) (hN : (paths S).Nodup) (hz : ∀ x ∈ S, x.path.size ≤ 1000000) (hcap : ∀ x ∈ S, capS room (lastS x S) = lastS x S) :
    Calls Tryd.prog 12 #[.pointer (some ⟨p, 0, none⟩), acV a] w fun e w' => e = .returned (reV (doF room S a)) ∧ ∃ v', Rl b0 p room v' (doF room S a).S w' ∧ Bm p p w w' := by
  obtain ⟨w1, hw1⟩ : ∃ w1, w.alloc (.cells (acC a) 39) = w1 := ⟨_, rfl⟩
  obtain ⟨g, hg⟩ : ∃ g, w.heap.size = g := ⟨_, rfl⟩
  have HG1 : Aside0 (w1.heap[g]? = some (.cells (acC a) 39 (0, 0))) := ⟨by rw [← hw1, ← hg]; exact blk_new w _⟩
  have HB1 : Aside0 (Below w.heap.size w w1) := ⟨by rw [← hw1]; exact below_alloc (Below.refl _ _) _⟩
  have HL1 := Aside0.mk (h.below HB1.out)
  have HBm := Aside0.mk ((Bm.refl p p w).below HB1.out)
  have HN := Aside0.mk hN
  have HCap := Aside0.mk hcap
  obtain ⟨c0, c1, c2, c3, c4, c5, c6, c7, c8, c9, c10, c11, c12⟩ := ac_cells HG1.out
  have HAsk := Aside0.mk (ref_Ask.at_ b0 p room v S a.path a.st w1 HL1.out hS hN)
  have HTell := Aside0.mk (ref_Tell.at_ b0 p room v S a.path a.st a.sum w1 HL1.out hq hS)
  have HFor := Aside0.mk (ref_Forget.at_ b0 p room v S a.path w1 HL1.out hq hz (fun q w2 hq2 => remoraref13_Under.calls _ q a.path _ w2 (under13_f q a.path hq2 hq (q.size + a.path.size + 2) (by omega) (by omega))))
  unfold stV stC at HAsk HTell
  unfold acV
  clear h hq hS hN hz hcap
  by_cases k0 : a.act = 0
  · have e0 : (a.act == 0) = true := beq_iff_eq.mpr k0
    have K0 := Aside0.mk k0
    clear k0
    go_enter Tryd.func12, Tryd.ntmps12
    go_wp2_with fail
    refine HAsk.out.mono ?_
    rintro e w2 (⟨rfl, hno, hL, hB⟩ | ⟨x, hx, hxq, hm, rfl, v', hL, hB⟩)
    · have HD2 : Aside0 (doF room S a = ⟨⟨#[]⟩, false, 0, 0, S⟩) := ⟨by unfold doF; rw [if_pos K0.out, askX_none hno]⟩
      have HL2 := Aside0.mk hL
      have HB2 := Aside0.mk (HBm.out.below hB)
      clear hL hB hno
      clear HAsk HTell HFor
      go_wp2
      refine bodyPost_ret (ld_results4 rfl _ _ _) rfl ?_
      refine ⟨?_, v, ?_, HB2.out⟩
      · show Ending.returned (.tuple #[.string ⟨#[]⟩, .bool false, .int .i64 0, .int .i64 0]) = _
        rw [HD2.out]; rfl
      · rw [HD2.out]; exact HL2.out
    · have HD2 : Aside0 (doF room S a = ⟨x.sum, true, 0, 0, lastS x S⟩) := ⟨by unfold doF; rw [if_pos K0.out, askX_some HN.out hx hxq hm]⟩
      rw [HCap.out x hx] at hL
      have HL2 := Aside0.mk hL
      have HB2 := Aside0.mk (HBm.out.trans hB)
      clear hL hB hx hxq hm
      clear HAsk HTell HFor
      go_wp2
      refine bodyPost_ret (ld_results4 rfl _ _ _) rfl ?_
      refine ⟨?_, v', ?_, HB2.out⟩
      · show Ending.returned (.tuple #[.string x.sum, .bool true, .int .i64 0, .int .i64 0]) = _
        rw [HD2.out]; rfl
      · rw [HD2.out]; exact HL2.out
  have e0 : (a.act == 0) = false := beq_eq_false_iff_ne.mpr k0
  by_cases k1 : a.act = 1
  · have e1 : (a.act == 1) = true := beq_iff_eq.mpr k1
    have K1 := Aside0.mk (And.intro k0 k1)
    clear k0 k1
    go_enter Tryd.func12, Tryd.ntmps12
    go_wp2_with fail
    refine HTell.out.mono ?_
    rintro e w2 ⟨rfl, ⟨hz, hL, hB⟩ | ⟨hz, v', hL, hB⟩⟩
    · have HD2 : Aside0 (doF room S a = ⟨⟨#[]⟩, false, tellE a.path a.st a.sum, 0, S⟩) := ⟨by unfold doF; rw [if_neg K1.out.1, if_pos K1.out.2, if_neg hz]⟩
      have HL2 := Aside0.mk hL
      have HB2 := Aside0.mk (HBm.out.below hB)
      clear hL hB hz
      clear HAsk HTell HFor
      go_wp2
      refine bodyPost_ret (ld_results4 rfl _ _ _) rfl ?_
      refine ⟨?_, v, ?_, HB2.out⟩
      · show Ending.returned (.tuple #[.string ⟨#[]⟩, .bool false, .int .i64 (tellE a.path a.st a.sum), .int .i64 0]) = _
        rw [HD2.out]; rfl
      · rw [HD2.out]; exact HL2.out
    · have HD2 : Aside0 (doF room S a = ⟨⟨#[]⟩, false, tellE a.path a.st a.sum, 0, capS room (lastS (tellX a.path a.st a.sum) S)⟩) := ⟨by unfold doF; rw [if_neg K1.out.1, if_pos K1.out.2, if_pos hz]⟩
      have HL2 := Aside0.mk hL
      have HB2 := Aside0.mk (HBm.out.trans hB)
      clear hL hB hz
      clear HAsk HTell HFor
      go_wp2
      refine bodyPost_ret (ld_results4 rfl _ _ _) rfl ?_
      refine ⟨?_, v', ?_, HB2.out⟩
      · show Ending.returned (.tuple #[.string ⟨#[]⟩, .bool false, .int .i64 (tellE a.path a.st a.sum), .int .i64 0]) = _
        rw [HD2.out]; rfl
      · rw [HD2.out]; exact HL2.out
  have e1 : (a.act == 1) = false := beq_eq_false_iff_ne.mpr k1
  by_cases k2 : a.act = 2
  · have e2 : (a.act == 2) = true := beq_iff_eq.mpr k2
    have HD2 : Aside0 (doF room S a = ⟨⟨#[]⟩, false, 0, (S.length : Int) - (outS (fun q => underF q a.path) S).length, outS (fun q => underF q a.path) S⟩) := ⟨by unfold doF; rw [if_neg k0, if_neg k1, if_pos k2]⟩
    clear k0 k1 k2
    go_enter Tryd.func12, Tryd.ntmps12
    go_wp2_with fail
    refine HFor.out.mono ?_
    rintro e w2 ⟨rfl, v', hL, hB⟩
    have HL2 := Aside0.mk hL
    have HB2 := Aside0.mk (HBm.out.trans hB)
    clear hL hB
    clear HAsk HTell HFor
    go_wp2
    refine bodyPost_ret (ld_results4 rfl _ _ _) rfl ?_
    refine ⟨?_, v', ?_, HB2.out⟩
    · show Ending.returned (.tuple #[.string ⟨#[]⟩, .bool false, .int .i64 0, .int .i64 ((S.length : Int) - (outS (fun q => underF q a.path) S).length)]) = _
      rw [HD2.out]; rfl
    · rw [HD2.out]; exact HL2.out
  have e2 : (a.act == 2) = false := beq_eq_false_iff_ne.mpr k2
  have HD2 : Aside0 (doF room S a = ⟨⟨#[]⟩, false, 0, 0, S⟩) := ⟨by unfold doF; rw [if_neg k0, if_neg k1, if_neg k2]⟩
  clear k0 k1 k2
  go_enter Tryd.func12, Tryd.ntmps12
  clear HAsk HTell HFor
  go_wp2
  refine bodyPost_ret (ld_results4 rfl _ _ _) rfl ?_
  refine ⟨?_, v, ?_, HBm.out⟩
  · show Ending.returned (.tuple #[.string ⟨#[]⟩, .bool false, .int .i64 0, .int .i64 0]) = _
    rw [HD2.out]; rfl
  · rw [HD2.out]; exact HL1.out
set_option maxHeartbeats 4000000 in
set_option maxRecDepth 20000 in
theorem led_Len.nil  (w : World) :
    Calls Tryd.prog 15 #[.pointer none] w fun e w' => e = .returned (.int .i64 0) ∧ Below w.heap.size w w' := by
  skip
  go_enter Tryd.func15, Tryd.ntmps15
  go_wp2
  go_ret
  exact ⟨rfl, by repeat (first | exact Below.refl _ _ | apply below_alloc | apply pw_below_drewN | apply below_drew)⟩
set_option maxHeartbeats 4000000 in
set_option maxRecDepth 20000 in
theorem led_Paths.nil  (w : World) :
    Calls Tryd.prog 18 #[.pointer none] w fun e w' => e = .returned (.slice none 0 0) ∧ Below w.heap.size w w' := by
  skip
  go_enter Tryd.func18, Tryd.ntmps18
  go_wp2
  go_ret
  exact ⟨rfl, by repeat (first | exact Below.refl _ _ | apply below_alloc | apply pw_below_drewN | apply below_drew)⟩
set_option maxHeartbeats 4000000 in
set_option maxRecDepth 20000 in
theorem led_Bytes.nil  (w : World) :
    Calls Tryd.prog 13 #[.pointer none] w fun e w' => e = .returned (.slice none 0 0) ∧ Below w.heap.size w w' := by
  skip
  go_enter Tryd.func13, Tryd.ntmps13
  go_wp2
  go_ret
  exact ⟨rfl, by repeat (first | exact Below.refl _ _ | apply below_alloc | apply pw_below_drewN | apply below_drew)⟩
set_option maxHeartbeats 4000000 in
set_option maxRecDepth 20000 in
theorem led_Forget.nil (top : ByteArray) (w : World) :
    Calls Tryd.prog 26 #[.pointer none, .string top] w fun e w' => e = .returned (.int .i64 0) ∧ Below w.heap.size w w' := by
  skip
  go_enter Tryd.func26, Tryd.ntmps26
  go_wp2
  go_ret
  exact ⟨rfl, by repeat (first | exact Below.refl _ _ | apply below_alloc | apply pw_below_drewN | apply below_drew)⟩
set_option maxHeartbeats 4000000 in
set_option maxRecDepth 20000 in
theorem led_Ask.nil (q : ByteArray) (s : St) (w : World) :
    Calls Tryd.prog 25 #[.pointer none, .string q, stV s] w fun e w' => e = .returned (.tuple #[.string ⟨#[]⟩, .bool false]) ∧ Below w.heap.size w w' := by
  unfold stV
  go_enter Tryd.func25, Tryd.ntmps25
  go_wp2
  go_ret2
  exact ⟨rfl, by repeat (first | exact Below.refl _ _ | apply below_alloc | apply pw_below_drewN | apply below_drew)⟩
set_option maxHeartbeats 4000000 in
set_option maxRecDepth 20000 in
theorem led_Tell.nil (q : ByteArray) (s : St) (sm : ByteArray) (w : World) :
    Calls Tryd.prog 23 #[.pointer none, .string q, stV s, .string sm] w fun e w' => e = .returned (.int .i64 1) ∧ Below w.heap.size w w' := by
  unfold stV
  go_enter Tryd.func23, Tryd.ntmps23
  go_wp2
  go_ret
  exact ⟨rfl, by repeat (first | exact Below.refl _ _ | apply below_alloc | apply pw_below_drewN | apply below_drew)⟩
def nilE (a : Ac) : Int := if a.act = 1 then 1 else 0
set_option maxHeartbeats 8000000 in
set_option maxRecDepth 20000 in
theorem law_Do.nil (a : Ac) (w : World) :
    Calls Tryd.prog 11 #[.pointer none, acV a] w fun e w' => e = .returned (.tuple #[.string ⟨#[]⟩, .bool false, .int .i64 (nilE a), .int .i64 0]) ∧ Below w.heap.size w w' := by
  obtain ⟨w1, hw1⟩ : ∃ w1, w.alloc (.cells (acC a) 39) = w1 := ⟨_, rfl⟩
  obtain ⟨g, hg⟩ : ∃ g, w.heap.size = g := ⟨_, rfl⟩
  have HG1 : Aside0 (w1.heap[g]? = some (.cells (acC a) 39 (0, 0))) := ⟨by rw [← hw1, ← hg]; exact blk_new w _⟩
  have HB1 : Aside0 (Below w.heap.size w w1) := ⟨by rw [← hw1]; exact below_alloc (Below.refl _ _) _⟩
  obtain ⟨c0, c1, c2, c3, c4, c5, c6, c7, c8, c9, c10, c11, c12⟩ := ac_cells HG1.out
  have HAsk := Aside0.mk (led_Ask.nil a.path a.st w1)
  have HTell := Aside0.mk (led_Tell.nil a.path a.st a.sum w1)
  have HFor := Aside0.mk (led_Forget.nil a.path w1)
  unfold stV stC at HAsk HTell
  unfold acV
  by_cases k0 : a.act = 0
  · have e0 : (a.act == 0) = true := beq_iff_eq.mpr k0
    have HN : Aside0 (nilE a = 0) := ⟨by unfold nilE; rw [if_neg (by omega)]⟩
    clear k0
    go_enter Tryd.func11, Tryd.ntmps11
    go_wp2_with fail
    refine HAsk.out.mono ?_
    rintro e w2 ⟨rfl, hB⟩
    have HB2 := Aside0.mk (ld_step HB1.out hB)
    clear hB HAsk HTell HFor
    go_wp2
    refine bodyPost_ret (ld_results4 rfl _ _ _) rfl ?_
    exact ⟨by rw [HN.out]; rfl, by first | exact HB2.out | (rw [← hg]; exact HB2.out)⟩
  have e0 : (a.act == 0) = false := beq_eq_false_iff_ne.mpr k0
  by_cases k1 : a.act = 1
  · have e1 : (a.act == 1) = true := beq_iff_eq.mpr k1
    have HN : Aside0 (nilE a = 1) := ⟨by unfold nilE; rw [if_pos k1]⟩
    clear k0 k1
    go_enter Tryd.func11, Tryd.ntmps11
    go_wp2_with fail
    refine HTell.out.mono ?_
    rintro e w2 ⟨rfl, hB⟩
    have HB2 := Aside0.mk (ld_step HB1.out hB)
    clear hB HAsk HTell HFor
    go_wp2
    refine bodyPost_ret (ld_results4 rfl _ _ _) rfl ?_
    exact ⟨by rw [HN.out]; rfl, by first | exact HB2.out | (rw [← hg]; exact HB2.out)⟩
  have e1 : (a.act == 1) = false := beq_eq_false_iff_ne.mpr k1
  have HN : Aside0 (nilE a = 0) := ⟨by unfold nilE; rw [if_neg k1]⟩
  by_cases k2 : a.act = 2
  · have e2 : (a.act == 2) = true := beq_iff_eq.mpr k2
    clear k0 k1 k2
    go_enter Tryd.func11, Tryd.ntmps11
    go_wp2_with fail
    refine HFor.out.mono ?_
    rintro e w2 ⟨rfl, hB⟩
    have HB2 := Aside0.mk (ld_step HB1.out hB)
    clear hB HAsk HTell HFor
    go_wp2
    refine bodyPost_ret (ld_results4 rfl _ _ _) rfl ?_
    exact ⟨by rw [HN.out]; rfl, by first | exact HB2.out | (rw [← hg]; exact HB2.out)⟩
  have e2 : (a.act == 2) = false := beq_eq_false_iff_ne.mpr k2
  clear k0 k1 k2
  go_enter Tryd.func11, Tryd.ntmps11
  clear HAsk HTell HFor
  go_wp2
  refine bodyPost_ret (ld_results4 rfl _ _ _) rfl ?_
  exact ⟨by rw [HN.out]; rfl, by first | exact HB1.out | (rw [← hg]; exact HB1.out)⟩
/-- The program's ledger under what the document's one changes. -/
theorem Lg.bm {b0 p mb n q : Nat} {room : Int} {v : Value} {S : List Ln} {w w' : World} {cs : Array Value} (h : Lg b0 p mb n room v S w) (hb : Bm q q w w') (hq : w.heap[q]? = some (.cells cs 60 (0, 0))) : Lg b0 p mb n room v S w' := by
  have hp : p ≠ q := fun e => by
    have h1 := h.hP
    rw [e, hq] at h1
    injection h1 with h1
    injection h1 with _ h1
    exact absurd h1 (by decide)
  have hm : mb ≠ q := fun e => by
    obtain ⟨D, hown, _⟩ := h.hM
    obtain ⟨es, c, hmb, _⟩ := hown
    rw [e, hq] at hmb
    cases hmb
  refine ⟨(hb.block p (blk_lt h.hP) hp hp).trans h.hP, h.hM.kept (row := some q) ⟨hb.os, hb.tape, hb.output, hb.size, fun i hi hne => hb.block i hi (fun e => hne (by rw [e])) (fun e => hne (by rw [e]))⟩ (fun e => hm (Option.some.inj e)), ?_, h.hN, h.hz, h.hne, h.hp0, h.hm0, h.hl⟩
  have hE : Kd.string.E = [] := by rfl
  have h2 := Kd.R_types h.hR hq (fun z hz => by rw [hE] at hz; rw [List.mem_singleton.1 hz]; decide)
  exact Kd.R_mono (Kd.R_step h2 (fun k hk hlt => hb.block k hlt hk.2 hk.2)) (fun k hk => hk.1)
/-- The document's ledger under what the program's one changes. -/
theorem Rl.bm {b0 p mb q : Nat} {room : Int} {v : Value} {S : List Ln} {w w' : World} {b1 n : Nat} {room1 : Int} {v1 : Value} {S1 : List Ln} (h : Rl b0 q room v S w) (hb : Bm p mb w w') (hl : Lg b1 p mb n room1 v1 S1 w) : Rl b0 q room v S w' := by
  have hp : q ≠ p := fun e => by
    have h1 := h.hP
    rw [e, hl.hP] at h1
    injection h1 with h1
    injection h1 with _ h1
    exact absurd h1 (by decide)
  have hm : q ≠ mb := fun e => by
    obtain ⟨D, hown, _⟩ := hl.hM
    obtain ⟨es, c, hmb, _⟩ := hown
    rw [← e, h.hP] at hmb
    cases hmb
  refine ⟨(hb.block q (blk_lt h.hP) hp hm).trans h.hP, ?_, h.hp0, h.hl⟩
  have hE : k71.E = [] := by rfl
  have h2 := Kd.R_types h.hR hl.hP (fun z hz => by rw [hE] at hz; rw [List.mem_singleton.1 hz]; decide)
  refine Kd.R_mono (Kd.R_step (Kd.R_bound h2) (fun k hk hlt => hb.block k hlt hk.1.2 (fun e => ?_))) (fun k hk => hk.1.1)
  obtain ⟨_, _, _, z, hz, cells, hc⟩ := hk
  obtain ⟨D, hown, _⟩ := hl.hM
  obtain ⟨es, c, hmb, _⟩ := hown
  rw [← e, hc] at hmb
  cases hmb
theorem small_l0 (l : List S39) (hl : l.length ≤ 2000000000000) : ∀ (d k i : Nat), i + d = l.length → d < k → ∃ b, remoraref33_Small.l0 k l (i : Int) = some b ∧ (b = true → l.length ≤ 60 ∧ ∀ j : Nat, i ≤ j → j < l.length → (rd_T39 l (j : Int)).f1.size ≤ 600 ∧ (rd_T39 l (j : Int)).f3.size ≤ 100) := by
  intro d
  induction d with
  | zero =>
    intro k i h hk
    obtain ⟨k, rfl⟩ : ∃ m, k = m + 1 := ⟨k - 1, by omega⟩
    simp only [remoraref33_Small.l0]
    rw [if_neg (by omega)]
    exact ⟨_, rfl, fun h1 => ⟨by have := of_decide_eq_true h1; omega, fun j h2 h3 => by omega⟩⟩
  | succ d ih =>
    intro k i h hk
    obtain ⟨k, rfl⟩ : ∃ m, k = m + 1 := ⟨k - 1, by omega⟩
    simp only [remoraref33_Small.l0]
    rw [if_pos (by omega), if_pos (by omega)]
    by_cases c1 : ((rd_T39 l (i : Int)).f1.size : Int) > 600
    · rw [if_pos c1]; exact ⟨_, rfl, fun h => by cases h⟩
    rw [if_neg c1]
    by_cases c2 : ((rd_T39 l (i : Int)).f3.size : Int) > 100
    · rw [if_pos c2]; exact ⟨_, rfl, fun h => by cases h⟩
    rw [if_neg c2, show wrap64 ((i : Int) + 1) = ((i + 1 : Nat) : Int) by unfold wrap64; omega]
    obtain ⟨b, hb, h2⟩ := ih k (i + 1) (by omega) (by omega)
    refine ⟨b, hb, fun hb => ⟨(h2 hb).1, fun j h3 h4 => ?_⟩⟩
    by_cases e : j = i
    · subst e; omega
    · exact (h2 hb).2 j (by omega) h4
theorem small_f (l : List S39) (hl : l.length ≤ 2000000000000) : ∃ b, remoraref33_Small.f (l.length + 1) l = some b ∧ (b = true → l.length ≤ 60 ∧ ∀ j : Nat, j < l.length → (rd_T39 l (j : Int)).f1.size ≤ 600 ∧ (rd_T39 l (j : Int)).f3.size ≤ 100) := by
  obtain ⟨b, hb, h⟩ := small_l0 l hl l.length (l.length + 1) 0 (by omega) (by omega)
  exact ⟨b, hb, fun h1 => ⟨(h h1).1, fun j hj => (h h1).2 j (Nat.zero_le _) hj⟩⟩
theorem texts_l0 (L : List ByteArray) (hl : L.length ≤ 2000000000000) : ∀ (d k i : Nat), i + d = L.length → d < k → remoraref17_Texts.l0 k L L (i : Int) = some true := by
  intro d
  induction d with
  | zero =>
    intro k i h hk
    obtain ⟨k, rfl⟩ : ∃ m, k = m + 1 := ⟨k - 1, by omega⟩
    simp only [remoraref17_Texts.l0]
    rw [if_neg (by omega)]
  | succ d ih =>
    intro k i h hk
    obtain ⟨k, rfl⟩ : ∃ m, k = m + 1 := ⟨k - 1, by omega⟩
    simp only [remoraref17_Texts.l0]
    rw [if_pos (by omega), if_pos (by omega), if_pos (by omega), if_pos trivial, show wrap64 ((i : Int) + 1) = ((i + 1 : Nat) : Int) by unfold wrap64; omega]
    exact ih k (i + 1) (by omega) (by omega)
theorem texts_f (L : List ByteArray) (hl : L.length ≤ 2000000000000) : remoraref17_Texts.f (L.length + 1) L L = some true := by
  unfold remoraref17_Texts.f
  rw [if_pos rfl]
  exact texts_l0 L hl L.length _ 0 (by omega) (by omega)
def acOf (x : S39) : Ac := ⟨x.f0, x.f1, ⟨x.f2.f0, x.f2.f1, x.f2.f2, x.f2.f3, x.f2.f4.f0, x.f2.f4.f1, x.f2.f4.f2, x.f2.f4.f3, x.f2.f4.f4, x.f2.f5⟩, x.f3⟩
theorem askX_mem {S : List Ln} {q : ByteArray} {s : St} {x : Ln} (h : askX S q s = some x) : x ∈ S ∧ x.path = q ∧ mt s x = true := by
  unfold askX at h
  have h1 := List.find?_some h
  rw [Bool.and_eq_true] at h1
  exact ⟨List.mem_of_find?_eq_some h, (eqP_iff q x.path).1 h1.1, h1.2⟩
theorem outS_lt {S : List Ln} {x : Ln} (h : x ∈ S) : (outS (eqP x.path) S).length + 1 ≤ S.length := by
  unfold outS
  have := List.length_filter_lt_length_iff_exists (p := fun y : Ln => !eqP x.path y.path) (l := S)
  have h2 := this.2 ⟨x, h, by rw [(eqP_iff x.path x.path).2 rfl]; simp⟩
  omega
theorem outS_ge {S : List Ln} (q : ByteArray) (h : (paths S).Nodup) : S.length ≤ (outS (eqP q) S).length + 1 := by
  induction S with
  | nil => simp
  | cons z T ih =>
    obtain ⟨h1, h2⟩ := List.nodup_cons.1 (show (z.path :: paths T).Nodup from h)
    unfold outS
    cases hz : eqP q z.path with
    | true =>
      have e := (eqP_iff q z.path).1 hz
      subst e
      have := outS_head z T h
      unfold outS at this
      rw [this]; simp
    | false =>
      rw [List.filter_cons, if_pos (by rw [hz]; rfl)]
      have := ih h2
      unfold outS at this
      simp only [List.length_cons]
      omega
theorem lastS_len (x : Ln) (S : List Ln) : (lastS x S).length = (outS (eqP x.path) S).length + 1 := by unfold lastS; simp
theorem outS_le (pr : ByteArray → Bool) (S : List Ln) : (outS pr S).length ≤ S.length := List.length_filter_le _ _
theorem capS_le (room : Int) (x : Ln) (S : List Ln) (h1 : 1 ≤ room) (h : (S.length : Int) ≤ room) : ((capS room (lastS x S)).length : Int) ≤ room := by
  have h2 := lastS_len x S
  have h3 := outS_le (eqP x.path) S
  unfold capS
  split
  · rw [List.length_tail]; omega
  · omega
theorem capS_ge (room : Int) (x : Ln) (S : List Ln) (h1 : 1 ≤ room) (h : (S.length : Int) ≤ room) (hn : (paths S).Nodup) : S.length ≤ (capS room (lastS x S)).length := by
  have h2 := lastS_len x S
  have h3 := outS_ge x.path hn
  unfold capS
  split
  · rw [List.length_tail]; omega
  · omega
theorem capS_last (room : Int) (x : Ln) (S : List Ln) (h1 : 1 ≤ room) : ∃ T, capS room (lastS x S) = T ++ [x] := by
  unfold capS
  split
  · rename_i h
    unfold lastS at h ⊢
    cases ho : outS (eqP x.path) S with
    | nil => rw [ho] at h; simp at h; omega
    | cons y O => exact ⟨O, rfl⟩
  · exact ⟨outS (eqP x.path) S, rfl⟩
theorem doF_len (room : Int) (S : List Ln) (a : Ac) (h1 : 1 ≤ room) (h : (S.length : Int) ≤ room) : ((doF room S a).S.length : Int) ≤ room := by
  unfold doF
  split
  · cases hx : askX S a.path a.st with
    | none => exact h
    | some x =>
      have h2 := lastS_len x S
      have h3 := outS_lt (askX_mem hx).1
      show ((lastS x S).length : Int) ≤ room
      omega
  · split
    · show ((if tellE a.path a.st a.sum = 0 then capS room (lastS (tellX a.path a.st a.sum) S) else S).length : Int) ≤ room
      split
      · exact capS_le room _ S h1 h
      · exact h
    · split
      · have := outS_le (fun q => underF q a.path) S
        show ((outS (fun q => underF q a.path) S).length : Int) ≤ room
        omega
      · exact h
theorem doF_ask (room : Int) (S : List Ln) (a : Ac) (h0 : a.act = 0) (h : (doF room S a).ok = false) : (doF room S a).S = S := by
  unfold doF at h ⊢
  rw [if_pos h0] at h ⊢
  cases hx : askX S a.path a.st with
  | none => rfl
  | some x => rw [hx] at h; cases h
theorem doF_tell (room : Int) (S : List Ln) (a : Ac) (h0 : a.act = 1) : (doF room S a).e = tellE a.path a.st a.sum ∧ (doF room S a).S = if tellE a.path a.st a.sum = 0 then capS room (lastS (tellX a.path a.st a.sum) S) else S := by
  unfold doF
  rw [if_neg (by omega), if_pos h0]
  exact ⟨rfl, rfl⟩
theorem paths_len (S : List Ln) : (paths S).length = S.length := by unfold paths; rw [List.length_map]
theorem act_cells {w : World} {A : Option Addr} {n : Nat} {l : List S39} (h : Kd.C k39 w A n l) (i : Nat) (h1 : i < n) : ∃ ad, A = some ad ∧ w.cell? (ad.add (i * 13)) = some (.int .i64 (rd_T39 l (i : Int)).f0) ∧ w.cell? ⟨(ad.add (i * 13)).block, (ad.add (i * 13)).off + 1, none⟩ = some (.string (rd_T39 l (i : Int)).f1) ∧ w.cell? ⟨(ad.add (i * 13)).block, (ad.add (i * 13)).off + 2, none⟩ = some (.int .i64 (rd_T39 l (i : Int)).f2.f0) ∧ w.cell? ⟨(ad.add (i * 13)).block, (ad.add (i * 13)).off + 3, none⟩ = some (.int .i64 (rd_T39 l (i : Int)).f2.f1) ∧ w.cell? ⟨(ad.add (i * 13)).block, (ad.add (i * 13)).off + 4, none⟩ = some (.int .i64 (rd_T39 l (i : Int)).f2.f2) ∧ w.cell? ⟨(ad.add (i * 13)).block, (ad.add (i * 13)).off + 5, none⟩ = some (.int .i64 (rd_T39 l (i : Int)).f2.f3) ∧ w.cell? ⟨(ad.add (i * 13)).block, (ad.add (i * 13)).off + 6, none⟩ = some (.int .i64 (rd_T39 l (i : Int)).f2.f4.f0) ∧ w.cell? ⟨(ad.add (i * 13)).block, (ad.add (i * 13)).off + 7, none⟩ = some (.int .i64 (rd_T39 l (i : Int)).f2.f4.f1) ∧ w.cell? ⟨(ad.add (i * 13)).block, (ad.add (i * 13)).off + 8, none⟩ = some (.int .i64 (rd_T39 l (i : Int)).f2.f4.f2) ∧ w.cell? ⟨(ad.add (i * 13)).block, (ad.add (i * 13)).off + 9, none⟩ = some (.int .i64 (rd_T39 l (i : Int)).f2.f4.f3) ∧ w.cell? ⟨(ad.add (i * 13)).block, (ad.add (i * 13)).off + 10, none⟩ = some (.int .i64 (rd_T39 l (i : Int)).f2.f4.f4) ∧ w.cell? ⟨(ad.add (i * 13)).block, (ad.add (i * 13)).off + 11, none⟩ = some (.string (rd_T39 l (i : Int)).f2.f5) ∧ w.cell? ⟨(ad.add (i * 13)).block, (ad.add (i * 13)).off + 12, none⟩ = some (.string (rd_T39 l (i : Int)).f3) := by
  have := at_T39 h (i : Int) (by omega) (by omega)
  rw [Int.toNat_natCast] at this
  exact this


end Go.Proofs.YtniboafnkiijcaaDoor.P
