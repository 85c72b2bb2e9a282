-- Written by a program of the session (wip/tool/mk.py) out of the translation; Lean checks it.
import Derived.Test.YtniboafnkiijcaaPx0
import Derived.Test.YtniboafnkiijcaaPx1
import Derived.Test.YtniboafnkiijcaaPx3
import Derived.Test.YtniboafnkiijcaaPx4
import Derived.Test.YtniboafnkiijcaaPx6
import Derived.Test.YtniboafnkiijcaaPx7
import Derived.Test.YtniboafnkiijcaaPx9
namespace Go.Proofs.Ytniboafnkiijcaa.P
open Go.RowKit Go.Proofs.YtniboafnkiijcaaW.PrintWords Go.Proofs.YtniboafnkiijcaaW.PrintLast Go.Proofs.YtniboafnkiijcaaW.PrintMore
attribute [local go_sem] max2_int min2_int max_two min_two max_three min_three max_four min_four   -- for this text's walks alone
set_option linter.unusedVariables false
set_option linter.unusedSimpArgs false

/-! ### remoralaw33_LedgerKeeps: function 3, a contract of my own -/
namespace LKeeps
theorem small_l0 (l : List S36) (hl : l.length ≤ 2000000000000) : ∀ (d k i : Nat), i + d = l.length → d < k → ∃ b, remoraref33_Small.l0 k l (i : Int) = some b ∧ (b = true → l.length ≤ 60 ∧ ∀ j : Nat, i ≤ j → j < l.length → (rd_T36 l (j : Int)).f1.size ≤ 600 ∧ (rd_T36 l (j : Int)).f3.size ≤ 100) := by
  intro d
  induction d with
  | zero =>
    intro k i h hk
    obtain ⟨k, rfl⟩ : ∃ m, k = m + 1 := ⟨k - 1, by omega⟩
    simp only [remoraref33_Small.l0]
    rw [if_neg (by omega)]
    exact ⟨_, rfl, fun h1 => ⟨by have := of_decide_eq_true h1; omega, fun j h2 h3 => by omega⟩⟩
  | succ d ih =>
    intro k i h hk
    obtain ⟨k, rfl⟩ : ∃ m, k = m + 1 := ⟨k - 1, by omega⟩
    simp only [remoraref33_Small.l0]
    rw [if_pos (by omega), if_pos (by omega)]
    by_cases c1 : ((rd_T36 l (i : Int)).f1.size : Int) > 600
    · rw [if_pos c1]; exact ⟨_, rfl, fun h => by cases h⟩
    rw [if_neg c1]
    by_cases c2 : ((rd_T36 l (i : Int)).f3.size : Int) > 100
    · rw [if_pos c2]; exact ⟨_, rfl, fun h => by cases h⟩
    rw [if_neg c2, show wrap64 ((i : Int) + 1) = ((i + 1 : Nat) : Int) by unfold wrap64; omega]
    obtain ⟨b, hb, h2⟩ := ih k (i + 1) (by omega) (by omega)
    refine ⟨b, hb, fun hb => ⟨(h2 hb).1, fun j h3 h4 => ?_⟩⟩
    by_cases e : j = i
    · subst e; omega
    · exact (h2 hb).2 j (by omega) h4
theorem small_f (l : List S36) (hl : l.length ≤ 2000000000000) : ∃ b, remoraref33_Small.f (l.length + 1) l = some b ∧ (b = true → l.length ≤ 60 ∧ ∀ j : Nat, j < l.length → (rd_T36 l (j : Int)).f1.size ≤ 600 ∧ (rd_T36 l (j : Int)).f3.size ≤ 100) := by
  obtain ⟨b, hb, h⟩ := small_l0 l hl l.length (l.length + 1) 0 (by omega) (by omega)
  exact ⟨b, hb, fun h1 => ⟨(h h1).1, fun j hj => (h h1).2 j (Nat.zero_le _) hj⟩⟩
theorem texts_l0 (L : List ByteArray) (hl : L.length ≤ 2000000000000) : ∀ (d k i : Nat), i + d = L.length → d < k → remoraref17_Texts.l0 k L L (i : Int) = some true := by
  intro d
  induction d with
  | zero =>
    intro k i h hk
    obtain ⟨k, rfl⟩ : ∃ m, k = m + 1 := ⟨k - 1, by omega⟩
    simp only [remoraref17_Texts.l0]
    rw [if_neg (by omega)]
  | succ d ih =>
    intro k i h hk
    obtain ⟨k, rfl⟩ : ∃ m, k = m + 1 := ⟨k - 1, by omega⟩
    simp only [remoraref17_Texts.l0]
    rw [if_pos (by omega), if_pos (by omega), if_pos (by omega), if_pos trivial, show wrap64 ((i : Int) + 1) = ((i + 1 : Nat) : Int) by unfold wrap64; omega]
    exact ih k (i + 1) (by omega) (by omega)
theorem texts_f (L : List ByteArray) (hl : L.length ≤ 2000000000000) : remoraref17_Texts.f (L.length + 1) L L = some true := by
  unfold remoraref17_Texts.f
  rw [if_pos rfl]
  exact texts_l0 L hl L.length _ 0 (by omega) (by omega)
def acOf (x : S36) : Ac := ⟨x.f0, x.f1, ⟨x.f2.f0, x.f2.f1, x.f2.f2, x.f2.f3, x.f2.f4.f0, x.f2.f4.f1, x.f2.f4.f2, x.f2.f4.f3, x.f2.f4.f4, x.f2.f5⟩, x.f3⟩
theorem askX_mem {S : List Ln} {q : ByteArray} {s : St} {x : Ln} (h : askX S q s = some x) : x ∈ S ∧ x.path = q ∧ mt s x = true := by
  unfold askX at h
  have h1 := List.find?_some h
  rw [Bool.and_eq_true] at h1
  exact ⟨List.mem_of_find?_eq_some h, (eqP_iff q x.path).1 h1.1, h1.2⟩
theorem outS_lt {S : List Ln} {x : Ln} (h : x ∈ S) : (outS (eqP x.path) S).length + 1 ≤ S.length := by
  unfold outS
  have := List.length_filter_lt_length_iff_exists (p := fun y : Ln => !eqP x.path y.path) (l := S)
  have h2 := this.2 ⟨x, h, by rw [(eqP_iff x.path x.path).2 rfl]; simp⟩
  omega
theorem outS_ge {S : List Ln} (q : ByteArray) (h : (paths S).Nodup) : S.length ≤ (outS (eqP q) S).length + 1 := by
  induction S with
  | nil => simp
  | cons z T ih =>
    obtain ⟨h1, h2⟩ := List.nodup_cons.1 (show (z.path :: paths T).Nodup from h)
    unfold outS
    cases hz : eqP q z.path with
    | true =>
      have e := (eqP_iff q z.path).1 hz
      subst e
      have := outS_head z T h
      unfold outS at this
      rw [this]; simp
    | false =>
      rw [List.filter_cons, if_pos (by rw [hz]; rfl)]
      have := ih h2
      unfold outS at this
      simp only [List.length_cons]
      omega
theorem lastS_len (x : Ln) (S : List Ln) : (lastS x S).length = (outS (eqP x.path) S).length + 1 := by unfold lastS; simp
theorem outS_le (pr : ByteArray → Bool) (S : List Ln) : (outS pr S).length ≤ S.length := List.length_filter_le _ _
theorem capS_le (room : Int) (x : Ln) (S : List Ln) (h1 : 1 ≤ room) (h : (S.length : Int) ≤ room) : ((capS room (lastS x S)).length : Int) ≤ room := by
  have h2 := lastS_len x S
  have h3 := outS_le (eqP x.path) S
  unfold capS
  split
  · rw [List.length_tail]; omega
  · omega
theorem capS_ge (room : Int) (x : Ln) (S : List Ln) (h1 : 1 ≤ room) (h : (S.length : Int) ≤ room) (hn : (paths S).Nodup) : S.length ≤ (capS room (lastS x S)).length := by
  have h2 := lastS_len x S
  have h3 := outS_ge x.path hn
  unfold capS
  split
  · rw [List.length_tail]; omega
  · omega
theorem capS_last (room : Int) (x : Ln) (S : List Ln) (h1 : 1 ≤ room) : ∃ T, capS room (lastS x S) = T ++ [x] := by
  unfold capS
  split
  · rename_i h
    unfold lastS at h ⊢
    cases ho : outS (eqP x.path) S with
    | nil => rw [ho] at h; simp at h; omega
    | cons y O => exact ⟨O, rfl⟩
  · exact ⟨outS (eqP x.path) S, rfl⟩
theorem doF_len (room : Int) (S : List Ln) (a : Ac) (h1 : 1 ≤ room) (h : (S.length : Int) ≤ room) : ((doF room S a).S.length : Int) ≤ room := by
  unfold doF
  split
  · cases hx : askX S a.path a.st with
    | none => exact h
    | some x =>
      have h2 := lastS_len x S
      have h3 := outS_lt (askX_mem hx).1
      show ((lastS x S).length : Int) ≤ room
      omega
  · split
    · show ((if tellE a.path a.st a.sum = 0 then capS room (lastS (tellX a.path a.st a.sum) S) else S).length : Int) ≤ room
      split
      · exact capS_le room _ S h1 h
      · exact h
    · split
      · have := outS_le (fun q => underF q a.path) S
        show ((outS (fun q => underF q a.path) S).length : Int) ≤ room
        omega
      · exact h
theorem doF_ask (room : Int) (S : List Ln) (a : Ac) (h0 : a.act = 0) (h : (doF room S a).ok = false) : (doF room S a).S = S := by
  unfold doF at h ⊢
  rw [if_pos h0] at h ⊢
  cases hx : askX S a.path a.st with
  | none => rfl
  | some x => rw [hx] at h; cases h
theorem doF_tell (room : Int) (S : List Ln) (a : Ac) (h0 : a.act = 1) : (doF room S a).e = tellE a.path a.st a.sum ∧ (doF room S a).S = if tellE a.path a.st a.sum = 0 then capS room (lastS (tellX a.path a.st a.sum) S) else S := by
  unfold doF
  rw [if_neg (by omega), if_pos h0]
  exact ⟨rfl, rfl⟩
theorem paths_len (S : List Ln) : (paths S).length = S.length := by unfold paths; rw [List.length_map]
theorem act_cells {w : World} {A : Option Addr} {n : Nat} {l : List S36} (h : Kd.C k36 w A n l) (i : Nat) (h1 : i < n) : ∃ ad, A = some ad ∧ w.cell? (ad.add (i * 13)) = some (.int .i64 (rd_T36 l (i : Int)).f0) ∧ w.cell? ⟨(ad.add (i * 13)).block, (ad.add (i * 13)).off + 1, none⟩ = some (.string (rd_T36 l (i : Int)).f1) ∧ w.cell? ⟨(ad.add (i * 13)).block, (ad.add (i * 13)).off + 2, none⟩ = some (.int .i64 (rd_T36 l (i : Int)).f2.f0) ∧ w.cell? ⟨(ad.add (i * 13)).block, (ad.add (i * 13)).off + 3, none⟩ = some (.int .i64 (rd_T36 l (i : Int)).f2.f1) ∧ w.cell? ⟨(ad.add (i * 13)).block, (ad.add (i * 13)).off + 4, none⟩ = some (.int .i64 (rd_T36 l (i : Int)).f2.f2) ∧ w.cell? ⟨(ad.add (i * 13)).block, (ad.add (i * 13)).off + 5, none⟩ = some (.int .i64 (rd_T36 l (i : Int)).f2.f3) ∧ w.cell? ⟨(ad.add (i * 13)).block, (ad.add (i * 13)).off + 6, none⟩ = some (.int .i64 (rd_T36 l (i : Int)).f2.f4.f0) ∧ w.cell? ⟨(ad.add (i * 13)).block, (ad.add (i * 13)).off + 7, none⟩ = some (.int .i64 (rd_T36 l (i : Int)).f2.f4.f1) ∧ w.cell? ⟨(ad.add (i * 13)).block, (ad.add (i * 13)).off + 8, none⟩ = some (.int .i64 (rd_T36 l (i : Int)).f2.f4.f2) ∧ w.cell? ⟨(ad.add (i * 13)).block, (ad.add (i * 13)).off + 9, none⟩ = some (.int .i64 (rd_T36 l (i : Int)).f2.f4.f3) ∧ w.cell? ⟨(ad.add (i * 13)).block, (ad.add (i * 13)).off + 10, none⟩ = some (.int .i64 (rd_T36 l (i : Int)).f2.f4.f4) ∧ w.cell? ⟨(ad.add (i * 13)).block, (ad.add (i * 13)).off + 11, none⟩ = some (.string (rd_T36 l (i : Int)).f2.f5) ∧ w.cell? ⟨(ad.add (i * 13)).block, (ad.add (i * 13)).off + 12, none⟩ = some (.string (rd_T36 l (i : Int)).f3) := by
  have := at_T36 h (i : Int) (by omega) (by omega)
  rw [Int.toNat_natCast] at this
  exact this
end LKeeps
section
open LKeeps
def remoralaw33_LedgerKeeps.f (a0 : Int) (l1 : List S36) : Option Bool := some true
def remoralaw33_LedgerKeeps.Pure : Prop := True
theorem info_act : (Try.prog.info? 36).map (fun i => (i.zero, i.size, i.bytes)) = some (some (.agg #[.int .i64 0, .string ⟨#[]⟩, .int .i64 0, .int .i64 0, .int .i64 0, .int .i64 0, .int .i64 0, .int .i64 0, .int .i64 0, .int .i64 0, .int .i64 0, .string ⟨#[]⟩, .string ⟨#[]⟩]), 13, 128) := by kernel_rfl
/-- What was told last of a path. -/
def lastT (T : List S36) (q : ByteArray) : Option S36 := T.reverse.find? (fun y => eqP q y.f1)
def lnOf (y : S36) : Ln := ⟨y.f1, y.f2.f1, y.f2.f2, y.f2.f4.f1, y.f2.f4.f2, y.f3⟩
theorem lastT_snoc (T : List S36) (y : S36) (q : ByteArray) : lastT (T ++ [y]) q = if q = y.f1 then some y else lastT T q := by
  unfold lastT
  rw [List.reverse_append, List.reverse_singleton, List.singleton_append, List.find?_cons]
  by_cases h : q = y.f1
  · rw [if_pos h, (eqP_iff q y.f1).2 h.symm]
  · have : eqP q y.f1 = false := by
      cases hh : eqP q y.f1 with
      | false => rfl
      | true => exact absurd ((eqP_iff q y.f1).1 hh).symm h
    rw [if_neg h, this]
/-- Every line is what was told last of its path. -/
def Told (T : List S36) (S : List Ln) : Prop := ∀ x ∈ S, ∃ y, lastT T x.path = some y ∧ lnOf y = x
theorem Told.sub {T : List S36} {S S2 : List Ln} (h : Told T S) (hs : ∀ x ∈ S2, x ∈ S) : Told T S2 := fun x hx => h x (hs x hx)
theorem mem_outS {pr : ByteArray → Bool} {S : List Ln} {x : Ln} (h : x ∈ outS pr S) : x ∈ S ∧ pr x.path = false := by
  unfold outS at h
  obtain ⟨h1, h2⟩ := List.mem_filter.1 h
  exact ⟨h1, by simpa using h2⟩
theorem mem_lastS {x y : Ln} {S : List Ln} (h : y ∈ lastS x S) : y = x ∨ (y ∈ S ∧ y.path ≠ x.path) := by
  unfold lastS at h
  rcases List.mem_append.1 h with h1 | h1
  · obtain ⟨h2, h3⟩ := mem_outS h1
    refine .inr ⟨h2, fun e => ?_⟩
    rw [(eqP_iff _ _).2 e] at h3
    cases h3
  · exact .inl (List.mem_singleton.1 h1)
theorem mem_capS {room : Int} {S : List Ln} {x : Ln} (h : x ∈ capS room S) : x ∈ S := by
  unfold capS at h
  split at h
  · exact List.mem_of_mem_tail h
  · exact h
theorem Told.ask {T : List S36} {S : List Ln} (h : Told T S) {x : Ln} (hx : x ∈ S) : Told T (lastS x S) := h.sub (fun y hy => by
  rcases mem_lastS hy with rfl | h1
  · exact hx
  · exact h1.1)
theorem Told.tell {T : List S36} {S : List Ln} (h : Told T S) (room : Int) (y : S36) : Told (T ++ [y]) (capS room (lastS (lnOf y) S)) := fun x hx => by
  rw [lastT_snoc]
  rcases mem_lastS (mem_capS hx) with rfl | ⟨h1, h2⟩
  · exact ⟨y, by rw [if_pos (by rfl)], rfl⟩
  · obtain ⟨z, hz⟩ := h x h1
    exact ⟨z, by rw [if_neg (by exact h2)]; exact hz.1, hz.2⟩
theorem was_l0 (T : List S36) (hT : T.length ≤ 1000000) (a1_0 : Int) (a1_1 : ByteArray) (a1_2 a1_3 a1_4 a1_5 a1_6 a1_7 a1_8 a1_9 a1_10 : Int) (a1_11 a1_12 a2 : ByteArray) (y : S36) (hk : a1_2 = 1) (h2 : a2.toList = y.f3.toList) (h3 : y.f2.f1 = a1_3) (h4 : y.f2.f2 = a1_4) (h7 : y.f2.f4.f1 = a1_7) (h8 : y.f2.f4.f2 = a1_8) :
    ∀ n k : Nat, n ≤ T.length → n < k → lastT (T.take n) a1_1 = some y → remoralaw33_was.l0 k T a2 ((n : Int) - 1) a1_0 a1_1 a1_2 a1_3 a1_4 a1_5 a1_6 a1_7 a1_8 a1_9 a1_10 a1_11 a1_12 = some true := by
  intro n
  induction n with
  | zero => intro k _ _ h; rw [List.take_zero] at h; cases h
  | succ n ih =>
    intro k hn hkk h
    obtain ⟨k, rfl⟩ : ∃ k', k = k' + 1 := ⟨k - 1, by omega⟩
    have hlt : n < T.length := hn
    rw [List.take_add_one, List.getElem?_eq_getElem hlt, Option.toList_some, lastT_snoc] at h
    have hrd : rd_T36 T (n : Int) = T[n] := by
      unfold rd_T36
      rw [Int.toNat_natCast, List.getD_eq_getElem?_getD, List.getElem?_eq_getElem hlt]
      rfl
    have hi : ((n + 1 : Nat) : Int) - 1 = (n : Int) := by omega
    rw [hi]
    simp only [remoralaw33_was.l0, hrd]
    rw [if_pos (by omega), if_pos (by omega), if_pos (by omega)]
    by_cases hq : a1_1 = T[n].f1
    · rw [if_pos hq] at h
      have hy : T[n] = y := Option.some.inj h
      rw [hy] at hq ⊢
      rw [if_pos (by rw [hq]), if_pos h2.symm, if_pos h3, if_pos h4, if_pos h7, if_pos h8, hk]
      rfl
    · rw [if_neg hq] at h
      rw [if_neg (by intro e; exact hq (toList_inj.1 e).symm)]
      have hw : wrap64 ((n : Int) - 1) = (n : Int) - 1 := by unfold wrap64; omega
      rw [hw]
      exact ih k (by omega) (by omega) h
theorem was_f (T : List S36) (hT : T.length ≤ 1000000) (S : List Ln) (h : Told T S) (x : Ln) (hx : x ∈ S) (a : S36) (hp : x.path = a.f1) (hm : mt (acOf a).st x = true) :
    remoralaw33_was.f (T.length + 1) T a.f0 a.f1 a.f2.f0 a.f2.f1 a.f2.f2 a.f2.f3 a.f2.f4.f0 a.f2.f4.f1 a.f2.f4.f2 a.f2.f4.f3 a.f2.f4.f4 a.f2.f5 a.f3 x.sum = some true := by
  obtain ⟨y, hy, rfl⟩ := h x hx
  unfold mt acOf lnOf at hm
  dsimp only at hm
  simp only [Bool.and_eq_true, beq_iff_eq] at hm
  obtain ⟨⟨⟨⟨m0, m1⟩, m2⟩, m3⟩, m4⟩ := hm
  unfold remoralaw33_was.f
  have hw : wrap64 ((T.length : Int) - 1) = (T.length : Int) - 1 := by unfold wrap64; omega
  rw [hw]
  refine was_l0 T hT _ _ _ _ _ _ _ _ _ _ _ _ _ _ y m0 rfl m1.symm m2.symm m3.symm m4.symm T.length _ (Nat.le_refl _) (by omega) ?_
  rw [List.take_length, ← hp]
  exact hy
theorem doF_yes (room : Int) (S : List Ln) (a : Ac) (h : (doF room S a).ok = true) : a.act = 0 ∧ ∃ x ∈ S, x.path = a.path ∧ mt a.st x = true ∧ (doF room S a).sum = x.sum ∧ (doF room S a).S = lastS x S := by
  unfold doF at h ⊢
  split at h
  · next h0 =>
    rw [if_pos h0]
    cases hx : askX S a.path a.st with
    | none => rw [hx] at h; cases h
    | some x =>
      obtain ⟨h1, h2, h3⟩ := askX_mem hx
      exact ⟨h0, x, h1, h2, h3, rfl, rfl⟩
  · split at h
    · cases h
    · split at h <;> cases h
theorem doF_told {T : List S36} {S : List Ln} (h : Told T S) (room : Int) (a : S36) (hne : ¬ ((acOf a).act = 1 ∧ tellE (acOf a).path (acOf a).st (acOf a).sum = 0)) : Told T (doF room S (acOf a)).S := by
  unfold doF
  split
  · cases hx : askX S (acOf a).path (acOf a).st with
    | none => exact h
    | some x => exact h.ask (askX_mem hx).1
  · split
    · next h1 =>
      show Told T (if tellE (acOf a).path (acOf a).st (acOf a).sum = 0 then _ else S)
      rw [if_neg (fun e => hne ⟨h1, e⟩)]
      exact h
    · split
      · exact h.sub (fun x hx => (mem_outS (pr := fun q => underF q (acOf a).path) hx).1)
      · exact h
theorem Lg.told {b0 p mb n k0 : Nat} {room : Int} {v u : Value} {S : List Ln} {T : List S36} {ok : Nat → Prop} {w w' : World} (h : Lg b0 p mb n room v S w) (hT : Kd.R k36 36 w k0 ok u T) (hg : w.grownBy w' u.ownBlock) : Lg b0 p mb n room v S w' := by
  have ho : ∀ k, u.ownBlock = some k → ∃ cells, w.heap[k]? = some (.cells cells 36) := fun k hk => by
    obtain ⟨_, _, _, q, hq, cells, hc⟩ := (Kd.R_bound hT).1 k hk
    have hE : k36.E = [] := by rfl
    rw [hE] at hq
    rw [List.mem_singleton.1 hq] at hc
    exact ⟨cells, hc⟩
  have hp : some p ≠ u.ownBlock := fun e => by
    obtain ⟨cells, hc⟩ := ho p e.symm
    rw [h.hP] at hc
    injection hc with hc
    injection hc with _ hc
    exact absurd hc (by decide)
  have hm : some mb ≠ u.ownBlock := fun e => by
    have hlt := h.hM.lt
    obtain ⟨D, hown, _⟩ := h.hM
    obtain ⟨cells, hc⟩ := ho mb e.symm
    obtain ⟨es, c, hmb, _⟩ := hown
    rw [hmb] at hc
    cases hc
  refine ⟨(hg.block p (blk_lt h.hP) hp).trans h.hP, h.hM.kept hg hm, ?_, h.hN, h.hz, h.hne, h.hp0, h.hm0, h.hl⟩
  refine Kd.R_mono (Kd.R_step (Kd.R_bound h.hR) (fun k hk hlt => hg.block k hlt (fun e => ?_))) (fun k hk => hk.1)
  obtain ⟨_, _, _, q, hq, cells, hc⟩ := hk
  obtain ⟨cells2, hc2⟩ := ho k e.symm
  have hE : Kd.string.E = [] := by rfl
  rw [hE] at hq
  rw [List.mem_singleton.1 hq] at hc
  rw [hc] at hc2
  injection hc2 with hc2
  injection hc2 with _ hc2
  exact absurd hc2 (by decide)
theorem tell_kind {q : ByteArray} {s : St} {sm : ByteArray} (h : tellE q s sm = 0) : s.kind = 1 := by
  unfold tellE at h
  split at h
  · omega
  · split at h
    · assumption
    · omega
set_option maxHeartbeats 16000000 in
set_option maxRecDepth 100000 in
theorem keeps_main (most : Int) (hm : 1 ≤ most ∧ most ≤ 6) (a0 : Int) (hmost : wrap64 (1 + Int.tmod (wrap64 a0) 6) = most) (A : Option Addr) (c : Nat) (l : List S36) (w : World) (hr : Kd.C k36 w A l.length l) (hc : l.length ≤ c) (hmx : l.length ≤ 2000000000000) :
    Calls Try.prog 3 #[.int .u8 a0, .slice A l.length c] w fun e w' => e = .returned (.bool true) ∧ Below w.heap.size w w' := by
  have HNew := Aside0.mk (led_New.at_ most w (by rw [Bool.or_eq_false_iff]; exact ⟨decide_eq_false (by omega), decide_eq_false (by omega)⟩))
  obtain ⟨b, hb, hbs⟩ := small_f l hmx
  have HSm := Aside0.mk (fun (w : World) (h : Kd.C k36 w A l.length l) => remoraref33_Small.calls (l.length + 1) A c l b w h hc hb)
  have HBS := Aside0.mk hbs
  have HC := Aside0.mk hr
  have HM := Aside0.mk hm
  have hmost' := hmost
  obtain ⟨m, hml⟩ : ∃ m, m = l.length := ⟨_, rfl⟩
  rw [← hml] at HC HSm ⊢
  have HML := Aside0.mk hml
  clear hm hr hc hb hbs hmx hml
  go_enter Try.func3, Try.ntmps3
  go_wp2_with fail
  refine HNew.out.mono ?_
  rintro e w1 ⟨p, mb, rfl, hL, hB⟩
  have HL1 := Aside0.mk hL
  have HB1 := Aside0.mk hB
  have HP0 : Aside0 (w.heap.size ≤ p ∧ w.heap.size ≤ mb) := ⟨⟨hL.hp0, hL.hm0⟩⟩
  clear hL hB HNew
  go_wp2_with fail
  refine (HSm.out w1 (Kd.C_below HC.out HB1.out)).mono ?_
  rintro e w2 ⟨rfl, hd⟩
  have HL2 := Aside0.mk (HL1.out.below hd.below)
  have HB2 := Aside0.mk (ld_step HB1.out hd.below)
  clear hd HSm HL1 HB1
  cases hbb : b with
  | false =>
    go_wp2_with fail
    refine (law_awake.at_ w2).mono ?_
    rintro e w3 ⟨rfl, hb3⟩
    have HB3 := Aside0.mk (ld_step HB2.out hb3)
    clear hb3
    go_wp2
    go_ret
    exact ⟨rfl, HB3.out⟩
  | true =>
  have HSZ := Aside0.mk (HBS.out hbb)
  clear HBS
  subst hbb
  go_wp2
  go_loopg [8, 9, 10, 11, 12, 13, 14, 15] m (fun g v8 v9 v10 v11 v12 v13 v14 v15 w' => ∃ (i n : Nat) (v : Value) (S : List Ln) (T : List S36), g = m - i ∧ v9 = .int .i64 i ∧ Aside0 (i ≤ m ∧ n ≤ 2 * i ∧ (S.length : Int) ≤ most ∧ T.length ≤ i) ∧ Aside0 (Lg w.heap.size p mb n most v S w') ∧ Aside0 (Kd.R k36 36 w' w2.heap.size (fun j => j ≠ p ∧ j ≠ mb) v8 T) ∧ Aside0 (Told T S) ∧ Aside0 (Bm p mb w2 w'))
  case atStart => exact ⟨0, 0, _, [], [], rfl, rfl, ⟨by have := HM.out; simp; omega⟩, HL2, ⟨Kd.R_nil _ _ _ _ _⟩, ⟨fun x hx => by cases hx⟩, ⟨Bm.refl _ _ _⟩⟩
  case round =>
    clear HL2
    obtain ⟨i, n, v, S, T, rfl, rfl, HI, HL, HT, HTd, HBm⟩ := hrel
    by_cases c1 : i < m
    rotate_left
    · have e1 : decide ((i : Int) < (m : Int)) = false := decide_eq_false (by omega)
      have e1' : decide (i < m) = false := decide_eq_false c1
      clear c1
      go_wp2_with fail
      refine (law_awake.at_ wr).mono ?_
      rintro e w3 ⟨rfl, hb3⟩
      have HB3 := Aside0.mk (HBm.out.below hb3)
      clear hb3
      go_wp2
      go_ret
      exact ⟨rfl, HB3.out.to HB2.out (Nat.le_refl _) HP0.out.1 HP0.out.2⟩
    have e1 : decide ((i : Int) < (m : Int)) = true := decide_eq_true (by omega)
    have e1' : decide (i < m) = true := decide_eq_true c1
    have e1n : (i < m) = True := eq_true c1
    have e1i : ((i : Int) < (m : Int)) = True := eq_true (by omega)
    have hi0 : (0 ≤ (i : Int)) = True := eq_true (by omega)
    have C1 := Aside0.mk c1
    have haddi : wrap64 ((i : Int) + 1) = ((i + 1 : Nat) : Int) := by have := HML.out; have := HSZ.out.1; unfold wrap64; omega
    clear c1
    obtain ⟨At, ct, rfl⟩ := Kd.R_slice HT.out
    obtain ⟨mt_, hmt⟩ : ∃ mt_, mt_ = T.length := ⟨_, rfl⟩
    rw [← hmt] at HT ⊢
    have HMT := Aside0.mk hmt
    clear hmt
    have HW3 := Aside0.mk (HBm.out.to HB2.out (Nat.le_refl _) HP0.out.1 HP0.out.2)
    obtain ⟨ad, rfl, d0, d1, d2, d3, d4, d5, d6, d7, d8, d9, d10, d11, d12⟩ := act_cells (Kd.C_below HC.out HW3.out) i C1.out
    have HX := Aside0.mk (HSZ.out.2 i (by have := C1.out; have := HML.out; omega))
    generalize hrd : rd_T36 l (i : Int) = x at d0 d1 d2 d3 d4 d5 d6 d7 d8 d9 d10 d11 d12 HX
    have HRD := Aside0.mk hrd
    clear hrd
    have hDo := law_Do.at_ w.heap.size p mb n most v S (acOf x) wr HL.out (by have := HX.out; show x.f1.size ≤ 1000000; omega) (by have := HI.out; have := HM.out; omega) (by have := HI.out; have := HSZ.out.1; have := HML.out; omega)
    have hRl := doF_len most S (acOf x) HM.out.1 HI.out.2.2.1
    have hRt := doF_tell most S (acOf x)
    have hRy := doF_yes most S (acOf x)
    have hRn := doF_told HTd.out most x
    generalize doF most S (acOf x) = dr at hDo hRl hRt hRy hRn
    unfold acV acC acOf at hDo
    dsimp only at hDo
    have HDo := Aside0.mk hDo
    have HRl := Aside0.mk hRl
    have HRt := Aside0.mk hRt
    have HRy := Aside0.mk hRy
    have HRn := Aside0.mk hRn
    clear hDo hRl hRt hRy hRn
    have HNS := Aside0.mk HL.out.hN
    go_wp2_with fail
    refine HDo.out.mono ?_
    rintro e w4 ⟨rfl, v4, hL4, hB4⟩
    have HL4 := Aside0.mk hL4
    have HB4 := Aside0.mk (HBm.out.trans hB4)
    have HT4 : Aside0 (Kd.R k36 36 w4 w2.heap.size (fun j => j ≠ p ∧ j ≠ mb) (.slice At mt_ ct) T) := ⟨Kd.R_step HT.out (fun j ho hk => hB4.block j hk ho.1 ho.2)⟩
    have HW4 := Aside0.mk (HB4.out.to HB2.out (Nat.le_refl _) HP0.out.1 HP0.out.2)
    clear hL4 hB4 HDo HT HW3 d0 d1 d2 d3 d4 d5 d6 d7 d8 d9 d10 d11 d12
    have hX : Aside0 (w4.cell? (ad.add (i * 13)) = some (.int .i64 x.f0) ∧ w4.cell? ⟨(ad.add (i * 13)).block, (ad.add (i * 13)).off + 1, none⟩ = some (.string x.f1) ∧ w4.cell? ⟨(ad.add (i * 13)).block, (ad.add (i * 13)).off + 2, none⟩ = some (.int .i64 x.f2.f0) ∧ w4.cell? ⟨(ad.add (i * 13)).block, (ad.add (i * 13)).off + 3, none⟩ = some (.int .i64 x.f2.f1) ∧ w4.cell? ⟨(ad.add (i * 13)).block, (ad.add (i * 13)).off + 4, none⟩ = some (.int .i64 x.f2.f2) ∧ w4.cell? ⟨(ad.add (i * 13)).block, (ad.add (i * 13)).off + 5, none⟩ = some (.int .i64 x.f2.f3) ∧ w4.cell? ⟨(ad.add (i * 13)).block, (ad.add (i * 13)).off + 6, none⟩ = some (.int .i64 x.f2.f4.f0) ∧ w4.cell? ⟨(ad.add (i * 13)).block, (ad.add (i * 13)).off + 7, none⟩ = some (.int .i64 x.f2.f4.f1) ∧ w4.cell? ⟨(ad.add (i * 13)).block, (ad.add (i * 13)).off + 8, none⟩ = some (.int .i64 x.f2.f4.f2) ∧ w4.cell? ⟨(ad.add (i * 13)).block, (ad.add (i * 13)).off + 9, none⟩ = some (.int .i64 x.f2.f4.f3) ∧ w4.cell? ⟨(ad.add (i * 13)).block, (ad.add (i * 13)).off + 10, none⟩ = some (.int .i64 x.f2.f4.f4) ∧ w4.cell? ⟨(ad.add (i * 13)).block, (ad.add (i * 13)).off + 11, none⟩ = some (.string x.f2.f5) ∧ w4.cell? ⟨(ad.add (i * 13)).block, (ad.add (i * 13)).off + 12, none⟩ = some (.string x.f3)) := ⟨by obtain ⟨ad2, hadq, h2⟩ := act_cells (Kd.C_below HC.out HW4.out) i C1.out; cases hadq; rw [HRD.out] at h2; exact h2⟩
    obtain ⟨d0, d1, d2, d3, d4, d5, d6, d7, d8, d9, d10, d11, d12⟩ := hX.out
    unfold reV
    cases hok : dr.ok with
    | true =>
      obtain ⟨hx0, y, hyS, hyp, hym, hys, hyS2⟩ := HRy.out hok
      have hmf := was_f T (by have := HI.out; have := HSZ.out.1; have := HML.out; omega) S HTd.out y hyS x hyp hym
      rw [← hys] at hmf
      have hWas : Aside0 (∀ W, Below w4.heap.size w4 W → Calls Try.prog 9 #[.slice At mt_ ct, .agg #[.int .i64 x.f0, .string x.f1, .int .i64 x.f2.f0, .int .i64 x.f2.f1, .int .i64 x.f2.f2, .int .i64 x.f2.f3, .int .i64 x.f2.f4.f0, .int .i64 x.f2.f4.f1, .int .i64 x.f2.f4.f2, .int .i64 x.f2.f4.f3, .int .i64 x.f2.f4.f4, .string x.f2.f5, .string x.f3], .string dr.sum] W fun e w' => e = .returned (.bool true) ∧ Below W.heap.size W w') := ⟨fun W hW => by
        obtain ⟨h1, h2, h3⟩ := Kd.R_reads' HT4.out
        have h4 := remoralaw33_was.calls (T.length + 1) At ct T x.f0 x.f1 x.f2.f0 x.f2.f1 x.f2.f2 x.f2.f3 x.f2.f4.f0 x.f2.f4.f1 x.f2.f4.f2 x.f2.f4.f3 x.f2.f4.f4 x.f2.f5 x.f3 dr.sum true W (Kd.C_below h3 hW) (by omega) hmf
        rw [← HMT.out] at h4
        exact h4⟩
      have hxa : x.f0 = 0 := hx0
      have HI8 : Aside0 (Told T dr.S) := ⟨HRn.out (fun e => by have h1 : x.f0 = 1 := e.1; omega)⟩
      have ea1 : (x.f0 == 1) = false := beq_eq_false_iff_ne.mpr (by omega)
      clear hx0 hyS hyp hym hys hyS2 hmf hxa hok
      go_wp2_with fail
      refine (hWas.out w4 (Below.refl _ _)).mono ?_
      rintro e w8 ⟨rfl, hb8⟩
      have HL8 := Aside0.mk (HL4.out.below hb8)
      have HT8 := Aside0.mk (Kd.R_below HT4.out hb8)
      have HB8 := Aside0.mk (HB4.out.below hb8)
      have HW8 := Aside0.mk (ld_step HW4.out hb8)
      clear hWas hb8 d0 d1 d2 d3 d4 d5 d6 d7 d8 d9 d10 d11 d12
      have hX8 : Aside0 (w8.cell? (ad.add (i * 13)) = some (.int .i64 x.f0) ∧ w8.cell? ⟨(ad.add (i * 13)).block, (ad.add (i * 13)).off + 1, none⟩ = some (.string x.f1) ∧ w8.cell? ⟨(ad.add (i * 13)).block, (ad.add (i * 13)).off + 2, none⟩ = some (.int .i64 x.f2.f0) ∧ w8.cell? ⟨(ad.add (i * 13)).block, (ad.add (i * 13)).off + 3, none⟩ = some (.int .i64 x.f2.f1) ∧ w8.cell? ⟨(ad.add (i * 13)).block, (ad.add (i * 13)).off + 4, none⟩ = some (.int .i64 x.f2.f2) ∧ w8.cell? ⟨(ad.add (i * 13)).block, (ad.add (i * 13)).off + 5, none⟩ = some (.int .i64 x.f2.f3) ∧ w8.cell? ⟨(ad.add (i * 13)).block, (ad.add (i * 13)).off + 6, none⟩ = some (.int .i64 x.f2.f4.f0) ∧ w8.cell? ⟨(ad.add (i * 13)).block, (ad.add (i * 13)).off + 7, none⟩ = some (.int .i64 x.f2.f4.f1) ∧ w8.cell? ⟨(ad.add (i * 13)).block, (ad.add (i * 13)).off + 8, none⟩ = some (.int .i64 x.f2.f4.f2) ∧ w8.cell? ⟨(ad.add (i * 13)).block, (ad.add (i * 13)).off + 9, none⟩ = some (.int .i64 x.f2.f4.f3) ∧ w8.cell? ⟨(ad.add (i * 13)).block, (ad.add (i * 13)).off + 10, none⟩ = some (.int .i64 x.f2.f4.f4) ∧ w8.cell? ⟨(ad.add (i * 13)).block, (ad.add (i * 13)).off + 11, none⟩ = some (.string x.f2.f5) ∧ w8.cell? ⟨(ad.add (i * 13)).block, (ad.add (i * 13)).off + 12, none⟩ = some (.string x.f3)) := ⟨by obtain ⟨ad2, hadq, h2⟩ := act_cells (Kd.C_below HC.out HW8.out) i C1.out; cases hadq; rw [HRD.out] at h2; exact h2⟩
      obtain ⟨d0, d1, d2, d3, d4, d5, d6, d7, d8, d9, d10, d11, d12⟩ := hX8.out
      have HLen := Aside0.mk (led_Len.at_ _ p mb (n + 1) most v4 dr.S w8 HL8.out)
      obtain ⟨q8, hq8⟩ : ∃ q8, q8 = (dr.S).length := ⟨_, rfl⟩
      have hqm : (q8 : Int) ≤ most := by rw [hq8]; exact HRl.out
      rw [← hq8] at HLen
      have hq1 : decide (most < (q8 : Int)) = false := decide_eq_false (by omega)
      have hq2 : decide ((q8 : Int) > most) = false := decide_eq_false (by omega)
      clear hqm hq8
      go_wp2_with fail
      refine HLen.out.mono ?_
      rintro e w9 ⟨rfl, rfl⟩
      clear HLen
      go_wp2
      go_roundg (m - (i + 1))
      case measure => have := C1.out; omega
      case rel => exact ⟨i + 1, (n + 1), v4, dr.S, T, rfl, by first | rfl | rw [haddi], ⟨by have := C1.out; have := HI.out; refine ⟨by omega, by omega, HRl.out, ?_⟩; first | omega | (simp only [List.length_append, List.length_cons, List.length_nil]; omega)⟩, ⟨HL8.out⟩, HT8, HI8, HB8⟩
    | false =>
      by_cases a1_ : x.f0 = 1
      rotate_left
      · have ea1 : (x.f0 == 1) = false := beq_eq_false_iff_ne.mpr a1_
        have HI8 : Aside0 (Told T dr.S) := ⟨HRn.out (fun e => a1_ e.1)⟩
        have HL8 := HL4
        have HT8 := HT4
        have HB8 := HB4
        clear a1_ hok
        obtain ⟨w8, hw8⟩ : ∃ w8, w8 = w4 := ⟨_, rfl⟩
        rw [← hw8] at HL8 HT8 HB8 d0 d1 d2 d3 d4 d5 d6 d7 d8 d9 d10 d11 d12 ⊢
        clear hw8
        have HLen := Aside0.mk (led_Len.at_ _ p mb (n + 1) most v4 dr.S w8 HL8.out)
        obtain ⟨q8, hq8⟩ : ∃ q8, q8 = (dr.S).length := ⟨_, rfl⟩
        have hqm : (q8 : Int) ≤ most := by rw [hq8]; exact HRl.out
        rw [← hq8] at HLen
        have hq1 : decide (most < (q8 : Int)) = false := decide_eq_false (by omega)
        have hq2 : decide ((q8 : Int) > most) = false := decide_eq_false (by omega)
        clear hqm hq8
        go_wp2_with fail
        refine HLen.out.mono ?_
        rintro e w9 ⟨rfl, rfl⟩
        clear HLen
        go_wp2
        go_roundg (m - (i + 1))
        case measure => have := C1.out; omega
        case rel => exact ⟨i + 1, (n + 1), v4, dr.S, T, rfl, by first | rfl | rw [haddi], ⟨by have := C1.out; have := HI.out; refine ⟨by omega, by omega, HRl.out, ?_⟩; first | omega | (simp only [List.length_append, List.length_cons, List.length_nil]; omega)⟩, ⟨HL8.out⟩, HT8, HI8, HB8⟩
      have ea1 : (x.f0 == 1) = true := beq_iff_eq.mpr a1_
      by_cases ez : dr.e = 0
      rotate_left
      · have ez1 : (dr.e == 0) = false := beq_eq_false_iff_ne.mpr ez
        have HI8 : Aside0 (Told T dr.S) := ⟨HRn.out (fun e => ez ((HRt.out e.1).1.trans e.2))⟩
        have HL8 := HL4
        have HT8 := HT4
        have HB8 := HB4
        clear a1_ hok ez
        obtain ⟨w8, hw8⟩ : ∃ w8, w8 = w4 := ⟨_, rfl⟩
        rw [← hw8] at HL8 HT8 HB8 d0 d1 d2 d3 d4 d5 d6 d7 d8 d9 d10 d11 d12 ⊢
        clear hw8
        have HLen := Aside0.mk (led_Len.at_ _ p mb (n + 1) most v4 dr.S w8 HL8.out)
        obtain ⟨q8, hq8⟩ : ∃ q8, q8 = (dr.S).length := ⟨_, rfl⟩
        have hqm : (q8 : Int) ≤ most := by rw [hq8]; exact HRl.out
        rw [← hq8] at HLen
        have hq1 : decide (most < (q8 : Int)) = false := decide_eq_false (by omega)
        have hq2 : decide ((q8 : Int) > most) = false := decide_eq_false (by omega)
        clear hqm hq8
        go_wp2_with fail
        refine HLen.out.mono ?_
        rintro e w9 ⟨rfl, rfl⟩
        clear HLen
        go_wp2
        go_roundg (m - (i + 1))
        case measure => have := C1.out; omega
        case rel => exact ⟨i + 1, (n + 1), v4, dr.S, T, rfl, by first | rfl | rw [haddi], ⟨by have := C1.out; have := HI.out; refine ⟨by omega, by omega, HRl.out, ?_⟩; first | omega | (simp only [List.length_append, List.length_cons, List.length_nil]; omega)⟩, ⟨HL8.out⟩, HT8, HI8, HB8⟩
      have ez1 : (dr.e == 0) = true := beq_iff_eq.mpr ez
      obtain ⟨hre, hrs⟩ := HRt.out a1_
      rw [← hre, if_pos ez] at hrs
      have hkind : (acOf x).st.kind = 1 := tell_kind (hre.symm.trans ez)
      have hI5 : Told (T ++ [x]) dr.S := by rw [hrs]; exact HTd.out.tell most x
      obtain ⟨T9, hT9⟩ := capS_last most (tellX (acOf x).path (acOf x).st (acOf x).sum) S HM.out.1
      have hmem : tellX (acOf x).path (acOf x).st (acOf x).sum ∈ dr.S := by rw [hrs, hT9]; simp
      have HMem := Aside0.mk hmem
      have HKi := Aside0.mk hkind
      have HI5 := Aside0.mk hI5
      have HLT : Aside0 ((T.length + 1) * 128 ≤ 140737488355328) := ⟨by have := HI.out; have := HSZ.out.1; have := HML.out; omega⟩
      have HSB : Aside0 (w2.heap.size ≤ w4.heap.size) := ⟨HB4.out.size⟩
      have HPM : Aside0 (p < w4.heap.size ∧ mb < w4.heap.size) := ⟨⟨blk_lt HL4.out.hP, HL4.out.hM.lt⟩⟩
      clear hre hrs hkind hI5 hT9 hmem a1_ ez hok
      go_wp2_with (first | ((with_reducible refine gate_builtin (b := .append) (xs := #[.tmp 69, .tmp 74]) rfl ?_); at_builtin; refine Kd.R_append k36 (w0 := w4) w2.heap.size rfl (.tmp 69) (.tmp 74) 22 36 (.agg #[.int .i64 0, .string ⟨#[]⟩, .int .i64 0, .int .i64 0, .int .i64 0, .int .i64 0, .int .i64 0, .int .i64 0, .int .i64 0, .int .i64 0, .int .i64 0, .string ⟨#[]⟩, .string ⟨#[]⟩]) 128 rfl Try.underlying22 info_act rfl (by decide) (by omega) (.slice At mt_ ct) T x [.int .i64 x.f0, .string x.f1, .int .i64 x.f2.f0, .int .i64 x.f2.f1, .int .i64 x.f2.f2, .int .i64 x.f2.f3, .int .i64 x.f2.f4.f0, .int .i64 x.f2.f4.f1, .int .i64 x.f2.f4.f2, .int .i64 x.f2.f4.f3, .int .i64 x.f2.f4.f4, .string x.f2.f5, .string x.f3] (fun j => j ≠ p ∧ j ≠ mb) (fun _ => False) rfl rfl (k36_mkM _ _ _ _) (fun _ hk => hk.elim) (fun j hj => by have := HPM.out; omega) HT4.out (Below.refl _ _) HSB.out HLT.out ?_; intro v5 w5 ho5 hb5 hg5 ha5; clear ha5))
      have HT5 := Aside0.mk ho5
      have HL5 := Aside0.mk (HL4.out.told HT4.out hg5)
      have HB5 : Aside0 (Bm p mb w2 w5) := ⟨HB4.out.grown hg5 (fun j hj => ((Kd.R_bound HT4.out).1 j hj).2.1)⟩
      have HW5 := Aside0.mk (HB5.out.to HB2.out (Nat.le_refl _) HP0.out.1 HP0.out.2)
      clear ho5 hb5 hg5 d0 d1 d2 d3 d4 d5 d6 d7 d8 d9 d10 d11 d12
      have hX5 : w5.drew.cell? (ad.add (i * 13)) = some (.int .i64 x.f0) ∧ w5.drew.cell? ⟨(ad.add (i * 13)).block, (ad.add (i * 13)).off + 1, none⟩ = some (.string x.f1) ∧ w5.drew.cell? ⟨(ad.add (i * 13)).block, (ad.add (i * 13)).off + 2, none⟩ = some (.int .i64 x.f2.f0) ∧ w5.drew.cell? ⟨(ad.add (i * 13)).block, (ad.add (i * 13)).off + 3, none⟩ = some (.int .i64 x.f2.f1) ∧ w5.drew.cell? ⟨(ad.add (i * 13)).block, (ad.add (i * 13)).off + 4, none⟩ = some (.int .i64 x.f2.f2) ∧ w5.drew.cell? ⟨(ad.add (i * 13)).block, (ad.add (i * 13)).off + 5, none⟩ = some (.int .i64 x.f2.f3) ∧ w5.drew.cell? ⟨(ad.add (i * 13)).block, (ad.add (i * 13)).off + 6, none⟩ = some (.int .i64 x.f2.f4.f0) ∧ w5.drew.cell? ⟨(ad.add (i * 13)).block, (ad.add (i * 13)).off + 7, none⟩ = some (.int .i64 x.f2.f4.f1) ∧ w5.drew.cell? ⟨(ad.add (i * 13)).block, (ad.add (i * 13)).off + 8, none⟩ = some (.int .i64 x.f2.f4.f2) ∧ w5.drew.cell? ⟨(ad.add (i * 13)).block, (ad.add (i * 13)).off + 9, none⟩ = some (.int .i64 x.f2.f4.f3) ∧ w5.drew.cell? ⟨(ad.add (i * 13)).block, (ad.add (i * 13)).off + 10, none⟩ = some (.int .i64 x.f2.f4.f4) ∧ w5.drew.cell? ⟨(ad.add (i * 13)).block, (ad.add (i * 13)).off + 11, none⟩ = some (.string x.f2.f5) ∧ w5.drew.cell? ⟨(ad.add (i * 13)).block, (ad.add (i * 13)).off + 12, none⟩ = some (.string x.f3) := by obtain ⟨ad2, hadq, h2⟩ := act_cells (Kd.C_below HC.out (HW5.out.trans (below_drew (Below.refl _ _)))) i C1.out; cases hadq; rw [HRD.out] at h2; exact h2
      have HX5 := Aside0.mk hX5
      have HAsk : Aside0 (Calls Try.prog 10 #[.pointer (some ⟨p, 0, none⟩), .string x.f1, .agg #[.int .i64 x.f2.f0, .int .i64 x.f2.f1, .int .i64 x.f2.f2, .int .i64 x.f2.f3, .int .i64 x.f2.f4.f0, .int .i64 x.f2.f4.f1, .int .i64 x.f2.f4.f2, .int .i64 x.f2.f4.f3, .int .i64 x.f2.f4.f4, .string x.f2.f5]] w5.drew fun e w' => e = .returned (.tuple #[.string x.f3, .bool true]) ∧ ∃ v6, Lg w.heap.size p mb (n + 1 + 1) most v6 (lastS (lnOf x) dr.S) w' ∧ Bm p mb w5.drew w') := ⟨by
        have h1 := led_Ask.at_ w.heap.size p mb (n + 1) most v4 dr.S x.f1 (acOf x).st w5.drew (HL5.out.below (below_drew (Below.refl _ _))) (by have := HX.out; omega) (by have := HRl.out; have := HM.out; omega) (by have := HI.out; have := HSZ.out.1; have := HML.out; have := C1.out; omega)
        unfold stV stC acOf at h1
        dsimp only at h1
        refine h1.mono ?_
        rintro e w' (⟨_, h2, _⟩ | ⟨z, hz, hzp, hzm, rfl, v6, h3, h4, _⟩)
        · have h3 := h2 _ HMem.out rfl
          have hk := HKi.out
          unfold acOf at hk
          dsimp only at hk
          unfold mt tellX acOf at h3
          dsimp only at h3
          rw [hk] at h3
          simp at h3
        · have he : z = lnOf x := nodup_unique HL5.out.hN hz HMem.out hzp
          subst he
          exact ⟨rfl, v6, h3, h4⟩⟩
      have hX6 : ∀ w6, Bm p mb w5.drew w6 → w6.cell? (ad.add (i * 13)) = some (.int .i64 x.f0) ∧ w6.cell? ⟨(ad.add (i * 13)).block, (ad.add (i * 13)).off + 1, none⟩ = some (.string x.f1) ∧ w6.cell? ⟨(ad.add (i * 13)).block, (ad.add (i * 13)).off + 2, none⟩ = some (.int .i64 x.f2.f0) ∧ w6.cell? ⟨(ad.add (i * 13)).block, (ad.add (i * 13)).off + 3, none⟩ = some (.int .i64 x.f2.f1) ∧ w6.cell? ⟨(ad.add (i * 13)).block, (ad.add (i * 13)).off + 4, none⟩ = some (.int .i64 x.f2.f2) ∧ w6.cell? ⟨(ad.add (i * 13)).block, (ad.add (i * 13)).off + 5, none⟩ = some (.int .i64 x.f2.f3) ∧ w6.cell? ⟨(ad.add (i * 13)).block, (ad.add (i * 13)).off + 6, none⟩ = some (.int .i64 x.f2.f4.f0) ∧ w6.cell? ⟨(ad.add (i * 13)).block, (ad.add (i * 13)).off + 7, none⟩ = some (.int .i64 x.f2.f4.f1) ∧ w6.cell? ⟨(ad.add (i * 13)).block, (ad.add (i * 13)).off + 8, none⟩ = some (.int .i64 x.f2.f4.f2) ∧ w6.cell? ⟨(ad.add (i * 13)).block, (ad.add (i * 13)).off + 9, none⟩ = some (.int .i64 x.f2.f4.f3) ∧ w6.cell? ⟨(ad.add (i * 13)).block, (ad.add (i * 13)).off + 10, none⟩ = some (.int .i64 x.f2.f4.f4) ∧ w6.cell? ⟨(ad.add (i * 13)).block, (ad.add (i * 13)).off + 11, none⟩ = some (.string x.f2.f5) ∧ w6.cell? ⟨(ad.add (i * 13)).block, (ad.add (i * 13)).off + 12, none⟩ = some (.string x.f3) := fun w6 hb => by
        obtain ⟨ad2, hadq, h2⟩ := act_cells (Kd.C_below HC.out (((HB5.out.below (below_drew (Below.refl _ _))).trans hb).to HB2.out (Nat.le_refl _) HP0.out.1 HP0.out.2)) i C1.out
        cases hadq
        rw [HRD.out] at h2
        exact h2
      have HX6f := Aside0.mk hX6
      clear hX5 hX6
      go_wp2_with fail
      refine start_ (n := 17) (S := fun w' => w'.cell? (ad.add (i * 13)) = some (.int .i64 x.f0) ∧ w'.cell? ⟨(ad.add (i * 13)).block, (ad.add (i * 13)).off + 1, none⟩ = some (.string x.f1) ∧ w'.cell? ⟨(ad.add (i * 13)).block, (ad.add (i * 13)).off + 2, none⟩ = some (.int .i64 x.f2.f0) ∧ w'.cell? ⟨(ad.add (i * 13)).block, (ad.add (i * 13)).off + 3, none⟩ = some (.int .i64 x.f2.f1) ∧ w'.cell? ⟨(ad.add (i * 13)).block, (ad.add (i * 13)).off + 4, none⟩ = some (.int .i64 x.f2.f2) ∧ w'.cell? ⟨(ad.add (i * 13)).block, (ad.add (i * 13)).off + 5, none⟩ = some (.int .i64 x.f2.f3) ∧ w'.cell? ⟨(ad.add (i * 13)).block, (ad.add (i * 13)).off + 6, none⟩ = some (.int .i64 x.f2.f4.f0) ∧ w'.cell? ⟨(ad.add (i * 13)).block, (ad.add (i * 13)).off + 7, none⟩ = some (.int .i64 x.f2.f4.f1) ∧ w'.cell? ⟨(ad.add (i * 13)).block, (ad.add (i * 13)).off + 8, none⟩ = some (.int .i64 x.f2.f4.f2) ∧ w'.cell? ⟨(ad.add (i * 13)).block, (ad.add (i * 13)).off + 9, none⟩ = some (.int .i64 x.f2.f4.f3) ∧ w'.cell? ⟨(ad.add (i * 13)).block, (ad.add (i * 13)).off + 10, none⟩ = some (.int .i64 x.f2.f4.f4) ∧ w'.cell? ⟨(ad.add (i * 13)).block, (ad.add (i * 13)).off + 11, none⟩ = some (.string x.f2.f5) ∧ w'.cell? ⟨(ad.add (i * 13)).block, (ad.add (i * 13)).off + 12, none⟩ = some (.string x.f3)) (ds := []) #[false, false, false, false, false, false, false, false, false, false, false, false, false, false, false, false, false] (by kernel_rfl) rfl rfl ⟨(HX5.out).1, (HX5.out).2.1, (HX5.out).2.2.1, (HX5.out).2.2.2.1, (HX5.out).2.2.2.2.1, (HX5.out).2.2.2.2.2.1, (HX5.out).2.2.2.2.2.2.1, (HX5.out).2.2.2.2.2.2.2.1, (HX5.out).2.2.2.2.2.2.2.2.1, (HX5.out).2.2.2.2.2.2.2.2.2.1, (HX5.out).2.2.2.2.2.2.2.2.2.2.1, (HX5.out).2.2.2.2.2.2.2.2.2.2.2.1, (HX5.out).2.2.2.2.2.2.2.2.2.2.2.2⟩ (fun hHeld => ?_)
      refine pure_ (i := 0) (N := some 77) (v := ?_) (a' := ?_) #[true, false, false, false, false, false, false, false, false, false, false, false, false, false, false, false, false] rfl rfl (by kernel_rfl) (fun _ _ _ h => h) (Or.inl ⟨by rfl, ?_⟩) ?_ ?_
      rotate_left
      · intro w'
        go_simp
        with_reducible rfl
      rotate_left
      · simp only [Act.put, List.setIfInBounds_toArray, List.set_cons_zero, List.set_cons_succ, i64_w, i32_w]
        rfl
      refine pure_ (i := 1) (N := some 78) (v := ?_) (a' := ?_) #[true, true, false, false, false, false, false, false, false, false, false, false, false, false, false, false, false] rfl rfl (by kernel_rfl) (fun _ _ _ h => h) (Or.inl ⟨by rfl, ?_⟩) ?_ ?_
      rotate_left
      · intro w'
        go_simp
        with_reducible rfl
      rotate_left
      · simp only [Act.put, List.setIfInBounds_toArray, List.set_cons_zero, List.set_cons_succ, i64_w, i32_w]
        rfl
      refine pure_ (i := 2) (N := some 79) (v := ?_) (a' := ?_) #[true, true, true, false, false, false, false, false, false, false, false, false, false, false, false, false, false] rfl rfl (by kernel_rfl) (fun _ _ _ h => h) (Or.inl ⟨by rfl, ?_⟩) ?_ ?_
      rotate_left
      · intro w'
        go_simp
        with_reducible rfl
      rotate_left
      · simp only [Act.put, List.setIfInBounds_toArray, List.set_cons_zero, List.set_cons_succ, i64_w, i32_w]
        rfl
      refine pure_ (i := 3) (N := some 80) (v := ?_) (a' := ?_) #[true, true, true, true, false, false, false, false, false, false, false, false, false, false, false, false, false] rfl rfl (by kernel_rfl) (fun _ _ _ h => h) (Or.inl ⟨by rfl, ?_⟩) ?_ ?_
      rotate_left
      · intro w'
        go_simp
        with_reducible rfl
      rotate_left
      · simp only [Act.put, List.setIfInBounds_toArray, List.set_cons_zero, List.set_cons_succ, i64_w, i32_w]
        rfl
      refine pure_ (i := 4) (N := some 81) (v := ?_) (a' := ?_) #[true, true, true, true, true, false, false, false, false, false, false, false, false, false, false, false, false] rfl rfl (by kernel_rfl) (fun _ _ _ h => h) (Or.inl ⟨by rfl, ?_⟩) ?_ ?_
      rotate_left
      · intro w'
        go_simp
        with_reducible rfl
      rotate_left
      · simp only [Act.put, List.setIfInBounds_toArray, List.set_cons_zero, List.set_cons_succ, i64_w, i32_w]
        rfl
      refine pure_ (i := 6) (N := some 83) (v := ?_) (a' := ?_) #[true, true, true, true, true, false, true, false, false, false, false, false, false, false, false, false, false] rfl rfl (by kernel_rfl) (fun _ _ _ h => h) (Or.inl ⟨by rfl, ?_⟩) ?_ ?_
      rotate_left
      · intro w'
        go_simp
        with_reducible rfl
      rotate_left
      · simp only [Act.put, List.setIfInBounds_toArray, List.set_cons_zero, List.set_cons_succ, i64_w, i32_w]
        rfl
      refine pure_ (i := 7) (N := some 84) (v := ?_) (a' := ?_) #[true, true, true, true, true, false, true, true, false, false, false, false, false, false, false, false, false] rfl rfl (by kernel_rfl) (fun _ _ _ h => h) (Or.inl ⟨by rfl, ?_⟩) ?_ ?_
      rotate_left
      · intro w'
        go_simp
        with_reducible rfl
      rotate_left
      · simp only [Act.put, List.setIfInBounds_toArray, List.set_cons_zero, List.set_cons_succ, i64_w, i32_w]
        rfl
      refine pure_ (i := 8) (N := some 85) (v := ?_) (a' := ?_) #[true, true, true, true, true, false, true, true, true, false, false, false, false, false, false, false, false] rfl rfl (by kernel_rfl) (fun _ _ _ h => h) (Or.inl ⟨by rfl, ?_⟩) ?_ ?_
      rotate_left
      · intro w'
        go_simp
        with_reducible rfl
      rotate_left
      · simp only [Act.put, List.setIfInBounds_toArray, List.set_cons_zero, List.set_cons_succ, i64_w, i32_w]
        rfl
      refine pure_ (i := 9) (N := some 86) (v := ?_) (a' := ?_) #[true, true, true, true, true, false, true, true, true, true, false, false, false, false, false, false, false] rfl rfl (by kernel_rfl) (fun _ _ _ h => h) (Or.inl ⟨by rfl, ?_⟩) ?_ ?_
      rotate_left
      · intro w'
        go_simp
        with_reducible rfl
      rotate_left
      · simp only [Act.put, List.setIfInBounds_toArray, List.set_cons_zero, List.set_cons_succ, i64_w, i32_w]
        rfl
      refine take_ (i := 5) (N := some 82) (v := ?_) (a' := ?_) #[true, true, true, true, true, true, true, true, true, true, false, false, false, false, false, false, false] rfl rfl (by kernel_rfl) (fun _ _ _ h => h) (Or.inl ⟨by rfl, ?_⟩) hHeld ?_ ?_
      rotate_left
      · rintro w' ⟨s0, s1, s2, s3, s4, s5, s6, s7, s8, s9, s10, s11, s12⟩
        go_simp
        with_reducible rfl
      rotate_left
      · simp only [Act.put, List.setIfInBounds_toArray, List.set_cons_zero, List.set_cons_succ, i64_w, i32_w]
        rfl
      refine take_ (i := 10) (N := some 87) (v := ?_) (a' := ?_) #[true, true, true, true, true, true, true, true, true, true, true, false, false, false, false, false, false] rfl rfl (by kernel_rfl) (fun _ _ _ h => h) (Or.inl ⟨by rfl, ?_⟩) hHeld ?_ ?_
      rotate_left
      · rintro w' ⟨s0, s1, s2, s3, s4, s5, s6, s7, s8, s9, s10, s11, s12⟩
        go_simp
        with_reducible rfl
      rotate_left
      · simp only [Act.put, List.setIfInBounds_toArray, List.set_cons_zero, List.set_cons_succ, i64_w, i32_w]
        rfl
      refine one_ (i := 11) (N := some 88) #[true, true, true, true, true, true, true, true, true, true, true, true, false, false, false, false, false] rfl rfl (by kernel_rfl) (by decide) (fun K hK => ?_)
      refine goes_ Try.func10 (by kernel_rfl) rfl #[.pointer (some ⟨p, 0, none⟩), .string x.f1, .agg #[.int .i64 x.f2.f0, .int .i64 x.f2.f1, .int .i64 x.f2.f2, .int .i64 x.f2.f3, .int .i64 x.f2.f4.f0, .int .i64 x.f2.f4.f1, .int .i64 x.f2.f4.f2, .int .i64 x.f2.f4.f3, .int .i64 x.f2.f4.f4, .string x.f2.f5]] (by rfl) rfl rfl (by simp only [List.map_toArray, List.map_cons, List.map_nil]; rfl) ?_
      with_reducible refine (HAsk.out).mono ?_
      rintro e w6 ⟨rfl, v6, hL6, hB6⟩
      refine ⟨_, rfl, ?_⟩
      have HL6 := Aside0.mk hL6
      have HB6 := Aside0.mk hB6
      have HX6 := Aside0.mk (HX6f.out w6 hB6)
      clear hL6 hB6
      refine hK.out _ _ ⟨(HX6.out).1, (HX6.out).2.1, (HX6.out).2.2.1, (HX6.out).2.2.2.1, (HX6.out).2.2.2.2.1, (HX6.out).2.2.2.2.2.1, (HX6.out).2.2.2.2.2.2.1, (HX6.out).2.2.2.2.2.2.2.1, (HX6.out).2.2.2.2.2.2.2.2.1, (HX6.out).2.2.2.2.2.2.2.2.2.1, (HX6.out).2.2.2.2.2.2.2.2.2.2.1, (HX6.out).2.2.2.2.2.2.2.2.2.2.2.1, (HX6.out).2.2.2.2.2.2.2.2.2.2.2.2⟩ (fun hHeld => ?_)
      clear hK K
      refine norm_ (a' := ?_) ?_ ?_
      rotate_left
      · show Act.put _ (some 88) _ = _
        simp only [Act.put, List.setIfInBounds_toArray, List.set_cons_zero, List.set_cons_succ, i64_w, i32_w]
        rfl
      refine pure_ (i := 12) (N := some 76) (v := ?_) (a' := ?_) #[true, true, true, true, true, true, true, true, true, true, true, true, true, false, false, false, false] rfl rfl (by kernel_rfl) (fun _ _ _ h => h) (Or.inl ⟨by rfl, ?_⟩) ?_ ?_
      rotate_left
      · intro w'
        go_simp
        with_reducible rfl
      rotate_left
      · simp only [Act.put, List.setIfInBounds_toArray, List.set_cons_zero, List.set_cons_succ, i64_w, i32_w]
        rfl
      refine pure_ (i := 13) (N := some 89) (v := ?_) (a' := ?_) #[true, true, true, true, true, true, true, true, true, true, true, true, true, true, false, false, false] rfl rfl (by kernel_rfl) (fun _ _ _ h => h) (Or.inl ⟨by rfl, ?_⟩) ?_ ?_
      rotate_left
      · intro w'
        go_simp
        with_reducible rfl
      rotate_left
      · simp only [Act.put, List.setIfInBounds_toArray, List.set_cons_zero, List.set_cons_succ, i64_w, i32_w]
        rfl
      refine pure_ (i := 14) (N := some 90) (v := ?_) (a' := ?_) #[true, true, true, true, true, true, true, true, true, true, true, true, true, true, true, false, false] rfl rfl (by kernel_rfl) (fun _ _ _ h => h) (Or.inl ⟨by rfl, ?_⟩) ?_ ?_
      rotate_left
      · intro w'
        go_simp
        with_reducible rfl
      rotate_left
      · simp only [Act.put, List.setIfInBounds_toArray, List.set_cons_zero, List.set_cons_succ, i64_w, i32_w]
        rfl
      refine pure_ (i := 15) (N := some 14) (v := ?_) (a' := ?_) #[true, true, true, true, true, true, true, true, true, true, true, true, true, true, true, true, false] rfl rfl (by kernel_rfl) (fun _ _ _ h => h) (Or.inl ⟨by rfl, ?_⟩) ?_ ?_
      rotate_left
      · intro w'
        go_simp
        with_reducible rfl
      rotate_left
      · simp only [Act.put, List.setIfInBounds_toArray, List.set_cons_zero, List.set_cons_succ, i64_w, i32_w]
        rfl
      refine pure_ (i := 16) (N := some 15) (v := ?_) (a' := ?_) #[true, true, true, true, true, true, true, true, true, true, true, true, true, true, true, true, true] rfl rfl (by kernel_rfl) (fun _ _ _ h => h) (Or.inl ⟨by rfl, ?_⟩) ?_ ?_
      rotate_left
      · intro w'
        go_simp
        with_reducible rfl
      rotate_left
      · simp only [Act.put, List.setIfInBounds_toArray, List.set_cons_zero, List.set_cons_succ, i64_w, i32_w]
        rfl
      refine done_ (by kernel_rfl) ?_
      clear hHeld HAsk HX6f
      obtain ⟨d0, d1, d2, d3, d4, d5, d6, d7, d8, d9, d10, d11, d12⟩ := HX6.out
      have HB8 := Aside0.mk ((HB5.out.below (below_drew (Below.refl _ _))).trans HB6.out)
      have HT8 : Aside0 (Kd.R k36 36 w6 w2.heap.size (fun j => j ≠ p ∧ j ≠ mb) v5 (T ++ [x])) := ⟨Kd.R_step (Kd.R_drew HT5.out) (fun j ho hk => HB6.out.block j hk ho.1 ho.2)⟩
      have HI8 : Aside0 (Told (T ++ [x]) (lastS (lnOf x) dr.S)) := ⟨HI5.out.ask (show lnOf x ∈ dr.S from HMem.out)⟩
      have HRl8 : Aside0 (((lastS (lnOf x) dr.S).length : Int) ≤ most) := ⟨by
        have h1 := lastS_len (lnOf x) dr.S
        have h2 := outS_lt (show lnOf x ∈ dr.S from HMem.out)
        have := HRl.out
        omega⟩
      have HL8 := HL6
      have hff : (x.f3.toList == x.f3.toList) = true := by simp
      have hff2 : (x.f3.toList != x.f3.toList) = false := by simp
      clear HL6
      obtain ⟨w8, hw8⟩ : ∃ w8, w8 = w6 := ⟨_, rfl⟩
      rw [← hw8] at HL8 HT8 HB8 d0 d1 d2 d3 d4 d5 d6 d7 d8 d9 d10 d11 d12 ⊢
      clear hw8
      have HLen := Aside0.mk (led_Len.at_ _ p mb (n + 1 + 1) most v6 (lastS (lnOf x) dr.S) w8 HL8.out)
      obtain ⟨q8, hq8⟩ : ∃ q8, q8 = ((lastS (lnOf x) dr.S)).length := ⟨_, rfl⟩
      have hqm : (q8 : Int) ≤ most := by rw [hq8]; exact HRl8.out
      rw [← hq8] at HLen
      have hq1 : decide (most < (q8 : Int)) = false := decide_eq_false (by omega)
      have hq2 : decide ((q8 : Int) > most) = false := decide_eq_false (by omega)
      clear hqm hq8
      go_wp2_with fail
      refine HLen.out.mono ?_
      rintro e w9 ⟨rfl, rfl⟩
      clear HLen
      go_wp2
      go_roundg (m - (i + 1))
      case measure => have := C1.out; omega
      case rel => exact ⟨i + 1, (n + 1 + 1), v6, (lastS (lnOf x) dr.S), (T ++ [x]), rfl, by first | rfl | rw [haddi], ⟨by have := C1.out; have := HI.out; refine ⟨by omega, by omega, HRl8.out, ?_⟩; first | omega | (simp only [List.length_append, List.length_cons, List.length_nil]; omega)⟩, ⟨HL8.out⟩, HT8, HI8, HB8⟩
theorem remoralaw33_LedgerKeeps.walk (P : remoralaw33_LedgerKeeps.Pure) (a0 : Int) (a1 : Option Addr) (cap1 : Nat) (l1 : List S36) (w : World) (w0 : (Lit.int .u8 a0).wf = true) (hr1 : Kd.C k36 w a1 l1.length l1) (hc1 : l1.length ≤ cap1) (hm1 : l1.length ≤ maxLen) (y1 : l1.length * 128 ≤ 140737488351232) (hw1 : ∀ x ∈ l1, (((Lit.int .i64 x.f0).wf = true) ∧ (x.f1.size ≤ 140737488351232) ∧ ((((Lit.int .i64 x.f2.f0).wf = true) ∧ ((Lit.int .i64 x.f2.f1).wf = true) ∧ ((Lit.int .i64 x.f2.f2).wf = true) ∧ ((Lit.int .i64 x.f2.f3).wf = true) ∧ ((((Lit.int .i64 x.f2.f4.f0).wf = true) ∧ ((Lit.int .i64 x.f2.f4.f1).wf = true) ∧ ((Lit.int .i64 x.f2.f4.f2).wf = true) ∧ ((Lit.int .i64 x.f2.f4.f3).wf = true) ∧ ((Lit.int .i64 x.f2.f4.f4).wf = true))) ∧ (x.f2.f5.size ≤ 140737488351232))) ∧ (x.f3.size ≤ 140737488351232))) :
    Calls Try.prog 3 #[.int .u8 a0, .slice a1 l1.length cap1] w fun e w' => e = .returned (.bool true) ∧ Below w.heap.size w w' := by
  have ha : 0 ≤ a0 ∧ a0 ≤ 255 := by simp [Lit.wf, IntKind.min, IntKind.max, IntKind.signed, IntKind.bits] at w0; omega
  have hw : wrap64 a0 = a0 := by unfold wrap64; omega
  have ht : Int.tmod a0 6 = a0 % 6 := Int.tmod_eq_emod_of_nonneg ha.1
  exact keeps_main (1 + a0 % 6) (by omega) a0 (by rw [hw, ht]; unfold wrap64; omega) a1 cap1 l1 w hr1 hc1 (by omega)
end


end Go.Proofs.Ytniboafnkiijcaa.P
