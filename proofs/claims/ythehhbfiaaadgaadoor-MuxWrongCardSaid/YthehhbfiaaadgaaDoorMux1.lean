/- the mux in memory: its cells and rows, New, Err, Room, Held, Recv, and stores into it. -/
import Derived.Test.YthehhbfiaaadgaaDoorPx0
import Derived.Test.YthehhbfiaaadgaaDoorPx2
import Derived.Test.YthehhbfiaaadgaaDoorPx7
namespace Go.Proofs.YthehhbfiaaadgaaDoor.P
open Go.RowKit Go.Proofs.YthehhbfiaaadgaaDoorW.PrintWords Go.Proofs.YthehhbfiaaadgaaDoorW.PrintLast Go.Proofs.YthehhbfiaaadgaaDoorW.PrintMore
attribute [local go_sem] max2_int min2_int max_two min_two max_three min_three max_four min_four
set_option linter.unusedVariables false
set_option linter.unusedSimpArgs false
theorem mux_of.nil (ch : Int) (w : World) : Calls Tryd.prog 30 #[.pointer none, .int .i64 ch] w fun e w' => e = .returned (.pointer none) ∧ w' = w := by
  go_enter Tryd.func30, Tryd.ntmps30
  go_wp2
  go_ret
  exact ⟨rfl, rfl⟩
theorem mux_of.out (p : Nat) (ch : Int) (w : World) (h : (decide (ch < 0) || decide (ch ≥ 8)) = true) : Calls Tryd.prog 30 #[.pointer (some ⟨p, 0, none⟩), .int .i64 ch] w fun e w' => e = .returned (.pointer none) ∧ w' = w := by
  cases h1 : decide (ch < 0) with
  | true =>
    go_enter Tryd.func30, Tryd.ntmps30
    go_wp2
    go_ret
    exact ⟨rfl, rfl⟩
  | false =>
    have h2 : decide (ch ≥ 8) = true := by rw [h1] at h; exact h
    have h3 : decide (8 ≤ ch) = true := h2
    clear h
    go_enter Tryd.func30, Tryd.ntmps30
    go_wp2
    go_ret
    exact ⟨rfl, rfl⟩
theorem mux_of.at_ (p ch : Nat) (w : World) (h : ch < 8) : Calls Tryd.prog 30 #[.pointer (some ⟨p, 0, none⟩), .int .i64 ch] w fun e w' => e = .returned (.pointer (some ⟨p, 1 + ch * 5, none⟩)) ∧ w' = w := by
  have h1 : decide ((ch : Int) < 0) = false := decide_eq_false (by omega)
  have h2 : decide ((ch : Int) ≥ 8) = false := decide_eq_false (by omega)
  have h3 : decide (8 ≤ (ch : Int)) = false := h2
  have h4 : (0 ≤ (ch : Int)) = True := eq_true (by omega)
  have h5 : (ch < 8) = True := eq_true h
  have h6 : ((ch : Int) < 8) = True := eq_true (by omega)
  go_enter Tryd.func30, Tryd.ntmps30
  go_wp2
  go_ret
  exact ⟨rfl, rfl⟩
/-- A row of bytes of its own, of which the front may be gone. -/
def Tl (w : World) (b0 : Nat) (e : TypeId) (v : Value) (xs : List Value) : Prop :=
  (v = .slice none 0 0 ∧ xs = []) ∨ ∃ g off cap cur, v = .slice (some ⟨g, off, none⟩) xs.length cap ∧ b0 ≤ g ∧ w.heap[g]? = some (.cells cur e (0, 0)) ∧ xs.length ≤ cap ∧ cap ≤ maxLen ∧ off + cap ≤ cur.size ∧ (cur.toList.drop off).take xs.length = xs
theorem Tl.of_own {w : World} {b0 : Nat} {e : TypeId} {v : Value} {n : Nat} {xs : List Value} (h : w.ownsRow b0 e 1 v n xs) : Tl w b0 e v xs := by
  have hl : xs.length = n := by have := h.1; omega
  rcases h.2 with ⟨rfl, hn⟩ | ⟨g, cap, cur, rfl, h1, h2, h3, h4, h5, h6⟩
  · exact .inl ⟨rfl, List.eq_nil_of_length_eq_zero (by omega)⟩
  · exact .inr ⟨g, 0, cap, cur, by rw [hl], h1, h2, by omega, h4, by omega, by rw [hl, List.drop_zero]; simpa using h6⟩
theorem Tl.kept {w w' : World} {b0 : Nat} {e : TypeId} {v : Value} {xs : List Value} (h : Tl w b0 e v xs) (hb : ∀ k, v.ownBlock = some k → w'.heap[k]? = w.heap[k]?) : Tl w' b0 e v xs := by
  rcases h with h | ⟨g, off, cap, cur, rfl, h1, h2, h3⟩
  · exact .inl h
  · exact .inr ⟨g, off, cap, cur, rfl, h1, (hb g rfl).trans h2, h3⟩
theorem add_at (g off k : Nat) : (⟨g, off, none⟩ : Addr).add k = ⟨g, off + k, none⟩ := by
  unfold Addr.add
  split
  · subst_vars; rfl
  · rfl
theorem Tl.lower {w : World} {b0 b1 : Nat} {e : TypeId} {v : Value} {xs : List Value} (h : Tl w b1 e v xs) (hb : b0 ≤ b1) : Tl w b0 e v xs := by
  rcases h with h | ⟨g, off, cap, cur, rfl, h1, h3⟩
  · exact .inl h
  · exact .inr ⟨g, off, cap, cur, rfl, Nat.le_trans hb h1, h3⟩
theorem Tl.cells {w : World} {b0 : Nat} {e : TypeId} {g off cap : Nat} {n : Nat} {xs : List Value} (h : Tl w b0 e (.slice (some ⟨g, off, none⟩) n cap) xs) : ∀ j u, xs[j]? = some u → w.cell? ((⟨g, off, none⟩ : Addr).add j) = some u := by
  rcases h with ⟨h, _⟩ | ⟨g, off, cap, cur, h, h1, h2, h3, h4, h5, h6⟩
  · cases h
  · cases h
    intro j u hu
    have hj : j < xs.length := (List.getElem?_eq_some_iff.1 hu).1
    rw [← h6, List.getElem?_take_of_lt hj, List.getElem?_drop, Array.getElem?_toList] at hu
    rw [add_at, blk_cell h2]
    exact hu
theorem run_append_room_at {P : Program} (w : World) (t ty e : TypeId) (i : TypeInfo) (ht : P.underlying t = some (.slice e)) (hi : P.info? e = some i) (hs : i.size = 1)
    (g off sLen sCap : Nat) (cur : Array Value) (hg : w.heap[g]? = some (.cells cur e (0, 0)))
    (a : Addr) (m c : Nat) (news : List Value) (hl : news.length = m) (hnews : ∀ j u, news[j]? = some u → w.cell? (a.add j) = some u) (h1 : ∀ u ∈ news, u.oneCell' = true)
    (hroom : sLen + m ≤ sCap) (hfit : off + sLen + news.length ≤ cur.size) :
    (Builtin.append_ #[t, t] ty #[.slice (some ⟨g, off, none⟩) sLen sCap, .slice (some a) m c]).run P w =
      .ok (.slice (some ⟨g, off, none⟩) (sLen + m) sCap) (w.setRow g (cur.toList.take (off + sLen) ++ news ++ cur.toList.drop (off + sLen + news.length)).toArray) := by
  have hf := run_firstCells_some (P := P) w i.size m a m c news (by rw [hs]; omega) hnews
  have hst := run_storeCells_at P g (off + sLen) e news 0 cur w hg (by simpa using hfit) h1
  simp only [Nat.add_zero] at hst
  rw [hs] at hf
  simp [Builtin.append_, run_underlying ht, sizeOf, typeInfo, hi, Builtin.lenOf, hroom, hf, hs, add_at, hst]
theorem run_append_tl {P : Program} (w : World) (b0 : Nat) (t ty e : TypeId) (i : TypeInfo) (z : Value) (ht : P.underlying t = some (.slice e)) (hi : P.info? e = some i) (hz : i.zero = some z) (hs : i.size = 1) (hby : i.bytes = 1) (hzs : z.cells.size = 1)
    (v : Value) (xs : List Value) (h : Tl w b0 e v xs) (a : Addr) (m c : Nat) (news : List Value) (hl : news.length = m) (hnews : ∀ j u, news[j]? = some u → w.cell? (a.add j) = some u) (h1 : ∀ u ∈ news, u.oneCell' = true)
    (hbytes : xs.length + m ≤ 140737488355328) (hbase : b0 ≤ w.heap.size) :
    ∃ v' w', (Builtin.append_ #[t, t] ty #[v, .slice (some a) m c]).run P w = .ok v' w' ∧ Tl w' b0 e v' (xs ++ news) ∧ w.grownBy w' v.ownBlock ∧ (v'.ownBlock = v.ownBlock ∨ ∃ b, v'.ownBlock = some b ∧ w.heap.size ≤ b) := by
  rcases h with ⟨rfl, rfl⟩ | ⟨g, off, cap, cur, rfl, hbg, hg, hnc, hcm, hcs, htk⟩
  · obtain ⟨v', w', h2, h3, h4, _⟩ := run_append_own (P := P) w w.heap.size t ty e i z 1 1 ht hi hz hs hby hzs (by omega) (.slice none 0 0) 0 [] (World.ownsRow_nil w w.heap.size e 1) a m c news (by omega) hnews h1 (by simp only [maxLen]; simp at hbytes; omega) (by simp at hbytes; omega) (Nat.le_refl _)
    refine ⟨v', w', h2, (Tl.of_own h3).lower hbase, h4, ?_⟩
    rcases h3.2 with ⟨rfl, _⟩ | ⟨g, cap, cur, rfl, hb, _⟩
    · exact .inl rfl
    · exact .inr ⟨g, rfl, hb⟩
  · by_cases hroom : xs.length + m ≤ cap
    · have hr := run_append_room_at w t ty e i ht hi hs g off xs.length cap cur hg a m c news hl hnews h1 hroom (by omega)
      refine ⟨_, _, hr, .inr ⟨g, off, cap, _, by rw [List.length_append, hl], hbg, setRow_heap w g cur _ e _ hg, by rw [List.length_append, hl]; exact hroom, hcm, ?_, ?_⟩, ⟨rfl, rfl, rfl, by simp, fun k _ hk => setRow_other w g k _ (fun e => hk (by simp [Value.ownBlock, e]))⟩, .inl rfl⟩
      · simp only [List.size_toArray, List.length_append, List.length_take, List.length_drop, Array.length_toList]
        omega
      · have hx : (List.take (off + xs.length) cur.toList).length = off + xs.length := by
          have h1 : off + cap ≤ cur.toList.length := Nat.le_trans hcs (Nat.le_of_eq (Array.length_toList (xs := cur)).symm)
          rw [List.length_take]; omega
        rw [List.toList_toArray, List.append_assoc, List.drop_append_of_le_length (by rw [hx]; omega), List.drop_take, Nat.add_sub_cancel_left, htk, ← List.append_assoc]
        exact List.take_left
    · have holds : ∀ j u, xs[j]? = some u → w.cell? ((⟨g, off, none⟩ : Addr).add j) = some u := Tl.cells (b0 := b0) (e := e) (.inr ⟨g, off, cap, cur, rfl, hbg, hg, hnc, hcm, hcs, htk⟩)
      have hge := grownCap_ge w (xs.length + m) cap e
      have hr := run_append_grow (P := P) w t ty e i z ht hi hz ⟨g, off, none⟩ xs.length cap xs (by rw [hs]; omega) holds a m c news (by rw [hs]; omega) hnews (by omega) (by omega) (growslice_fits (by omega) (by rw [hby]; omega))
      refine ⟨_, _, hr, .inr ⟨w.heap.size, 0, _, _, by rw [List.length_append, hl], hbase, heap_alloc_new w.drew _, by rw [List.length_append, hl]; exact hge, grownCap_le_maxLen w _ cap e (by simp only [maxLen]; omega), ?_, ?_⟩, ⟨rfl, rfl, rfl, by simp, fun k hk _ => (World.grownBy_alloc w.drew _ none).block k hk (by simp)⟩, .inr ⟨_, rfl, Nat.le_refl _⟩⟩
      · simp only [Array.size_append, List.size_toArray, size_zeroCells, hzs, hl]
        omega
      · simp only [Array.toList_append, List.drop_zero]
        exact List.take_left
theorem C_cell {w : World} {ad : Addr} {m : Nat} {M : List Int} (h : Kd.C (Kd.int .u8) w (some ad) m M) : ∀ j u, (M.map (Value.int .u8))[j]? = some u → w.cell? (ad.add j) = some u := by
  intro j u hu
  rw [List.getElem?_map] at hu
  obtain ⟨p, hp, rfl⟩ := Option.map_eq_some_iff.1 hu
  have hj : j < M.length := (List.getElem?_eq_some_iff.1 hp).1
  obtain ⟨ad2, he, hc⟩ := h.2.2 (by have := h.1; omega)
  cases he
  obtain ⟨c, hc1, hc2, hc3⟩ := hc j p hp
  have h2 : c = [Value.int .u8 p] := hc2
  subst h2
  have := hc3 0 _ rfl
  rw [show j * (Kd.int .u8).sz + 0 = j from by show j * 1 + 0 = j; omega] at this
  exact this
/-- Bytes in a row of its own, of which the front may be gone. -/
def Tb (w : World) (b0 : Nat) (v : Value) (L : List Int) : Prop := Tl w b0 5 v (L.map (Value.int .u8)) ∧ L.length ≤ 9223372036854775807
theorem Tb.kept {w w' : World} {b0 : Nat} {v : Value} {L : List Int} (h : Tb w b0 v L) (hb : ∀ k, v.ownBlock = some k → w'.heap[k]? = w.heap[k]?) : Tb w' b0 v L := ⟨h.1.kept hb, h.2⟩
theorem Tb.reads {w : World} {b0 : Nat} {v : Value} {L : List Int} (h : Tb w b0 v L) : ∃ A c, v = .slice A L.length c ∧ L.length ≤ c ∧ Kd.C (Kd.int .u8) w A L.length L := by
  have hc := h.1
  rcases h.1 with ⟨rfl, hx⟩ | ⟨g, off, cap, cur, rfl, h1, h2, h3, _⟩
  · have hL : L = [] := List.map_eq_nil_iff.1 hx
    subst hL
    exact ⟨none, 0, rfl, Nat.le_refl _, rfl, by simp, fun h => absurd h (by simp)⟩
  · rw [List.length_map] at h3 hc ⊢
    refine ⟨_, cap, rfl, h3, rfl, h.2, fun _ => ⟨_, rfl, fun j p hp => ⟨[.int .u8 p], rfl, rfl, fun i u hu => ?_⟩⟩⟩
    have hi : i = 0 := by
      have := (List.getElem?_eq_some_iff.1 hu).1
      simpa using this
    subst hi
    have hu2 : Value.int .u8 p = u := by simpa using hu
    subst hu2
    rw [show j * (Kd.int .u8).sz + 0 = j from by show j * 1 + 0 = j; omega]
    exact hc.cells j _ (by rw [List.getElem?_map, hp]; rfl)
theorem run_append_tb (w : World) (b0 : Nat) (ty : TypeId) (v : Value) (L : List Int) (h : Tb w b0 v L) (A : Option Addr) (m c : Nat) (M : List Int) (hM : Kd.C (Kd.int .u8) w A m M) (hbytes : L.length + m ≤ 140737488355328) (hbase : b0 ≤ w.heap.size) :
    ∃ v' w', (Builtin.append_ #[32, 32] ty #[v, .slice A m c]).run Tryd.prog w = .ok v' w' ∧ Tb w' b0 v' (L ++ M) ∧ w.grownBy w' v.ownBlock ∧ (v'.ownBlock = v.ownBlock ∨ ∃ b, v'.ownBlock = some b ∧ w.heap.size ≤ b) := by
  obtain ⟨i0, hi, hz, hs, hby⟩ := info_parts info5
  have hm : M.length = m := hM.1
  rcases A with _ | ad
  · have h0 : m = 0 := by
      rcases Nat.eq_zero_or_pos m with h0 | h0
      · exact h0
      · obtain ⟨ad, h, _⟩ := hM.2.2 h0
        cases h
    subst h0
    obtain rfl : M = [] := List.eq_nil_of_length_eq_zero hm
    refine ⟨v, w, ?_, by rw [List.append_nil]; exact h, World.grownBy.refl w _, .inl rfl⟩
    rcases h.1 with ⟨rfl, _⟩ | ⟨g, off, cap, cur, rfl, _, _, hnc, _⟩
    · simp [Builtin.append_, run_underlying Tryd.underlying32, sizeOf, typeInfo, hi, Builtin.lenOf, Builtin.firstCells]
    · rw [List.length_map] at hnc ⊢
      simp [Builtin.append_, run_underlying Tryd.underlying32, sizeOf, typeInfo, hi, Builtin.lenOf, Builtin.firstCells, hnc, storeCells]
  · obtain ⟨v', w', h1, h2, h3, h4⟩ := run_append_tl (P := Tryd.prog) w b0 32 ty 5 i0 (.int .u8 0) Tryd.underlying32 hi hz hs hby rfl v _ h.1 ad m c (M.map (Value.int .u8)) (by rw [List.length_map]; exact hm) (C_cell hM) (fun u hu => by obtain ⟨x, _, rfl⟩ := List.mem_map.1 hu; rfl) (by rw [List.length_map]; exact hbytes) hbase
    refine ⟨v', w', h1, ⟨by rw [List.map_append]; exact h2, by rw [List.length_append]; omega⟩, h3, h4⟩
/-- The front goes. -/
theorem Tb.cut {w : World} {b0 : Nat} {A : Option Addr} {n c : Nat} {L : List Int} (h : Tb w b0 (.slice A n c) L) (m : Nat) (hm : m ≤ n) :
    ∃ B : Option Addr, (∀ W : World, (Instr.slice 32 (.slice A n c) (some (.int .i64 (m : Int))) none none).run Tryd.prog W = .ok (.slice B (n - m) (c - m)) W) ∧ Tb w b0 (.slice B (n - m) (c - m)) (L.drop m) ∧ (Value.slice B (n - m) (c - m)).ownBlock = (Value.slice A n c).ownBlock := by
  obtain ⟨i0, hi0, _, hsz0, _⟩ := info_parts info5
  have hnc : n ≤ c := by
    rcases h.1 with ⟨h, _⟩ | ⟨g, off, cap, cur, h, _, _, h3, _⟩
    · cases h
      exact Nat.le_refl _
    · cases h
      rw [List.length_map] at h3 ⊢
      exact h3
  refine ⟨if c = m then A else A.map (·.add (m * 1)), fun W => ?_, ⟨?_, by rw [List.length_drop]; have := h.2; omega⟩, ?_⟩
  · have := cut_from (P := Tryd.prog) 32 5 .i64 Tryd.underlying32 hi0 1 hsz0 A n c (m : Int) (by omega) (by omega) W
    simpa using this
  · rcases h.1 with ⟨h, hx⟩ | ⟨g, off, cap, cur, h, h1, h2, h3, h4, h5, h6⟩
    · cases h
      have hL : L = [] := List.map_eq_nil_iff.1 hx
      subst hL
      exact .inl ⟨by simp, by simp⟩
    · cases h
      simp only [List.length_map] at hm h3 h6 ⊢
      by_cases hcm : c = m
      · rw [if_pos hcm]
        refine .inr ⟨g, off, c - m, cur, by rw [List.length_map, List.length_drop], h1, h2, by rw [List.length_map, List.length_drop]; omega, by omega, by omega, ?_⟩
        have : L.drop m = [] := List.drop_eq_nil_of_le (by omega)
        rw [this]
        simp
      · rw [if_neg hcm]
        refine .inr ⟨g, off + m, c - m, cur, by rw [List.length_map, List.length_drop]; simp [add_at], h1, h2, by rw [List.length_map, List.length_drop]; omega, by omega, by omega, ?_⟩
        rw [List.length_map, List.length_drop, ← List.drop_drop, List.map_drop, ← h6, List.drop_take]
  · rcases A with _ | ad
    · split <;> rfl
    · split
      · rfl
      · simp [Value.ownBlock, Addr.add]
        split <;> rfl
/-- append(v, ys...), v a row of bytes whose front may be gone: as a step of the walk. -/
theorem tb_append {ops : Array Oper} {rest : List Oper} {o : Oper} {a : Act} {Q : Exit → Act → World → Prop} {W : World} (b0 : Nat) (hgd : o.guard = none) (s x : Operand)
    (ho : o.op = .call { callee := .builtin .append, args := #[s, x], argTypes := #[32, 32] })
    (v : Value) (L : List Int) (A : Option Addr) (m c : Nat) (M : List Int) (hs : a.eval s = v) (hx : a.eval x = .slice A m c) (HO : Tb W b0 v L) (HC : Kd.C (Kd.int .u8) W A m M) (hl : L.length + m ≤ 140737488355328) (hbase : b0 ≤ W.heap.size)
    (h : ∀ v1 w1, Tb w1 b0 v1 (L ++ M) → W.grownBy w1 v.ownBlock → (v1.ownBlock = v.ownBlock ∨ ∃ b, v1.ownBlock = some b ∧ W.heap.size ≤ b) → wpList Tryd.prog ops Q rest (a.put o.dst v1) w1) :
    wpList Tryd.prog ops Q (o :: rest) a W := by
  obtain ⟨v1, w1, hr1, h1, hg, hat⟩ := run_append_tb W b0 o.type v L HO A m c M HC hl hbase
  refine wpList_plain hgd fun K hK => ?_
  unfold Oper.wp execOp
  simp only [ho, resolve, invoke, builtin, Sem.run_bind, Sem.run_pure, Result.andThen_ok, List.map_toArray, List.map_cons, List.map_nil, hs, hx, hr1]
  exact hK _ _ (h v1 w1 h1 hg hat)
theorem tb_append_step {ops : Array Oper} {o : Oper} {a : Act} {Q : Exit → Act → World → Prop} {Kc : Act → World → Prop} {W : World} (b0 : Nat) (hw : Region.wanted o (yielded ops a.tmps) = true) (s x : Operand)
    (ho : o.op = .call { callee := .builtin .append, args := #[s, x], argTypes := #[32, 32] })
    (v : Value) (L : List Int) (A : Option Addr) (m c : Nat) (M : List Int) (hs : a.eval s = v) (hx : a.eval x = .slice A m c) (HO : Tb W b0 v L) (HC : Kd.C (Kd.int .u8) W A m M) (hl : L.length + m ≤ 140737488355328) (hbase : b0 ≤ W.heap.size)
    (h : ∀ v1 w1, Tb w1 b0 v1 (L ++ M) → W.grownBy w1 v.ownBlock → (v1.ownBlock = v.ownBlock ∨ ∃ b, v1.ownBlock = some b ∧ W.heap.size ≤ b) → Kc (a.put o.dst v1) w1) :
    if Region.wanted o (yielded ops a.tmps) = true then Oper.wp Tryd.prog o a W Kc Q else Kc (a.put o.dst undef) W := by
  obtain ⟨v1, w1, hr1, h1, hg, hat⟩ := run_append_tb W b0 o.type v L HO A m c M HC hl hbase
  rw [if_pos hw]
  unfold Oper.wp execOp
  simp only [ho, resolve, invoke, builtin, Sem.run_bind, Sem.run_pure, Result.andThen_ok, List.map_toArray, List.map_cons, List.map_nil, hs, hx, hr1]
  exact h v1 w1 h1 hg hat
/-- A mux: window; by channels what is in no frame yet, on the way, what came, owed, to be given back; whose turn it was; what was made; the stream's bytes and error; what is noted. -/
structure Mx where
  win : Int
  sent : Nat → List Int
  way : Nat → Int
  held : Nat → List Int
  owed : Nat → Int
  back : Nat → Int
  last : Int
  out : List Int
  L : List Int
  x : Int
  e : Int
def Mx.row (M : Mx) (j : Nat) : List Int := if j < 8 then M.sent j else if j < 16 then M.held (j - 8) else M.out
/-- A mux in memory: at p its 45 cells, at q its stream; vs: its eighteen rows, which share nothing. -/
structure Mm (b0 p q : Nat) (vs : Nat → Value) (M : Mx) (w : World) : Prop where
  hP : ∃ cs : Array Value, w.heap[p]? = some (.cells cs 64 (0, 0)) ∧ cs.size = 45 ∧ cs[0]? = some (.int .i64 M.win) ∧
    (∀ i, i < 8 → cs[1 + i * 5]? = some (vs i) ∧ cs[1 + i * 5 + 1]? = some (.int .i64 (M.way i)) ∧ cs[1 + i * 5 + 2]? = some (vs (8 + i)) ∧ cs[1 + i * 5 + 3]? = some (.int .i64 (M.owed i)) ∧ cs[1 + i * 5 + 4]? = some (.int .i64 (M.back i))) ∧
    cs[41]? = some (.int .i64 M.last) ∧ cs[42]? = some (vs 16) ∧ cs[43]? = some (.pointer (some ⟨q, 0, none⟩)) ∧ cs[44]? = some (.int .i64 M.e)
  hQ : w.heap[q]? = some (.cells #[vs 17, .int .i64 M.x] 98 (0, 0))
  hT : ∀ j, j < 17 → Tb w b0 (vs j) (M.row j)
  hS : Kd.R (Kd.int .u8) 5 w b0 (fun _ => True) (vs 17) M.L
  apart : ∀ i j, i < 18 → j < 18 → i ≠ j → ∀ k, (vs i).ownBlock = some k → (vs j).ownBlock ≠ some k
  hp0 : b0 ≤ p
  hq0 : b0 ≤ q
theorem Tb.lt {w : World} {b0 : Nat} {v : Value} {L : List Int} (h : Tb w b0 v L) (k : Nat) (hk : v.ownBlock = some k) : k < w.heap.size := by
  rcases h.1 with ⟨rfl, _⟩ | ⟨g, off, cap, cur, rfl, _, h2, _⟩
  · cases hk
  · cases hk
    exact blk_lt h2
theorem Mm.below {b0 p q : Nat} {vs : Nat → Value} {M : Mx} {w w' : World} (h : Mm b0 p q vs M w) (hb : Below w.heap.size w w') : Mm b0 p q vs M w' := by
  obtain ⟨cs, hcs, hrest⟩ := h.hP
  exact ⟨⟨cs, blk_below hcs hb, hrest⟩, blk_below h.hQ hb, fun j hj => (h.hT j hj).kept (fun k hk => hb.block k ((h.hT j hj).lt k hk)), Kd.R_below h.hS hb, h.apart, h.hp0, h.hq0⟩
/-- The cells of a mux that its functions load. -/
theorem Mm.cells {b0 p q : Nat} {vs : Nat → Value} {M : Mx} {w : World} (h : Mm b0 p q vs M w) : w.cell? ⟨p, 0, none⟩ = some (.int .i64 M.win) ∧ w.cell? ⟨p, 41, none⟩ = some (.int .i64 M.last) ∧ w.cell? ⟨p, 42, none⟩ = some (vs 16) ∧ w.cell? ⟨p, 43, none⟩ = some (.pointer (some ⟨q, 0, none⟩)) ∧ w.cell? ⟨p, 44, none⟩ = some (.int .i64 M.e) := by
  obtain ⟨cs, hcs, _, h0, _, h1, h2, h3, h4⟩ := h.hP
  exact ⟨(blk_cell hcs 0).trans h0, (blk_cell hcs 41).trans h1, (blk_cell hcs 42).trans h2, (blk_cell hcs 43).trans h3, (blk_cell hcs 44).trans h4⟩
theorem Mm.chan {b0 p q : Nat} {vs : Nat → Value} {M : Mx} {w : World} (h : Mm b0 p q vs M w) (i : Nat) (hi : i < 8) : w.cell? ⟨p, 1 + i * 5, none⟩ = some (vs i) ∧ w.cell? ⟨p, 1 + i * 5 + 1, none⟩ = some (.int .i64 (M.way i)) ∧ w.cell? ⟨p, 1 + i * 5 + 2, none⟩ = some (vs (8 + i)) ∧ w.cell? ⟨p, 1 + i * 5 + 3, none⟩ = some (.int .i64 (M.owed i)) ∧ w.cell? ⟨p, 1 + i * 5 + 4, none⟩ = some (.int .i64 (M.back i)) := by
  obtain ⟨cs, hcs, _, _, h0, _⟩ := h.hP
  obtain ⟨a, b, c, d, e⟩ := h0 i hi
  exact ⟨(blk_cell hcs _).trans a, (blk_cell hcs _).trans b, (blk_cell hcs _).trans c, (blk_cell hcs _).trans d, (blk_cell hcs _).trans e⟩
theorem mux_Err.nil (w : World) : Calls Tryd.prog 26 #[.pointer none] w fun e w' => e = .returned (.int .i64 1) ∧ w' = w := by
  go_enter Tryd.func26, Tryd.ntmps26
  go_wp2
  go_ret
  exact ⟨rfl, rfl⟩
theorem mux_Err.at_ {b0 p q : Nat} {vs : Nat → Value} {M : Mx} (w : World) (h : Mm b0 p q vs M w) : Calls Tryd.prog 26 #[.pointer (some ⟨p, 0, none⟩)] w fun e w' => e = .returned (.int .i64 M.e) ∧ w' = w := by
  obtain ⟨_, _, _, _, c4⟩ := h.cells
  clear h
  go_enter Tryd.func26, Tryd.ntmps26
  go_wp2
  go_ret
  exact ⟨rfl, rfl⟩
theorem mux_Room.nil (ch : Int) (w : World) : Calls Tryd.prog 19 #[.pointer none, .int .i64 ch] w fun e w' => e = .returned (.int .i64 0) ∧ w' = w := by
  go_enter Tryd.func19, Tryd.ntmps19
  go_wp2_with fail
  refine (mux_of.nil ch w).mono ?_
  rintro e w1 ⟨rfl, rfl⟩
  go_wp2
  go_ret
  exact ⟨rfl, rfl⟩
theorem mux_Room.out (p : Nat) (ch : Int) (w : World) (h : (decide (ch < 0) || decide (ch ≥ 8)) = true) : Calls Tryd.prog 19 #[.pointer (some ⟨p, 0, none⟩), .int .i64 ch] w fun e w' => e = .returned (.int .i64 0) ∧ w' = w := by
  have HO := Aside0.mk (mux_of.out p ch w h)
  clear h
  go_enter Tryd.func19, Tryd.ntmps19
  go_wp2_with fail
  refine HO.out.mono ?_
  rintro e w1 ⟨rfl, rfl⟩
  go_wp2
  go_ret
  exact ⟨rfl, rfl⟩
theorem mux_Room.at_ {b0 p q : Nat} {vs : Nat → Value} {M : Mx} (ch : Nat) (hch : ch < 8) (w : World) (h : Mm b0 p q vs M w) : Calls Tryd.prog 19 #[.pointer (some ⟨p, 0, none⟩), .int .i64 ch] w fun e w' => e = .returned (.int .i64 (wrap64 (M.win - M.way ch))) ∧ Below w.heap.size w w' := by
  have HO := Aside0.mk (mux_of.at_ p ch w hch)
  obtain ⟨c0, _⟩ := h.cells
  obtain ⟨_, d1, _⟩ := h.chan ch hch
  clear h hch
  go_enter Tryd.func19, Tryd.ntmps19
  go_wp2_with fail
  refine HO.out.mono ?_
  rintro e w1 ⟨rfl, rfl⟩
  go_wp2
  all_goals (try go_region)
  all_goals (try go_wp2)
  all_goals go_ret
  all_goals exact ⟨rfl, below_drew (Below.refl _ _)⟩
theorem Tb.slice {w : World} {b0 : Nat} {v : Value} {L : List Int} (h : Tb w b0 v L) : ∃ A c, v = .slice A L.length c := by
  obtain ⟨A, c, h1, _⟩ := h.reads
  exact ⟨A, c, h1⟩
theorem mux_Held.nil (ch : Int) (w : World) : Calls Tryd.prog 24 #[.pointer none, .int .i64 ch] w fun e w' => e = .returned (.int .i64 0) ∧ w' = w := by
  go_enter Tryd.func24, Tryd.ntmps24
  go_wp2_with fail
  refine (mux_of.nil ch w).mono ?_
  rintro e w1 ⟨rfl, rfl⟩
  go_wp2
  go_ret
  exact ⟨rfl, rfl⟩
theorem mux_Held.out (p : Nat) (ch : Int) (w : World) (h : (decide (ch < 0) || decide (ch ≥ 8)) = true) : Calls Tryd.prog 24 #[.pointer (some ⟨p, 0, none⟩), .int .i64 ch] w fun e w' => e = .returned (.int .i64 0) ∧ w' = w := by
  have HO := Aside0.mk (mux_of.out p ch w h)
  clear h
  go_enter Tryd.func24, Tryd.ntmps24
  go_wp2_with fail
  refine HO.out.mono ?_
  rintro e w1 ⟨rfl, rfl⟩
  go_wp2
  go_ret
  exact ⟨rfl, rfl⟩
theorem mux_Held.at_ {b0 p q : Nat} {vs : Nat → Value} {M : Mx} (ch : Nat) (hch : ch < 8) (w : World) (h : Mm b0 p q vs M w) : Calls Tryd.prog 24 #[.pointer (some ⟨p, 0, none⟩), .int .i64 ch] w fun e w' => e = .returned (.int .i64 ((M.held ch).length : Nat)) ∧ Below w.heap.size w w' := by
  have HO := Aside0.mk (mux_of.at_ p ch w hch)
  obtain ⟨_, _, d2, _⟩ := h.chan ch hch
  obtain ⟨A, c, hv⟩ := (h.hT (8 + ch) (by omega)).slice
  have hr : M.row (8 + ch) = M.held ch := by
    unfold Mx.row
    rw [if_neg (by omega), if_pos (by omega), show 8 + ch - 8 = ch by omega]
  rw [hr] at hv
  rw [hv] at d2
  generalize (M.held ch).length = n at d2 ⊢
  clear h hch hv hr
  go_enter Tryd.func24, Tryd.ntmps24
  go_wp2_with fail
  refine HO.out.mono ?_
  rintro e w1 ⟨rfl, rfl⟩
  go_wp2
  all_goals (try go_region)
  all_goals (try go_wp2)
  all_goals go_ret
  all_goals exact ⟨rfl, Below.refl _ _⟩
theorem mux_New.bad (win : Int) (w : World) (h : (decide (win < 1) || decide (win > 65536)) = true) : Calls Tryd.prog 20 #[.int .i64 win] w fun e w' => e = .returned (.tuple #[.pointer none, .int .i64 2]) ∧ w' = w := by
  cases h1 : decide (win < 1) with
  | true =>
    go_enter Tryd.func20, Tryd.ntmps20
    go_wp2
    go_ret2
    exact ⟨rfl, rfl⟩
  | false =>
    have h2 : decide (win > 65536) = true := by rw [h1] at h; exact h
    have h3 : decide (65536 < win) = true := h2
    clear h
    go_enter Tryd.func20, Tryd.ntmps20
    go_wp2
    go_ret2
    exact ⟨rfl, rfl⟩
def Mx.new (win : Int) : Mx := ⟨win, fun _ => [], fun _ => 0, fun _ => [], fun _ => 0, fun _ => 0, 7, [], [], 0, 0⟩
theorem Tb.nil (w : World) (b0 : Nat) : Tb w b0 (.slice none 0 0) [] := ⟨.inl ⟨rfl, rfl⟩, by simp⟩
theorem mux_New.at_ (win : Int) (w : World) (h : (decide (win < 1) || decide (win > 65536)) = false) : Calls Tryd.prog 20 #[.int .i64 win] w fun e w' => ∃ p q, e = .returned (.tuple #[.pointer (some ⟨p, 0, none⟩), .int .i64 0]) ∧ Mm w.heap.size p q (fun _ => .slice none 0 0) (Mx.new win) w' ∧ Below w.heap.size w w' := by
  obtain ⟨h1, h2⟩ := Bool.or_eq_false_iff.1 h
  have h3 : decide (65536 < win) = false := h2
  clear h
  go_enter Tryd.func20, Tryd.ntmps20
  go_wp2_with fail
  refine (frame_New.made w).mono ?_
  rintro e w1 ⟨rfl, hw1⟩
  have HS : Aside0 (w1.heap.size = w.heap.size + 1) := ⟨by rw [hw1]; simp⟩
  have HB : Aside0 (Below w.heap.size w w1) := ⟨by rw [hw1]; exact below_alloc (Below.refl _ _) _⟩
  have HQ : Aside0 (w1.heap[w.heap.size]? = some (.cells #[.slice none 0 0, .int .i64 0] 98 (0, 0))) := ⟨by rw [hw1]; exact blk_new w _⟩
  clear hw1
  go_wp2
  go_ret2
  refine ⟨w1.heap.size, w.heap.size, rfl, ⟨⟨_, blk_new w1 _, rfl, rfl, fun i hi => ?_, rfl, rfl, rfl, rfl⟩, ?_, fun j hj => ?_, ?_, ?_, by have := HS.out; omega, Nat.le_refl _⟩, below_alloc HB.out _⟩
  · have : i = 0 ∨ i = 1 ∨ i = 2 ∨ i = 3 ∨ i = 4 ∨ i = 5 ∨ i = 6 ∨ i = 7 := by omega
    rcases this with rfl | rfl | rfl | rfl | rfl | rfl | rfl | rfl <;> exact ⟨rfl, rfl, rfl, rfl, rfl⟩
  · exact blk_below HQ.out (below_alloc (Below.refl _ _) _)
  · have : (Mx.new win).row j = [] := by unfold Mx.row Mx.new; dsimp only; split <;> (try split) <;> rfl
    rw [this]
    exact Tb.nil _ _
  · exact Kd.R_nil _ _ _ _ _
  · intro i j _ _ _ k hk
    cases hk
def upd {α : Type} (f : Nat → α) (i : Nat) (v : α) : Nat → α := fun j => if j = i then v else f j
theorem set_get {cs : Array Value} {o j : Nat} {u : Value} (h : o < cs.size) : (cs.setIfInBounds o u)[j]? = if o = j then some u else cs[j]? := by
  rw [Array.getElem?_setIfInBounds]
  split <;> first | rfl | rw [if_pos (by omega)]
theorem Tb.ty {w : World} {b0 : Nat} {v : Value} {L : List Int} (h : Tb w b0 v L) (k : Nat) (hk : v.ownBlock = some k) : ∃ cs, w.heap[k]? = some (.cells cs 5 (0, 0)) := by
  rcases h.1 with ⟨rfl, _⟩ | ⟨g, off, cap, cur, rfl, _, h2, _⟩
  · cases hk
  · cases hk
    exact ⟨_, h2⟩
theorem Mm.ne_p {b0 p q : Nat} {vs : Nat → Value} {M : Mx} {w : World} (h : Mm b0 p q vs M w) (j : Nat) (hj : j < 17) (k : Nat) (hk : (vs j).ownBlock = some k) : k ≠ p ∧ k ≠ q := by
  obtain ⟨cs, hcs⟩ := (h.hT j hj).ty k hk
  obtain ⟨cp, hcp, _⟩ := h.hP
  have hq := h.hQ
  constructor
  · rintro rfl
    rw [hcs] at hcp
    injection hcp with hcp
    injection hcp with _ hcp
    exact absurd hcp (by decide)
  · rintro rfl
    rw [hcs] at hq
    injection hq with hq
    injection hq with _ hq
    exact absurd hq (by decide)
theorem Mm.p_ne {b0 p q : Nat} {vs : Nat → Value} {M : Mx} {w : World} (h : Mm b0 p q vs M w) : q ≠ p := by
  rintro rfl
  obtain ⟨cp, hcp, _⟩ := h.hP
  have hq := h.hQ
  rw [hcp] at hq
  injection hq with hq
  injection hq with _ hq
  exact absurd hq (by decide)
theorem Mm.recv {b0 p q : Nat} {vs : Nat → Value} {M : Mx} {w : World} (h : Mm b0 p q vs M w) (ch : Nat) (hch : ch < 8) (u : Int) :
    Mm b0 p q (upd vs (8 + ch) (.slice none 0 0)) { M with held := upd M.held ch [], back := upd M.back ch u } ((w.setCell ⟨p, 1 + ch * 5 + 2, none⟩ (.slice none 0 0)).setCell ⟨p, 1 + ch * 5 + 4, none⟩ (.int .i64 u)) := by
  obtain ⟨cs, hcs, hsz, h0, hc, h41, h42, h43, h44⟩ := h.hP
  have g : ∀ j, ((cs.setIfInBounds (1 + ch * 5 + 2) (.slice none 0 0)).setIfInBounds (1 + ch * 5 + 4) (.int .i64 u))[j]? = if 1 + ch * 5 + 4 = j then some (.int .i64 u) else if 1 + ch * 5 + 2 = j then some (.slice none 0 0) else cs[j]? := fun j => by
    rw [set_get (by rw [Array.size_setIfInBounds]; omega), set_get (by omega)]
  have far : ∀ k, k ≠ p → ((w.setCell ⟨p, 1 + ch * 5 + 2, none⟩ (.slice none 0 0)).setCell ⟨p, 1 + ch * 5 + 4, none⟩ (.int .i64 u)).heap[k]? = w.heap[k]? := fun k hk => (Below.heap_setCell _ ⟨p, _, none⟩ _ k hk).trans (Below.heap_setCell w ⟨p, _, none⟩ _ k hk)
  refine ⟨⟨_, blk_set (blk_set hcs _ _) _ _, by simp [hsz], ?_, fun i hi => ?_, ?_, ?_, ?_, ?_⟩, by have h17 : upd vs (8 + ch) (.slice none 0 0) 17 = vs 17 := if_neg (by omega); rw [h17]; exact (far q h.p_ne).trans h.hQ, fun j hj => ?_, ?_, ?_, h.hp0, h.hq0⟩
  · rw [g, if_neg (by omega), if_neg (by omega)]; exact h0
  · obtain ⟨a, b, c, d, e⟩ := hc i hi
    by_cases hic : i = ch
    · subst hic
      refine ⟨?_, ?_, ?_, ?_, ?_⟩
      · rw [g, if_neg (by omega), if_neg (by omega)]; unfold upd; rw [if_neg (by omega)]; exact a
      · rw [g, if_neg (by omega), if_neg (by omega)]; exact b
      · rw [g, if_neg (by omega), if_pos rfl]; unfold upd; rw [if_pos rfl]
      · rw [g, if_neg (by omega), if_neg (by omega)]; exact d
      · rw [g, if_pos rfl]; unfold upd; dsimp only; rw [if_pos rfl]
    · refine ⟨?_, ?_, ?_, ?_, ?_⟩ <;> rw [g, if_neg (by omega), if_neg (by omega)]
      · unfold upd; rw [if_neg (by omega)]; exact a
      · exact b
      · unfold upd; rw [if_neg (by omega)]; exact c
      · exact d
      · unfold upd; dsimp only; rw [if_neg hic]; exact e
  · rw [g, if_neg (by omega), if_neg (by omega)]; exact h41
  · rw [g, if_neg (by omega), if_neg (by omega)]; unfold upd; rw [if_neg (by omega)]; exact h42
  · rw [g, if_neg (by omega), if_neg (by omega)]; exact h43
  · rw [g, if_neg (by omega), if_neg (by omega)]; exact h44
  · by_cases hj8 : j = 8 + ch
    · subst hj8
      have : Mx.row { M with held := upd M.held ch [], back := upd M.back ch u } (8 + ch) = [] := by
        unfold Mx.row upd; dsimp only; rw [if_neg (by omega), if_pos (by omega), if_pos (by omega)]
      rw [this]
      unfold upd
      rw [if_pos rfl]
      exact Tb.nil _ _
    · have : Mx.row { M with held := upd M.held ch [], back := upd M.back ch u } j = M.row j := by
        unfold Mx.row upd; dsimp only
        split
        · rfl
        · split
          · rw [if_neg (by omega)]
          · rfl
      rw [this]
      unfold upd
      rw [if_neg hj8]
      exact (h.hT j hj).kept (fun k hk => far k (h.ne_p j hj k hk).1)
  · unfold upd
    rw [if_neg (by omega)]
    refine Kd.R_step (Kd.R_types h.hS hcs (fun z hz => ?_)) (fun k hk _ => far k hk.2) |> fun h2 => Kd.R_mono h2 (fun _ _ => trivial)
    have hE : (Kd.int .u8).E = [] := rfl
    rw [hE] at hz
    rw [List.mem_singleton.1 hz]
    decide
  · intro i j hi hj hij k hk
    unfold upd at hk ⊢
    by_cases e1 : i = 8 + ch
    · rw [if_pos e1] at hk; cases hk
    · rw [if_neg e1] at hk
      by_cases e2 : j = 8 + ch
      · rw [if_pos e2]; intro h; cases h
      · rw [if_neg e2]; exact h.apart i j hi hj hij k hk
theorem mux_Recv.nil (ch : Int) (w : World) : Calls Tryd.prog 18 #[.pointer none, .int .i64 ch] w fun e w' => e = .returned (.slice none 0 0) ∧ w' = w := by
  go_enter Tryd.func18, Tryd.ntmps18
  go_wp2_with fail
  refine (mux_of.nil ch w).mono ?_
  rintro e w1 ⟨rfl, rfl⟩
  go_wp2
  go_ret
  exact ⟨rfl, rfl⟩
theorem mux_Recv.out (p : Nat) (ch : Int) (w : World) (h : (decide (ch < 0) || decide (ch ≥ 8)) = true) : Calls Tryd.prog 18 #[.pointer (some ⟨p, 0, none⟩), .int .i64 ch] w fun e w' => e = .returned (.slice none 0 0) ∧ w' = w := by
  have HO := Aside0.mk (mux_of.out p ch w h)
  clear h
  go_enter Tryd.func18, Tryd.ntmps18
  go_wp2_with fail
  refine HO.out.mono ?_
  rintro e w1 ⟨rfl, rfl⟩
  go_wp2
  go_ret
  exact ⟨rfl, rfl⟩
theorem mux_Recv.at_ {b0 p q : Nat} {vs : Nat → Value} {M : Mx} (ch : Nat) (hch : ch < 8) (w : World) (h : Mm b0 p q vs M w) :
    Calls Tryd.prog 18 #[.pointer (some ⟨p, 0, none⟩), .int .i64 ch] w fun e w' => e = .returned (vs (8 + ch)) ∧ Mm b0 p q (upd vs (8 + ch) (.slice none 0 0)) { M with held := upd M.held ch [], back := upd M.back ch (wrap64 (M.back ch + ((M.held ch).length : Nat))) } w' ∧ w' = (w.setCell ⟨p, 1 + ch * 5 + 2, none⟩ (.slice none 0 0)).setCell ⟨p, 1 + ch * 5 + 4, none⟩ (.int .i64 (wrap64 (M.back ch + ((M.held ch).length : Nat)))) := by
  have HO := Aside0.mk (mux_of.at_ p ch w hch)
  have HR := Aside0.mk (fun u => h.recv ch hch u)
  obtain ⟨_, _, d2, _, d4⟩ := h.chan ch hch
  obtain ⟨cs, hcs, hsz, _⟩ := h.hP
  have z1 := blk_frozen hcs (1 + ch * 5 + 2)
  have z2 := blk_frozen (blk_set hcs (1 + ch * 5 + 2) (.slice none 0 0)) (1 + ch * 5 + 4)
  have z3 : ∃ u, (w.setCell ⟨p, 1 + ch * 5 + 2, none⟩ (.slice none 0 0)).cell? ⟨p, 1 + ch * 5 + 4, none⟩ = some u := ⟨_, (blk_cell (blk_set hcs (1 + ch * 5 + 2) (.slice none 0 0)) (1 + ch * 5 + 4)).trans ((set_get (by omega)).trans ((if_neg (by omega)).trans (Array.getElem?_eq_getElem (by omega))))⟩
  obtain ⟨u3, z3⟩ := z3
  clear hcs hsz
  obtain ⟨A, c, hv⟩ := (h.hT (8 + ch) (by omega)).slice
  have hr : M.row (8 + ch) = M.held ch := by
    unfold Mx.row
    rw [if_neg (by omega), if_pos (by omega), show 8 + ch - 8 = ch by omega]
  rw [hr] at hv
  rw [hv] at d2
  obtain ⟨n, hn⟩ : ∃ n, (M.held ch).length = n := ⟨_, rfl⟩
  rw [hn] at hv d2 ⊢
  rw [hv]
  clear h hch hv hr hn
  go_enter Tryd.func18, Tryd.ntmps18
  go_wp2_with fail
  refine HO.out.mono ?_
  rintro e w1 ⟨rfl, rfl⟩
  go_wp2
  go_ret
  exact ⟨rfl, HR.out _, rfl⟩
/-- Behind an append to what a channel has in no frame, and its store. -/
theorem Mm.app {b0 p q : Nat} {vs : Nat → Value} {M : Mx} {w w1 : World} (h : Mm b0 p q vs M w) (ch : Nat) (hch : ch < 8) (v1 : Value) (L1 : List Int) (hT : Tb w1 b0 v1 L1) (hg : w.grownBy w1 (vs ch).ownBlock) (ho : v1.ownBlock = (vs ch).ownBlock ∨ ∃ b, v1.ownBlock = some b ∧ w.heap.size ≤ b) :
    Mm b0 p q (upd vs ch v1) { M with sent := upd M.sent ch L1 } (w1.setCell ⟨p, 1 + ch * 5, none⟩ v1) := by
  obtain ⟨cs, hcs, hsz, h0, hc, h41, h42, h43, h44⟩ := h.hP
  have hpo : some p ≠ (vs ch).ownBlock := fun e => (h.ne_p ch (by omega) p e.symm).1 rfl
  have hqo : some q ≠ (vs ch).ownBlock := fun e => (h.ne_p ch (by omega) q e.symm).2 rfl
  have hcs1 := (hg.block p (blk_lt hcs) hpo).trans hcs
  have hv1 : ∀ k, v1.ownBlock = some k → k ≠ p := fun k hk => by
    rcases ho with ho | ⟨b, hb, hle⟩
    · exact (h.ne_p ch (by omega) k (by rw [← ho]; exact hk)).1
    · rw [hb] at hk
      cases hk
      have := blk_lt hcs
      omega
  have g : ∀ j, (cs.setIfInBounds (1 + ch * 5) v1)[j]? = if 1 + ch * 5 = j then some v1 else cs[j]? := fun j => set_get (by omega)
  have far : ∀ k, k ≠ p → (w1.setCell ⟨p, 1 + ch * 5, none⟩ v1).heap[k]? = w1.heap[k]? := fun k hk => Below.heap_setCell w1 ⟨p, _, none⟩ _ k hk
  have other : ∀ j, j < 18 → j ≠ ch → ∀ k, (vs j).ownBlock = some k → some k ≠ (vs ch).ownBlock := fun j hj hjc k hk e => h.apart j ch hj (by omega) hjc k hk e.symm
  refine ⟨⟨_, blk_set hcs1 _ _, by simp [hsz], ?_, fun i hi => ?_, ?_, ?_, ?_, ?_⟩, ?_, fun j hj => ?_, ?_, ?_, h.hp0, h.hq0⟩
  · rw [g, if_neg (by omega)]; exact h0
  · obtain ⟨a, b, c, d, e⟩ := hc i hi
    refine ⟨?_, ?_, ?_, ?_, ?_⟩
    · unfold upd
      by_cases hic : i = ch
      · rw [g, if_pos (by omega), if_pos hic]
      · rw [g, if_neg (by omega), if_neg hic]; exact a
    · rw [g, if_neg (by omega)]; exact b
    · rw [g, if_neg (by omega)]; unfold upd; rw [if_neg (by omega)]; exact c
    · rw [g, if_neg (by omega)]; exact d
    · rw [g, if_neg (by omega)]; exact e
  · rw [g, if_neg (by omega)]; exact h41
  · rw [g, if_neg (by omega)]; unfold upd; rw [if_neg (by omega)]; exact h42
  · rw [g, if_neg (by omega)]; exact h43
  · rw [g, if_neg (by omega)]; exact h44
  · have h17 : upd vs ch v1 17 = vs 17 := if_neg (by omega)
    rw [h17]
    exact (far q h.p_ne).trans ((hg.block q (blk_lt h.hQ) hqo).trans h.hQ)
  · by_cases hjc : j = ch
    · subst hjc
      have : Mx.row { M with sent := upd M.sent j L1 } j = L1 := by
        unfold Mx.row upd; dsimp only; rw [if_pos hch, if_pos rfl]
      rw [this]
      unfold upd
      rw [if_pos rfl]
      exact hT.kept (fun k hk => far k (hv1 k hk))
    · have : Mx.row { M with sent := upd M.sent ch L1 } j = M.row j := by
        unfold Mx.row upd; dsimp only; rw [if_neg hjc]
      rw [this]
      unfold upd
      rw [if_neg hjc]
      exact (h.hT j hj).kept (fun k hk => (far k (h.ne_p j hj k hk).1).trans (hg.block k ((h.hT j hj).lt k hk) (other j (by omega) hjc k hk)))
  · have h17 : upd vs ch v1 17 = vs 17 := if_neg (by omega)
    rw [h17]
    have hE : (Kd.int .u8).E = [] := rfl
    have h2 := Kd.R_types (Kd.R_tight2 hE h.hS) hcs (fun z hz => by rw [hE] at hz; rw [List.mem_singleton.1 hz]; decide)
    refine Kd.R_mono (Kd.R_step h2 (fun k hk hlt => (far k hk.2).trans (hg.block k hlt (other 17 (by omega) (by omega) k hk.1.1.symm)))) (fun _ _ => trivial)
  · intro i j hi hj hij k hk
    have fresh : ∀ i, i < 18 → i ≠ ch → (vs i).ownBlock = some k → v1.ownBlock ≠ some k := fun i hi hic hk e => by
      rcases ho with ho | ⟨b, hb, hle⟩
      · exact h.apart i ch hi (by omega) hic k hk (by rw [← ho]; exact e)
      · rw [hb] at e
        cases e
        rcases Nat.lt_or_ge i 17 with h17 | h17
        · have := (h.hT i h17).lt k hk
          omega
        · have h18 : i = 17 := by omega
          rw [h18] at hk
          have := (Kd.R_bound h.hS).1 k hk
          omega
    unfold upd at hk ⊢
    by_cases e1 : i = ch
    · rw [if_pos e1] at hk
      rw [if_neg (by omega)]
      intro e2
      exact fresh j hj (by omega) e2 hk
    · rw [if_neg e1] at hk
      by_cases e2 : j = ch
      · rw [if_pos e2]; exact fresh i hi e1 hk
      · rw [if_neg e2]; exact h.apart i j hi hj hij k hk
theorem Mm.putWay {b0 p q : Nat} {vs : Nat → Value} {M : Mx} {w : World} (h : Mm b0 p q vs M w) (ch : Nat) (hch : ch < 8) (u : Int) : Mm b0 p q vs { M with way := upd M.way ch u } (w.setCell ⟨p, 1 + ch * 5 + 1, none⟩ (.int .i64 u)) := by
  obtain ⟨cs, hcs, hsz, h0, hc, h41, h42, h43, h44⟩ := h.hP
  have g : ∀ j, (cs.setIfInBounds (1 + ch * 5 + 1) (.int .i64 u))[j]? = if 1 + ch * 5 + 1 = j then some (.int .i64 u) else cs[j]? := fun j => set_get (by omega)
  have far : ∀ k, k ≠ p → (w.setCell ⟨p, 1 + ch * 5 + 1, none⟩ (.int .i64 u)).heap[k]? = w.heap[k]? := fun k hk => Below.heap_setCell w ⟨p, _, none⟩ _ k hk
  refine ⟨⟨_, blk_set hcs _ _, by simp [hsz], ?_, fun i hi => ?_, ?_, ?_, ?_, ?_⟩, (far q h.p_ne).trans h.hQ, fun j hj => (h.hT j hj).kept (fun k hk => far k (h.ne_p j hj k hk).1), ?_, h.apart, h.hp0, h.hq0⟩
  · rw [g, if_neg (by omega)]; exact h0
  · obtain ⟨a, b, c, d, e⟩ := hc i hi
    refine ⟨?_, ?_, ?_, ?_, ?_⟩
    · rw [g, if_neg (by omega)]; exact a
    · unfold upd; dsimp only
      by_cases hic : i = ch
      · rw [g, if_pos (by omega), if_pos hic]
      · rw [g, if_neg (by omega), if_neg hic]; exact b
    · rw [g, if_neg (by omega)]; exact c
    · rw [g, if_neg (by omega)]; exact d
    · rw [g, if_neg (by omega)]; exact e
  · rw [g, if_neg (by omega)]; exact h41
  · rw [g, if_neg (by omega)]; exact h42
  · rw [g, if_neg (by omega)]; exact h43
  · rw [g, if_neg (by omega)]; exact h44
  · have hE : (Kd.int .u8).E = [] := rfl
    exact Kd.R_mono (Kd.R_step (Kd.R_types h.hS hcs (fun z hz => by rw [hE] at hz; rw [List.mem_singleton.1 hz]; decide)) (fun k hk _ => far k hk.2)) (fun _ _ => trivial)
theorem Mm.putOwed {b0 p q : Nat} {vs : Nat → Value} {M : Mx} {w : World} (h : Mm b0 p q vs M w) (ch : Nat) (hch : ch < 8) (u : Int) : Mm b0 p q vs { M with owed := upd M.owed ch u } (w.setCell ⟨p, 1 + ch * 5 + 3, none⟩ (.int .i64 u)) := by
  obtain ⟨cs, hcs, hsz, h0, hc, h41, h42, h43, h44⟩ := h.hP
  have g : ∀ j, (cs.setIfInBounds (1 + ch * 5 + 3) (.int .i64 u))[j]? = if 1 + ch * 5 + 3 = j then some (.int .i64 u) else cs[j]? := fun j => set_get (by omega)
  have far : ∀ k, k ≠ p → (w.setCell ⟨p, 1 + ch * 5 + 3, none⟩ (.int .i64 u)).heap[k]? = w.heap[k]? := fun k hk => Below.heap_setCell w ⟨p, _, none⟩ _ k hk
  refine ⟨⟨_, blk_set hcs _ _, by simp [hsz], ?_, fun i hi => ?_, ?_, ?_, ?_, ?_⟩, (far q h.p_ne).trans h.hQ, fun j hj => (h.hT j hj).kept (fun k hk => far k (h.ne_p j hj k hk).1), ?_, h.apart, h.hp0, h.hq0⟩
  · rw [g, if_neg (by omega)]; exact h0
  · obtain ⟨a, b, c, d, e⟩ := hc i hi
    refine ⟨?_, ?_, ?_, ?_, ?_⟩
    · rw [g, if_neg (by omega)]; exact a
    · rw [g, if_neg (by omega)]; exact b
    · rw [g, if_neg (by omega)]; exact c
    · unfold upd; dsimp only
      by_cases hic : i = ch
      · rw [g, if_pos (by omega), if_pos hic]
      · rw [g, if_neg (by omega), if_neg hic]; exact d
    · rw [g, if_neg (by omega)]; exact e
  · rw [g, if_neg (by omega)]; exact h41
  · rw [g, if_neg (by omega)]; exact h42
  · rw [g, if_neg (by omega)]; exact h43
  · rw [g, if_neg (by omega)]; exact h44
  · have hE : (Kd.int .u8).E = [] := rfl
    exact Kd.R_mono (Kd.R_step (Kd.R_types h.hS hcs (fun z hz => by rw [hE] at hz; rw [List.mem_singleton.1 hz]; decide)) (fun k hk _ => far k hk.2)) (fun _ _ => trivial)
theorem Mm.putBack {b0 p q : Nat} {vs : Nat → Value} {M : Mx} {w : World} (h : Mm b0 p q vs M w) (ch : Nat) (hch : ch < 8) (u : Int) : Mm b0 p q vs { M with back := upd M.back ch u } (w.setCell ⟨p, 1 + ch * 5 + 4, none⟩ (.int .i64 u)) := by
  obtain ⟨cs, hcs, hsz, h0, hc, h41, h42, h43, h44⟩ := h.hP
  have g : ∀ j, (cs.setIfInBounds (1 + ch * 5 + 4) (.int .i64 u))[j]? = if 1 + ch * 5 + 4 = j then some (.int .i64 u) else cs[j]? := fun j => set_get (by omega)
  have far : ∀ k, k ≠ p → (w.setCell ⟨p, 1 + ch * 5 + 4, none⟩ (.int .i64 u)).heap[k]? = w.heap[k]? := fun k hk => Below.heap_setCell w ⟨p, _, none⟩ _ k hk
  refine ⟨⟨_, blk_set hcs _ _, by simp [hsz], ?_, fun i hi => ?_, ?_, ?_, ?_, ?_⟩, (far q h.p_ne).trans h.hQ, fun j hj => (h.hT j hj).kept (fun k hk => far k (h.ne_p j hj k hk).1), ?_, h.apart, h.hp0, h.hq0⟩
  · rw [g, if_neg (by omega)]; exact h0
  · obtain ⟨a, b, c, d, e⟩ := hc i hi
    refine ⟨?_, ?_, ?_, ?_, ?_⟩
    · rw [g, if_neg (by omega)]; exact a
    · rw [g, if_neg (by omega)]; exact b
    · rw [g, if_neg (by omega)]; exact c
    · rw [g, if_neg (by omega)]; exact d
    · unfold upd; dsimp only
      by_cases hic : i = ch
      · rw [g, if_pos (by omega), if_pos hic]
      · rw [g, if_neg (by omega), if_neg hic]; exact e
  · rw [g, if_neg (by omega)]; exact h41
  · rw [g, if_neg (by omega)]; exact h42
  · rw [g, if_neg (by omega)]; exact h43
  · rw [g, if_neg (by omega)]; exact h44
  · have hE : (Kd.int .u8).E = [] := rfl
    exact Kd.R_mono (Kd.R_step (Kd.R_types h.hS hcs (fun z hz => by rw [hE] at hz; rw [List.mem_singleton.1 hz]; decide)) (fun k hk _ => far k hk.2)) (fun _ _ => trivial)
theorem mux_Send.nil (ch : Int) (A : Option Addr) (m c : Nat) (w : World) : Calls Tryd.prog 16 #[.pointer none, .int .i64 ch, .slice A m c] w fun e w' => e = .returned (.int .i64 1) ∧ w' = w := by
  go_enter Tryd.func16, Tryd.ntmps16
  go_wp2_with fail
  refine (mux_of.nil ch w).mono ?_
  rintro e w1 ⟨rfl, rfl⟩
  go_wp2
  go_ret
  exact ⟨rfl, rfl⟩
theorem mux_of.any (p : Nat) (ch : Int) (w : World) : ∃ v, (v = .pointer none ∨ ∃ o, v = .pointer (some ⟨p, o, none⟩)) ∧ Calls Tryd.prog 30 #[.pointer (some ⟨p, 0, none⟩), .int .i64 ch] w fun e w' => e = .returned v ∧ w' = w := by
  by_cases h : 0 ≤ ch ∧ ch < 8
  · obtain ⟨n, hn⟩ : ∃ n : Nat, ch = n := ⟨ch.toNat, by omega⟩
    subst hn
    exact ⟨_, .inr ⟨_, rfl⟩, mux_of.at_ p n w (by omega)⟩
  · exact ⟨_, .inl rfl, mux_of.out p ch w (by rw [Bool.or_eq_true, decide_eq_true_eq, decide_eq_true_eq]; omega)⟩
theorem mux_Send.bad {b0 p q : Nat} {vs : Nat → Value} {M : Mx} (ch : Int) (A : Option Addr) (m c : Nat) (w : World) (h : Mm b0 p q vs M w) (he : M.e ≠ 0) : Calls Tryd.prog 16 #[.pointer (some ⟨p, 0, none⟩), .int .i64 ch, .slice A m c] w fun e w' => e = .returned (.int .i64 M.e) ∧ w' = w := by
  obtain ⟨v, hv, hO⟩ := mux_of.any p ch w
  have HO := Aside0.mk hO
  obtain ⟨_, _, _, _, c4⟩ := h.cells
  have hne : (M.e != 0) = true := bne_iff_ne.mpr he
  clear h he hO hv
  go_enter Tryd.func16, Tryd.ntmps16
  go_wp2_with fail
  refine HO.out.mono ?_
  rintro e w1 ⟨rfl, rfl⟩
  go_wp2
  go_ret
  exact ⟨rfl, rfl⟩
theorem mux_Send.out {b0 p q : Nat} {vs : Nat → Value} {M : Mx} (ch : Int) (A : Option Addr) (m c : Nat) (w : World) (h : Mm b0 p q vs M w) (he : M.e = 0) (hch : (decide (ch < 0) || decide (ch ≥ 8)) = true) : Calls Tryd.prog 16 #[.pointer (some ⟨p, 0, none⟩), .int .i64 ch, .slice A m c] w fun e w' => e = .returned (.int .i64 2) ∧ w' = w := by
  have HO := Aside0.mk (mux_of.out p ch w hch)
  obtain ⟨_, _, _, _, c4⟩ := h.cells
  rw [he] at c4
  clear h he hch
  go_enter Tryd.func16, Tryd.ntmps16
  go_wp2_with fail
  refine HO.out.mono ?_
  rintro e w1 ⟨rfl, rfl⟩
  go_wp2
  go_ret
  exact ⟨rfl, rfl⟩
theorem mux_Send.full {b0 p q : Nat} {vs : Nat → Value} {M : Mx} (ch : Nat) (hch : ch < 8) (A : Option Addr) (m c : Nat) (w : World) (h : Mm b0 p q vs M w) (he : M.e = 0) (hf : decide ((m : Int) > wrap64 (M.win - M.way ch)) = true) : Calls Tryd.prog 16 #[.pointer (some ⟨p, 0, none⟩), .int .i64 ch, .slice A m c] w fun e w' => e = .returned (.int .i64 8) ∧ Below w.heap.size w w' := by
  have HO := Aside0.mk (mux_of.at_ p ch w hch)
  obtain ⟨c0, _, _, _, c4⟩ := h.cells
  obtain ⟨_, d1, _⟩ := h.chan ch hch
  have hf' : decide (wrap64 (M.win - M.way ch) < (m : Int)) = true := hf
  rw [he] at c4
  clear h he hch
  go_enter Tryd.func16, Tryd.ntmps16
  go_wp2_with fail
  refine HO.out.mono ?_
  rintro e w1 ⟨rfl, rfl⟩
  go_wp2
  all_goals (try go_region)
  all_goals (try go_wp2)
  all_goals go_ret
  all_goals exact ⟨rfl, below_drew (Below.refl _ _)⟩
/-- A mux's blocks. -/
def Mf (p q : Nat) (vs : Nat → Value) (k : Nat) : Prop := k = p ∨ k = q ∨ ∃ i, i < 18 ∧ (vs i).ownBlock = some k
/-- From w to w': only blocks of F changed; the blocks of F' are blocks of F, or new. -/
structure Stp (F F' : Nat → Prop) (w w' : World) : Prop where
  os : w'.os = w.os
  tape : w'.tape = w.tape
  output : w'.output = w.output
  size : w.heap.size ≤ w'.heap.size
  block : ∀ k, k < w.heap.size → ¬ F k → w'.heap[k]? = w.heap[k]?
  foot : ∀ k, F' k → F k ∨ w.heap.size ≤ k
theorem Stp.of_below {F : Nat → Prop} {w w' : World} (h : Below w.heap.size w w') : Stp F F w w' := ⟨h.os, h.tape, h.output, h.size, fun k hk _ => h.block k hk, fun _ hk => .inl hk⟩
theorem Stp.refl (F : Nat → Prop) (w : World) : Stp F F w w := .of_below (Below.refl _ _)
theorem Stp.trans {F G H : Nat → Prop} {a b c : World} (h : Stp F G a b) (k : Stp G H b c) : Stp F H a c :=
  ⟨k.os.trans h.os, k.tape.trans h.tape, k.output.trans h.output, Nat.le_trans h.size k.size,
    fun i hi hF => (k.block i (Nat.lt_of_lt_of_le hi h.size) (fun hG => (h.foot i hG).elim hF (fun hle => absurd hi (Nat.not_lt.2 hle)))).trans (h.block i hi hF),
    fun i hi => (k.foot i hi).elim (h.foot i) (fun hle => .inr (Nat.le_trans h.size hle))⟩
theorem Stp.shrink {F G H : Nat → Prop} {a b : World} (h : Stp F G a b) (k : ∀ i, H i → G i) : Stp F H a b := ⟨h.os, h.tape, h.output, h.size, h.block, fun i hi => h.foot i (k i hi)⟩
theorem Stp.wider {F G H : Nat → Prop} {a b : World} (h : Stp F G a b) (k : ∀ i, F i → H i) : Stp H G a b := ⟨h.os, h.tape, h.output, h.size, fun i hi hn => h.block i hi (fun hF => hn (k i hF)), fun i hi => (h.foot i hi).elim (fun hF => .inl (k i hF)) .inr⟩
theorem Stp.below {F G : Nat → Prop} {a b : World} (h : Stp F G a b) (b0 : Nat) (hF : ∀ k, F k → b0 ≤ k) (hb : b0 ≤ a.heap.size) : Below b0 a b :=
  ⟨h.os, h.tape, h.output, h.size, fun k hk => h.block k (Nat.lt_of_lt_of_le hk hb) (fun hk2 => absurd hk (Nat.not_lt.2 (hF k hk2)))⟩
theorem Stp.set {F : Nat → Prop} {w : World} (a : Addr) (u : Value) (h : F a.block) : Stp F F w (w.setCell a u) :=
  ⟨rfl, rfl, rfl, by simp [World.setCell], fun k _ hk => Below.heap_setCell w a u k (fun e => hk (e ▸ h)), fun _ hk => .inl hk⟩
theorem Stp.grown {F G : Nat → Prop} {w w' : World} {row : Option Nat} (h : w.grownBy w' row) (hr : ∀ k, row = some k → F k) (hf : ∀ k, G k → F k ∨ w.heap.size ≤ k) : Stp F G w w' :=
  ⟨h.os, h.tape, h.output, h.size, fun k hk hn => h.block k hk (fun e => hn (hr k e.symm)), hf⟩
theorem Mf.ofUpd {p q : Nat} {vs : Nat → Value} {i : Nat} {v : Value} {k : Nat} (h : Mf p q (upd vs i v) k) : Mf p q vs k ∨ v.ownBlock = some k := by
  rcases h with h | h | ⟨j, hj, h⟩
  · exact .inl (.inl h)
  · exact .inl (.inr (.inl h))
  · unfold upd at h
    by_cases e : j = i
    · rw [if_pos e] at h; exact .inr h
    · rw [if_neg e] at h; exact .inl (.inr (.inr ⟨j, hj, h⟩))
theorem Mf.nil {p q : Nat} {vs : Nat → Value} {i : Nat} {k : Nat} (h : Mf p q (upd vs i (.slice none 0 0)) k) : Mf p q vs k := by
  rcases h.ofUpd with h | h
  · exact h
  · cases h
theorem Mf.row {p q : Nat} {vs : Nat → Value} {i k : Nat} (hi : i < 18) (h : (vs i).ownBlock = some k) : Mf p q vs k := .inr (.inr ⟨i, hi, h⟩)
theorem Tb.base {w : World} {b0 : Nat} {v : Value} {L : List Int} (h : Tb w b0 v L) (k : Nat) (hk : v.ownBlock = some k) : b0 ≤ k := by
  rcases h.1 with ⟨rfl, _⟩ | ⟨g, off, cap, cur, rfl, h1, h2, _⟩
  · cases hk
  · cases hk
    exact h1
theorem Mm.foot {b0 p q : Nat} {vs : Nat → Value} {M : Mx} {w : World} (h : Mm b0 p q vs M w) (k : Nat) (hk : Mf p q vs k) : b0 ≤ k ∧ k < w.heap.size := by
  obtain ⟨cs, hcs, _⟩ := h.hP
  rcases hk with rfl | rfl | ⟨i, hi, hk⟩
  · exact ⟨h.hp0, blk_lt hcs⟩
  · exact ⟨h.hq0, blk_lt h.hQ⟩
  · rcases Nat.lt_or_ge i 17 with h17 | h17
    · exact ⟨(h.hT i h17).base k hk, (h.hT i h17).lt k hk⟩
    · have : i = 17 := by omega
      subst this
      exact ⟨Kd.R_base h.hS k hk, Kd.R_lt h.hS k hk⟩
/-- What changes none of its blocks leaves a mux as it is. -/
theorem Mm.kept {b0 p q : Nat} {vs : Nat → Value} {M : Mx} {w w' : World} (h : Mm b0 p q vs M w) (hb : ∀ k, Mf p q vs k → w'.heap[k]? = w.heap[k]?) : Mm b0 p q vs M w' := by
  obtain ⟨cs, hcs, hrest⟩ := h.hP
  refine ⟨⟨cs, (hb p (.inl rfl)).trans hcs, hrest⟩, (hb q (.inr (.inl rfl))).trans h.hQ, fun j hj => (h.hT j hj).kept (fun k hk => hb k (Mf.row (by omega) hk)), ?_, h.apart, h.hp0, h.hq0⟩
  have hE : (Kd.int .u8).E = [] := rfl
  exact Kd.R_mono (Kd.R_step (Kd.R_tight2 hE h.hS) (fun k hk _ => hb k (Mf.row (i := 17) (by omega) hk.1.symm))) (fun _ _ => trivial)
/-- .. and so does a step of other blocks. -/
theorem Mm.past {b0 p q : Nat} {vs : Nat → Value} {M : Mx} {w w' : World} {F G : Nat → Prop} (h : Mm b0 p q vs M w) (hs : Stp F G w w') (hd : ∀ k, Mf p q vs k → ¬ F k) : Mm b0 p q vs M w' := h.kept (fun k hk => hs.block k (h.foot k hk).2 (hd k hk))
/-- Where a mux's row lies among its cells. -/
def loc (i : Nat) : Nat := if i < 8 then 1 + i * 5 else if i < 16 then 1 + (i - 8) * 5 + 2 else 42
def Mx.putRow (M : Mx) (i : Nat) (L : List Int) : Mx := if i < 8 then { M with sent := upd M.sent i L } else if i < 16 then { M with held := upd M.held (i - 8) L } else { M with out := L }
theorem Mx.putRow_same (M : Mx) (i : Nat) (hi : i < 17) (L : List Int) : (M.putRow i L).row i = L := by
  unfold Mx.putRow Mx.row upd
  by_cases h1 : i < 8
  · simp only [h1, if_true]
  · by_cases h2 : i < 16
    · simp only [h1, h2, if_true, if_false]
    · simp only [h1, h2, if_false]
theorem Mx.putRow_other (M : Mx) (i j : Nat) (hi : i < 17) (hj : j < 17) (L : List Int) (hij : j ≠ i) : (M.putRow i L).row j = M.row j := by
  unfold Mx.putRow Mx.row upd
  by_cases h1 : i < 8
  · simp only [h1, if_true, if_neg hij]
  · by_cases h2 : i < 16
    · simp only [h1, h2, if_true, if_false]
      by_cases h3 : j < 8
      · simp only [h3, if_true]
      · simp only [h3, if_false, if_neg (show ¬ (j - 8 = i - 8) by omega)]
    · simp only [h1, h2, if_false]
      by_cases h3 : j < 8
      · simp only [h3, if_true]
      · simp only [h3, if_false, if_pos (show j < 16 by omega)]
theorem Mx.putRow_plain (M : Mx) (i : Nat) (L : List Int) : (M.putRow i L).win = M.win ∧ (M.putRow i L).way = M.way ∧ (M.putRow i L).owed = M.owed ∧ (M.putRow i L).back = M.back ∧ (M.putRow i L).last = M.last ∧ (M.putRow i L).L = M.L ∧ (M.putRow i L).x = M.x ∧ (M.putRow i L).e = M.e := by
  unfold Mx.putRow
  split
  · exact ⟨rfl, rfl, rfl, rfl, rfl, rfl, rfl, rfl⟩
  · split <;> exact ⟨rfl, rfl, rfl, rfl, rfl, rfl, rfl, rfl⟩
theorem Mm.rows {b0 p q : Nat} {vs : Nat → Value} {M : Mx} {w : World} (h : Mm b0 p q vs M w) : ∃ cs : Array Value, w.heap[p]? = some (.cells cs 64 (0, 0)) ∧ cs.size = 45 ∧ cs[0]? = some (.int .i64 M.win) ∧ (∀ j, j < 17 → cs[loc j]? = some (vs j)) ∧
    (∀ i, i < 8 → cs[1 + i * 5 + 1]? = some (.int .i64 (M.way i)) ∧ cs[1 + i * 5 + 3]? = some (.int .i64 (M.owed i)) ∧ cs[1 + i * 5 + 4]? = some (.int .i64 (M.back i))) ∧ cs[41]? = some (.int .i64 M.last) ∧ cs[43]? = some (.pointer (some ⟨q, 0, none⟩)) ∧ cs[44]? = some (.int .i64 M.e) := by
  obtain ⟨cs, hcs, hsz, h0, hc, h41, h42, h43, h44⟩ := h.hP
  refine ⟨cs, hcs, hsz, h0, fun j hj => ?_, fun i hi => ⟨(hc i hi).2.1, (hc i hi).2.2.2.1, (hc i hi).2.2.2.2⟩, h41, h43, h44⟩
  unfold loc
  by_cases h1 : j < 8
  · rw [if_pos h1]; exact (hc j h1).1
  · rw [if_neg h1]
    by_cases h2 : j < 16
    · rw [if_pos h2]
      have := (hc (j - 8) (by omega)).2.2.1
      rwa [show 8 + (j - 8) = j by omega] at this
    · rw [if_neg h2, show j = 16 by omega]; exact h42
theorem Mm.of_rows {b0 p q : Nat} {vs : Nat → Value} {M : Mx} {w : World} (cs : Array Value) (hcs : w.heap[p]? = some (.cells cs 64 (0, 0))) (hsz : cs.size = 45) (h0 : cs[0]? = some (.int .i64 M.win)) (hr : ∀ j, j < 17 → cs[loc j]? = some (vs j))
    (hc : ∀ i, i < 8 → cs[1 + i * 5 + 1]? = some (.int .i64 (M.way i)) ∧ cs[1 + i * 5 + 3]? = some (.int .i64 (M.owed i)) ∧ cs[1 + i * 5 + 4]? = some (.int .i64 (M.back i))) (h41 : cs[41]? = some (.int .i64 M.last)) (h43 : cs[43]? = some (.pointer (some ⟨q, 0, none⟩))) (h44 : cs[44]? = some (.int .i64 M.e))
    (hQ : w.heap[q]? = some (.cells #[vs 17, .int .i64 M.x] 98 (0, 0))) (hT : ∀ j, j < 17 → Tb w b0 (vs j) (M.row j)) (hS : Kd.R (Kd.int .u8) 5 w b0 (fun _ => True) (vs 17) M.L)
    (ha : ∀ i j, i < 18 → j < 18 → i ≠ j → ∀ k, (vs i).ownBlock = some k → (vs j).ownBlock ≠ some k) (hp0 : b0 ≤ p) (hq0 : b0 ≤ q) : Mm b0 p q vs M w := by
  refine ⟨⟨cs, hcs, hsz, h0, fun i hi => ?_, h41, ?_, h43, h44⟩, hQ, hT, hS, ha, hp0, hq0⟩
  · obtain ⟨a, b, c⟩ := hc i hi
    have r1 := hr i (by omega)
    have r2 := hr (8 + i) (by omega)
    unfold loc at r1 r2
    rw [if_pos hi] at r1
    rw [if_neg (by omega), if_pos (by omega), show 8 + i - 8 = i by omega] at r2
    exact ⟨r1, a, r2, b, c⟩
  · have := hr 16 (by omega)
    unfold loc at this
    rwa [if_neg (by omega), if_neg (by omega)] at this
theorem loc_lt (i : Nat) (hi : i < 17) : loc i < 45 := by unfold loc; split <;> (try split) <;> omega
theorem loc_ne (i j : Nat) (hi : i < 17) (hj : j < 17) (h : i ≠ j) : loc i ≠ loc j := by unfold loc; split <;> split <;> (try split) <;> (try split) <;> omega
theorem loc_plain (i : Nat) (hi : i < 17) : loc i ≠ 0 ∧ loc i ≠ 41 ∧ loc i ≠ 43 ∧ loc i ≠ 44 ∧ ∀ j, j < 8 → loc i ≠ 1 + j * 5 + 1 ∧ loc i ≠ 1 + j * 5 + 3 ∧ loc i ≠ 1 + j * 5 + 4 := by
  unfold loc
  split
  · exact ⟨by omega, by omega, by omega, by omega, fun j hj => ⟨by omega, by omega, by omega⟩⟩
  · split <;> exact ⟨by omega, by omega, by omega, by omega, fun j hj => ⟨by omega, by omega, by omega⟩⟩
theorem Mm.row_at {b0 p q : Nat} {vs : Nat → Value} {M : Mx} {w : World} (h : Mm b0 p q vs M w) (i : Nat) (hi : i < 17) : w.cell? ⟨p, loc i, none⟩ = some (vs i) := by
  obtain ⟨cs, hcs, _, _, hr, _⟩ := h.rows
  exact (blk_cell hcs _).trans (hr i hi)
/-- A row of a mux is stored: one that came of an append to the elder one, or a cut of it, or a new one. -/
theorem Mm.putRow {b0 p q : Nat} {vs : Nat → Value} {M : Mx} {w w1 : World} (h : Mm b0 p q vs M w) (i : Nat) (hi : i < 17) (v1 : Value) (L1 : List Int) (hT : Tb w1 b0 v1 L1) (hg : w.grownBy w1 (vs i).ownBlock) (ho : v1.ownBlock = none ∨ v1.ownBlock = (vs i).ownBlock ∨ ∃ b, v1.ownBlock = some b ∧ w.heap.size ≤ b) :
    Mm b0 p q (upd vs i v1) (M.putRow i L1) (w1.setCell ⟨p, loc i, none⟩ v1) := by
  obtain ⟨cs, hcs, hsz, h0, hr, hc, h41, h43, h44⟩ := h.rows
  have hpo : some p ≠ (vs i).ownBlock := fun e => (h.ne_p i hi p e.symm).1 rfl
  have hqo : some q ≠ (vs i).ownBlock := fun e => (h.ne_p i hi q e.symm).2 rfl
  have hcs1 := (hg.block p (blk_lt hcs) hpo).trans hcs
  have hv1 : ∀ k, v1.ownBlock = some k → k ≠ p := fun k hk => by
    rcases ho with ho | ho | ⟨b, hb, hle⟩
    · rw [ho] at hk; cases hk
    · exact (h.ne_p i hi k (by rw [← ho]; exact hk)).1
    · rw [hb] at hk
      cases hk
      have := blk_lt hcs
      omega
  have hll := loc_lt i hi
  have g : ∀ j, (cs.setIfInBounds (loc i) v1)[j]? = if loc i = j then some v1 else cs[j]? := fun j => set_get (by omega)
  have far : ∀ k, k ≠ p → (w1.setCell ⟨p, loc i, none⟩ v1).heap[k]? = w1.heap[k]? := fun k hk => Below.heap_setCell w1 ⟨p, _, none⟩ _ k hk
  have other : ∀ j, j < 18 → j ≠ i → ∀ k, (vs j).ownBlock = some k → some k ≠ (vs i).ownBlock := fun j hj hjc k hk e => h.apart j i hj (by omega) hjc k hk e.symm
  obtain ⟨l0, l41, l43, l44, lc⟩ := loc_plain i hi
  obtain ⟨p0, p1, p2, p3, p4, p5, p6, p7⟩ := M.putRow_plain i L1
  refine Mm.of_rows _ (blk_set hcs1 _ _) (by simp [hsz]) ?_ (fun j hj => ?_) (fun j hj => ?_) ?_ ?_ ?_ ?_ (fun j hj => ?_) ?_ ?_ h.hp0 h.hq0
  · rw [g, if_neg l0, p0]; exact h0
  · unfold upd
    by_cases hji : j = i
    · subst hji; rw [g, if_pos rfl, if_pos rfl]
    · rw [g, if_neg (loc_ne i j hi hj (Ne.symm hji)), if_neg hji]; exact hr j hj
  · obtain ⟨a, b, c⟩ := hc j hj
    obtain ⟨n1, n2, n3⟩ := lc j hj
    rw [p1, p2, p3]
    exact ⟨by rw [g, if_neg n1]; exact a, by rw [g, if_neg n2]; exact b, by rw [g, if_neg n3]; exact c⟩
  · rw [g, if_neg l41, p4]; exact h41
  · rw [g, if_neg l43]; exact h43
  · rw [g, if_neg l44, p7]; exact h44
  · have h17 : upd vs i v1 17 = vs 17 := if_neg (by omega)
    rw [h17, p6]
    exact (far q h.p_ne).trans ((hg.block q (blk_lt h.hQ) hqo).trans h.hQ)
  · by_cases hji : j = i
    · subst hji
      rw [M.putRow_same j hj]
      unfold upd
      rw [if_pos rfl]
      exact hT.kept (fun k hk => far k (hv1 k hk))
    · rw [M.putRow_other i j hi hj L1 hji]
      unfold upd
      rw [if_neg hji]
      exact (h.hT j hj).kept (fun k hk => (far k (h.ne_p j hj k hk).1).trans (hg.block k ((h.hT j hj).lt k hk) (other j (by omega) hji k hk)))
  · have h17 : upd vs i v1 17 = vs 17 := if_neg (by omega)
    rw [h17, p5]
    have hE : (Kd.int .u8).E = [] := rfl
    have h2 := Kd.R_types (Kd.R_tight2 hE h.hS) hcs (fun z hz => by rw [hE] at hz; rw [List.mem_singleton.1 hz]; decide)
    refine Kd.R_mono (Kd.R_step h2 (fun k hk hlt => (far k hk.2).trans (hg.block k hlt (other 17 (by omega) (by omega) k hk.1.1.symm)))) (fun _ _ => trivial)
  · intro a b ha hb hab k hk
    have fresh : ∀ a, a < 18 → a ≠ i → (vs a).ownBlock = some k → v1.ownBlock ≠ some k := fun a ha hai hk e => by
      rcases ho with ho | ho | ⟨b, hb, hle⟩
      · rw [ho] at e; cases e
      · exact h.apart a i ha (by omega) hai k hk (by rw [← ho]; exact e)
      · rw [hb] at e
        cases e
        rcases Nat.lt_or_ge a 17 with h17 | h17
        · have := (h.hT a h17).lt k hk
          omega
        · have h18 : a = 17 := by omega
          rw [h18] at hk
          have := (Kd.R_bound h.hS).1 k hk
          omega
    unfold upd at hk ⊢
    by_cases e1 : a = i
    · rw [if_pos e1] at hk
      rw [if_neg (by omega)]
      intro e2
      exact fresh b hb (by omega) e2 hk
    · rw [if_neg e1] at hk
      by_cases e2 : b = i
      · rw [if_pos e2]; exact fresh a ha e1 hk
      · rw [if_neg e2]; exact h.apart a b ha hb hab k hk
/-- A plain cell of a mux is stored. -/
theorem Mm.putCell {b0 p q : Nat} {vs : Nat → Value} {M M' : Mx} {w : World} (h : Mm b0 p q vs M w) (o : Nat) (u : Value) (ho : ∀ j, j < 17 → loc j ≠ o) (ho3 : o ≠ 43) (hM : ∀ cs : Array Value, cs.size = 45 → (∀ j, (cs.setIfInBounds o u)[j]? = if o = j then some u else cs[j]?) → cs[0]? = some (.int .i64 M.win) →
      (∀ i, i < 8 → cs[1 + i * 5 + 1]? = some (.int .i64 (M.way i)) ∧ cs[1 + i * 5 + 3]? = some (.int .i64 (M.owed i)) ∧ cs[1 + i * 5 + 4]? = some (.int .i64 (M.back i))) → cs[41]? = some (.int .i64 M.last) → cs[44]? = some (.int .i64 M.e) →
      (cs.setIfInBounds o u)[0]? = some (.int .i64 M'.win) ∧ (∀ i, i < 8 → (cs.setIfInBounds o u)[1 + i * 5 + 1]? = some (.int .i64 (M'.way i)) ∧ (cs.setIfInBounds o u)[1 + i * 5 + 3]? = some (.int .i64 (M'.owed i)) ∧ (cs.setIfInBounds o u)[1 + i * 5 + 4]? = some (.int .i64 (M'.back i))) ∧ (cs.setIfInBounds o u)[41]? = some (.int .i64 M'.last) ∧ (cs.setIfInBounds o u)[44]? = some (.int .i64 M'.e))
    (hlt : o < 45) (hr : ∀ j, j < 17 → M'.row j = M.row j) (hL : M'.L = M.L) (hx : M'.x = M.x) : Mm b0 p q vs M' (w.setCell ⟨p, o, none⟩ u) := by
  obtain ⟨cs, hcs, hsz, h0, hrr, hc, h41, h43, h44⟩ := h.rows
  have g : ∀ j, (cs.setIfInBounds o u)[j]? = if o = j then some u else cs[j]? := fun j => set_get (by omega)
  have far : ∀ k, k ≠ p → (w.setCell ⟨p, o, none⟩ u).heap[k]? = w.heap[k]? := fun k hk => Below.heap_setCell w ⟨p, _, none⟩ _ k hk
  obtain ⟨a0, ac, a41, a44⟩ := hM cs hsz g h0 hc h41 h44
  refine Mm.of_rows _ (blk_set hcs _ _) (by simp [hsz]) a0 (fun j hj => by rw [g, if_neg (Ne.symm (ho j hj))]; exact hrr j hj) ac a41 (by rw [g, if_neg ho3]; exact h43) a44 (by rw [hx]; exact (far q h.p_ne).trans h.hQ) (fun j hj => by rw [hr j hj]; exact (h.hT j hj).kept (fun k hk => far k (h.ne_p j hj k hk).1)) ?_ h.apart h.hp0 h.hq0
  rw [hL]
  have hE : (Kd.int .u8).E = [] := rfl
  exact Kd.R_mono (Kd.R_step (Kd.R_types h.hS hcs (fun z hz => by rw [hE] at hz; rw [List.mem_singleton.1 hz]; decide)) (fun k hk _ => far k hk.2)) (fun _ _ => trivial)
theorem Mm.putLast {b0 p q : Nat} {vs : Nat → Value} {M : Mx} {w : World} (h : Mm b0 p q vs M w) (u : Int) : Mm b0 p q vs { M with last := u } (w.setCell ⟨p, 41, none⟩ (.int .i64 u)) := by
  refine h.putCell 41 _ (fun j hj => (loc_plain j hj).2.1) (by decide) (fun cs hsz g h0 hc h41 h44 => ⟨by rw [g, if_neg (by omega)]; exact h0, fun i hi => ?_, by rw [g, if_pos rfl], by rw [g, if_neg (by omega)]; exact h44⟩) (by decide) (fun _ _ => rfl) rfl rfl
  obtain ⟨a, b, c⟩ := hc i hi
  exact ⟨by rw [g, if_neg (by omega)]; exact a, by rw [g, if_neg (by omega)]; exact b, by rw [g, if_neg (by omega)]; exact c⟩
theorem Mm.putE {b0 p q : Nat} {vs : Nat → Value} {M : Mx} {w : World} (h : Mm b0 p q vs M w) (u : Int) : Mm b0 p q vs { M with e := u } (w.setCell ⟨p, 44, none⟩ (.int .i64 u)) := by
  refine h.putCell 44 _ (fun j hj => (loc_plain j hj).2.2.2.1) (by decide) (fun cs hsz g h0 hc h41 h44 => ⟨by rw [g, if_neg (by omega)]; exact h0, fun i hi => ?_, by rw [g, if_neg (by omega)]; exact h41, by rw [g, if_pos rfl]⟩) (by decide) (fun _ _ => rfl) rfl rfl
  obtain ⟨a, b, c⟩ := hc i hi
  exact ⟨by rw [g, if_neg (by omega)]; exact a, by rw [g, if_neg (by omega)]; exact b, by rw [g, if_neg (by omega)]; exact c⟩
theorem Mm.rowStp {b0 p q : Nat} {vs : Nat → Value} {M : Mx} {w w1 : World} (h : Mm b0 p q vs M w) (i : Nat) (hi : i < 18) (v1 : Value) (hg : w.grownBy w1 (vs i).ownBlock) (ho : v1.ownBlock = none ∨ v1.ownBlock = (vs i).ownBlock ∨ ∃ b, v1.ownBlock = some b ∧ w.heap.size ≤ b) (o : Nat) :
    Stp (Mf p q vs) (Mf p q (upd vs i v1)) w (w1.setCell ⟨p, o, none⟩ v1) := by
  have h1 : Stp (Mf p q vs) (fun k => Mf p q vs k ∨ w.heap.size ≤ k) w w1 := Stp.grown hg (fun k hk => Mf.row hi hk) (fun k hk => hk)
  refine (h1.trans (Stp.set (F := fun k => Mf p q vs k ∨ w.heap.size ≤ k) ⟨p, o, none⟩ v1 (.inl (.inl rfl)))).shrink (fun k hk => ?_)
  rcases hk.ofUpd with hk | hk
  · exact .inl hk
  · rcases ho with ho | ho | ⟨b, hb, hle⟩
    · rw [ho] at hk; cases hk
    · exact .inl (Mf.row hi (by rw [← ho]; exact hk))
    · rw [hb] at hk
      cases hk
      exact .inr hle
end Go.Proofs.YthehhbfiaaadgaaDoor.P
