-- Written by a program of the session (wip/tool/mk.py) out of the translation; Lean checks it.
import Derived.Test.YtaneollgpllbiaaPx0
import Derived.Test.YtaneollgpllbiaaPx1
import Derived.Test.YtaneollgpllbiaaPx2
import Derived.Test.YtaneollgpllbiaaPx3
import Derived.Test.YtaneollgpllbiaaPx4
namespace Go.Proofs.Ytaneollgpllbiaa.P
open Go.RowKit Go.Proofs.YtaneollgpllbiaaW.PrintWords Go.Proofs.YtaneollgpllbiaaW.PrintLast Go.Proofs.YtaneollgpllbiaaW.PrintMore
attribute [local go_sem] max2_int min2_int max_two min_two max_three min_three max_four min_four   -- for this text's walks alone
set_option linter.unusedVariables false
set_option linter.unusedSimpArgs false

/-! ### squash_Pack: function 9, a contract of my own -/
section
open Go.Proofs.Ytaneollgpllbiaa.Num
/-- A number within bounds. -/
def sq_cl (a : Int) : Nat := (mn (mx a 0) 4611686018427387903).toNat
theorem sq_cl_eq (a : Int) : mn (mx a 0) 4611686018427387903 = (sq_cl a : Int) := by unfold sq_cl mn mx; split <;> split <;> omega
theorem sq_cl_le (a : Int) : sq_cl a ≤ 4611686018427387903 := by unfold sq_cl mn mx; split <;> split <;> omega
theorem sq_cl_nat (n : Nat) (h : n ≤ 4611686018427387903) : sq_cl (n : Int) = n := by unfold sq_cl mn mx; split <;> split <;> omega
theorem sq_enc_cl (a : Int) : (enc (sq_cl a)).length ≤ 9 := enc_len9 (by have := sq_cl_le a; omega)
theorem sq_size_l0 : ∀ (x k : Nat) (s : Int), (enc x).length ≤ k → 0 ≤ s → s + (enc x).length ≤ 1000 → num_Size.l0 k (x : Int) s = some (s + (enc x).length - 1) := by
  intro x
  induction x using Nat.strongRecOn with
  | _ x ih =>
    intro k s hk h0 h1
    have hp := enc_pos x
    obtain ⟨k, rfl⟩ : ∃ m, k = m + 1 := ⟨k - 1, by omega⟩
    simp only [num_Size.l0]
    by_cases hx : x ≤ 127
    · rw [if_neg (by omega), enc_small hx]; simp
    · rw [enc_big hx] at hk h1 ⊢
      simp only [List.length_cons] at hk h1 ⊢
      rw [if_pos (by omega), w64 (by omega) (by omega), show ((x : Int) / 128) = ((x / 128 : Nat) : Int) by omega, ih (x / 128) (by omega) k (s + 1) (by omega) (by omega) (by omega)]
      congr 1; omega
theorem sq_size_f (k : Nat) (a : Int) (hk : 12 ≤ k) : num_Size.f k a = some ((enc (sq_cl a)).length : Int) := by
  unfold num_Size.f
  have := sq_enc_cl a
  rw [sq_cl_eq, sq_size_l0 (sq_cl a) k 1 (by omega) (by omega) (by omega)]
  congr 1; omega
theorem sq_put_l0 : ∀ (x k : Nat) (l : List Int) (t i : Int), (enc x).length ≤ k → 0 ≤ i → t = i + (enc x).length - 1 → t ≤ 1000 → x < 9223372036854775808 → l.length + (enc x).length ≤ 140737488355328 →
    num_Put.l0 k (x : Int) l t i = some (l ++ enc x) := by
  intro x
  induction x using Nat.strongRecOn with
  | _ x ih =>
    intro k l t i hk h0 ht h1 hx63 hl
    have hp := enc_pos x
    obtain ⟨k, rfl⟩ : ∃ m, k = m + 1 := ⟨k - 1, by omega⟩
    simp only [num_Put.l0]
    by_cases hx : x ≤ 127
    · rw [enc_small hx] at ht hl ⊢
      simp only [List.length_cons, List.length_nil] at ht hl
      rw [if_neg (by omega), if_pos (by omega), show ((x : Int) % 256) = (x : Int) by omega]
    · have hp2 := enc_pos (x / 128)
      rw [enc_big hx] at hk ht hl ⊢
      simp only [List.length_cons] at hk ht hl ⊢
      rw [if_pos (by omega), if_pos (by omega), and127_i64 _ (by omega) (by omega), or128 _ (by omega) (by omega), w64 (by omega) (by omega), show ((x : Int) / 128) = ((x / 128 : Nat) : Int) by omega,
        ih (x / 128) (by omega) k _ t (i + 1) (by omega) (by omega) (by omega) h1 (by omega) (by simp only [List.length_append, List.length_cons, List.length_nil]; omega)]
      rw [List.append_assoc, show (((x : Int) % 128 + 128) % 256) = ((128 + x % 128 : Nat) : Int) by omega]
      rfl
theorem sq_put_f (k : Nat) (l : List Int) (a : Int) (hk : 12 ≤ k) (hl : l.length ≤ 140737488355300) : num_Put.f k l a = some (l ++ enc (sq_cl a)) := by
  have h9 := sq_enc_cl a
  have h1 := enc_pos (sq_cl a)
  have hc := sq_cl_le a
  have hs : num_Size.f k (sq_cl a : Int) = some ((enc (sq_cl a)).length : Int) := by rw [sq_size_f k _ hk, sq_cl_nat _ hc]
  have hp := sq_put_l0 (sq_cl a) k l ((enc (sq_cl a)).length - 1) 0 (by omega) (by omega) (by omega) (by omega) (by omega) (by omega)
  have hw : wrap64 ((l.length : Int) + ((enc (sq_cl a)).length : Int)) = (l.length : Int) + ((enc (sq_cl a)).length : Int) := w64 (by omega) (by omega)
  unfold num_Put.f
  rw [sq_cl_eq, hs, Option.bind_some, if_pos (by rw [hw]; omega), if_pos (by rw [hw]; omega), Option.bind_some, if_pos (by rw [List.length_nil]; omega), Option.bind_some, w64 (by omega) (by omega), List.nil_append]
  exact hp
theorem box_cell {w : World} {g : Nat} {v : Value} {ty : TypeId} (h : w.heap[g]? = some (.cells #[v] ty (0, 0))) : w.cell? ⟨g, 0, none⟩ = some v := by rw [cell_of_row w g _ _ ty (0, 0) h]; rfl
theorem Below.trans' {w w1 w2 : World} (h : Below w.heap.size w w1) (h2 : Below w1.heap.size w1 w2) : Below w.heap.size w w2 := below_step h h2
/-- What Pack keeps beside the finder: the text's variable, out's, from's; out's row. -/
structure Pk (b0 p mb ga pb po pf : Nat) (u : Value) (fr : Nat) (v : Value) (OUT : List Int) (w : World) : Prop where
  hb : w.heap[pb]? = some (.cells #[u] 23 (0, 0))
  ho : w.heap[po]? = some (.cells #[v] 23 (0, 0))
  hf : w.heap[pf]? = some (.cells #[.int .i64 (fr : Int)] 3 (0, 0))
  hR : (Kd.int .u8).R 5 w b0 (fun j => j ≠ p ∧ j ≠ mb ∧ j ≠ ga ∧ j ≠ pb ∧ j ≠ po ∧ j ≠ pf) v OUT
  hg : ga < w.heap.size
structure PNe (b0 p mb ga pb po pf : Nat) : Prop where
  bp : pb ≠ p
  bm : pb ≠ mb
  bg : pb ≠ ga
  op : po ≠ p
  om : po ≠ mb
  og : po ≠ ga
  fp : pf ≠ p
  fm : pf ≠ mb
  fg : pf ≠ ga
  bo : pb ≠ po
  bf : pb ≠ pf
  of_ : po ≠ pf
  o0 : b0 ≤ po
  f0 : b0 ≤ pf
theorem pk_xok {b0 p mb ga pb po pf : Nat} {u : Value} {fr : Nat} {v : Value} {OUT : List Int} (n : PNe b0 p mb ga pb po pf) : XOk (Pk b0 p mb ga pb po pf u fr v OUT) (fun j => j = ga) p mb where
  below := fun w w' h hb => ⟨blk_below h.hb hb, blk_below h.ho hb, blk_below h.hf hb, Kd.R_below h.hR hb, Nat.lt_of_lt_of_le h.hg hb.size⟩
  setp := fun w x h => ⟨blk_far h.hb (p := ⟨p, 3, none⟩) n.bp x, blk_far h.ho (p := ⟨p, 3, none⟩) n.op x, blk_far h.hf (p := ⟨p, 3, none⟩) n.fp x, Kd.R_far h.hR (p := ⟨p, 3, none⟩) (fun j hj => hj.1) x, by simpa [World.setCell] using h.hg⟩
  setA := fun g j w x e h => by
    subst e
    exact ⟨blk_far h.hb (p := ⟨g, j, none⟩) n.bg x, blk_far h.ho (p := ⟨g, j, none⟩) n.og x, blk_far h.hf (p := ⟨g, j, none⟩) n.fg x, Kd.R_far h.hR (p := ⟨g, j, none⟩) (fun j hj => hj.2.2.1) x, by simpa [World.setCell] using h.hg⟩
  grow := fun w w' h hg => ⟨blk_grown h.hb hg (by simpa using n.bm), blk_grown h.ho hg (by simpa using n.om), blk_grown h.hf hg (by simpa using n.fm), Kd.R_grown h.hR hg (fun j hj => by simpa using hj.2.1), Nat.lt_of_lt_of_le h.hg hg.size⟩
theorem fd_out {b0 : World} {p mb ga pb po pf fr nB k : Nat} {u v v2 va : Value} {OUT OUT2 B : List Int} {w w2 : World} (n : PNe b0.heap.size p mb ga pb po pf)
    (h : Fd (Pk b0.heap.size p mb ga pb po pf u fr v OUT) (fun j => j = ga) b0 p u B nB mb k va w) (hb : Below w.heap.size w w2) (hR : (Kd.int .u8).R 5 w2 w.heap.size (fun _ => True) v2 OUT2) :
    Fd (Pk b0.heap.size p mb ga pb po pf u fr v2 OUT2) (fun j => j = ga) b0 p u B nB mb k va (w2.setCell ⟨po, 0, none⟩ v2) := by
  have h2 := h.below hb
  have x := h2.hX
  have hlt : ∀ j, w.heap.size ≤ j → j ≠ p ∧ j ≠ mb ∧ j ≠ ga ∧ j ≠ pb ∧ j ≠ po ∧ j ≠ pf := fun j hj => by
    have h1 := blk_lt h.hP
    have h3 := h.hM.lt
    have h4 := blk_lt h.hX.hb
    have h5 := blk_lt h.hX.ho
    have h6 := blk_lt h.hX.hf
    have h7 := h.hX.hg
    exact ⟨by omega, by omega, by omega, by omega, by omega, by omega⟩
  refine ⟨h2.hb0, h2.hmb, h2.hne, Below.setCell h2.hB (p := ⟨po, 0, none⟩) n.o0 v2, blk_far h2.hP (p := ⟨po, 0, none⟩) (Ne.symm n.op) v2, h2.hM.setCell (Ne.symm n.om) _, Kd.R_far h2.hA (p := ⟨po, 0, none⟩) (fun j hj => by rw [hj.2.2]; exact Ne.symm n.og) v2,
    ⟨blk_far x.hb (p := ⟨po, 0, none⟩) n.bo v2, blk_set x.ho 0 v2, blk_far x.hf (p := ⟨po, 0, none⟩) (Ne.symm n.of_) v2, ?_, by simpa [World.setCell] using x.hg⟩, pk_xok n⟩
  have hb0 : b0.heap.size ≤ w.heap.size := Nat.le_of_lt (Nat.lt_of_le_of_lt n.o0 (blk_lt h.hX.ho))
  exact Kd.R_far (Kd.R_lower (Kd.R_mono (Kd.R_bound hR) (fun j hj => hlt j hj.2.1)) hb0) (p := ⟨po, 0, none⟩) (fun j hj => hj.2.2.2.2.1) v2
theorem sq_put (v : Value) (L : List Int) (n : Nat) (w : World) (b : Nat) (ok : Nat → Prop) (hn : n ≤ 4611686018427387903) (hL : L.length ≤ 140737488355300) (hR : (Kd.int .u8).R 5 w b ok v L) :
    Calls Try.prog 12 #[v, .int .i64 (n : Int)] w fun e w' => ∃ v', e = .returned v' ∧ (Kd.int .u8).R 5 w' w.heap.size (fun _ => True) v' (L ++ enc n) ∧ Below w.heap.size w w' := by
  obtain ⟨A, c, rfl, hc, hC⟩ := Kd.R_reads hR
  exact num_Put.calls 12 A c L (n : Int) _ w hC hc (by rw [sq_put_f 12 L _ (Nat.le_refl _) hL, sq_cl_nat n hn])
def flushL (B : List Int) (fr te : Nat) (OUT : List Int) : List Int := if fr < te then OUT ++ enc (2 * (te - fr)) ++ (B.take te).drop fr else OUT
set_option maxHeartbeats 4000000 in
theorem pk_told (b0 : World) (p mb ga pb po pf fr te nB k : Nat) (A0 : Option Addr) (c0 : Nat) (v va : Value) (OUT B : List Int) (w : World) (n : PNe b0.heap.size p mb ga pb po pf)
    (h : Fd (Pk b0.heap.size p mb ga pb po pf (.slice A0 nB c0) fr v OUT) (fun j => j = ga) b0 p (.slice A0 nB c0) B nB mb k va w) (hB : B.length = nB) (hC : Kd.C (Kd.int .u8) b0 A0 nB B) (hc0 : nB ≤ c0) (hto : te ≤ nB) (hnB : nB ≤ 65536) (hO : OUT.length ≤ 100000000) :
    Calls Try.prog 21 #[.int .i64 (te : Int), .pointer (some ⟨pf, 0, none⟩), .pointer (some ⟨po, 0, none⟩), .pointer (some ⟨pb, 0, none⟩)] w fun e w' => e = .returned (.tuple #[]) ∧
      ∃ v', Fd (Pk b0.heap.size p mb ga pb po pf (.slice A0 nB c0) fr v' (flushL B fr te OUT)) (fun j => j = ga) b0 p (.slice A0 nB c0) B nB mb k va w' := by
  have q0 := box_cell h.hX.hf
  by_cases c1 : fr < te
  rotate_left
  · have e1 : decide ((fr : Int) < (te : Int)) = false := decide_eq_false (by omega)
    have e1' : decide (fr < te) = false := decide_eq_false c1
    unfold flushL
    rw [if_neg c1]
    have HF := Aside0.mk h
    clear h hB hC hc0 hto hnB hO c1 n
    go_enter Try.func21, Try.ntmps21
    go_wp2
    refine bodyPost_end (results_none rfl _ _ _) rfl ?_
    exact ⟨rfl, v, HF.out⟩
  have e1 : decide ((fr : Int) < (te : Int)) = true := decide_eq_true (by omega)
  have e1' : decide (fr < te) = true := decide_eq_true c1
  unfold flushL
  rw [if_pos c1]
  obtain ⟨d, hd⟩ : ∃ d : Nat, d = te - fr := ⟨_, rfl⟩
  obtain ⟨d2, hd2⟩ : ∃ d2 : Nat, d2 = 2 * d := ⟨_, rfl⟩
  have hsub : wrap64 ((te : Int) - (fr : Int)) = (d : Int) := by unfold wrap64; omega
  have hmul : wrap64 (2 * (d : Int)) = (d2 : Int) := by unfold wrap64; omega
  rw [← hd, ← hd2]
  obtain ⟨A1, c1_, rfl⟩ := Kd.R_slice h.hX.hR
  obtain ⟨m1, hm1⟩ : ∃ m1, m1 = OUT.length := ⟨_, rfl⟩
  rw [← hm1] at h
  obtain ⟨i0, hi0, _, hsz0, _⟩ := info_parts info5
  have hcut0 := cut_mid (P := Try.prog) 23 5 .i64 .i64 Try.underlying23 hi0 1 hsz0 A0 nB c0 (fr : Int) (te : Int) (by omega) (by omega) (by omega) hc0
  have hCD := Kd.C_mid (k := Kd.int .u8) (w := b0) (A := A0) (xs := B) (c := c0) (lo := fr) (hi := te) (hB.symm ▸ hC) (by omega) (by omega) (by omega)
  have hdl : ((B.take te).drop fr).length = te - fr := by rw [List.length_drop, List.length_take]; omega
  rw [hdl] at hCD
  rw [Int.toNat_natCast, Int.toNat_natCast] at hcut0
  generalize hD : (B.take te).drop fr = D at hCD hdl ⊢
  have hCD' : Kd.C (Kd.int .u8) b0 (if c0 = fr then A0 else A0.map (·.add (fr * 1))) (te - fr) D := hCD
  obtain ⟨md, hmd⟩ : ∃ md, md = te - fr := ⟨_, rfl⟩
  rw [← hmd] at hcut0 hCD'
  generalize (if c0 = fr then A0 else A0.map (·.add (fr * 1))) = Bd at hcut0 hCD'
  generalize c0 - fr = cd at hcut0
  have hcut : ∀ W : World, (Instr.slice 23 (.slice A0 nB c0) (some (.int .i64 (fr : Int))) (some (.int .i64 (te : Int))) none).run Try.prog W = .ok (.slice Bd md cd) W := hcut0
  have HX := Aside0.mk h.hX
  have HF := Aside0.mk h
  have HXO := Aside0.mk h.hXO
  have HCD := Aside0.mk (Kd.C_below hCD' h.hB)
  have HD2 : Aside0 (d2 ≤ 4611686018427387903) := ⟨by omega⟩
  have HOL : Aside0 (OUT.length ≤ 140737488355300) := ⟨by omega⟩
  have HMD : Aside0 (md ≤ 65536) := ⟨by omega⟩
  have HOL2 : Aside0 (OUT.length ≤ 100000000) := ⟨hO⟩
  have HPut := Aside0.mk (sq_put (.slice A1 m1 c1_) OUT d2 w.drew _ _ HD2.out HOL.out (Kd.R_drew HX.out.hR))
  rw [← hmul] at HPut
  have HN := Aside0.mk n
  clear h hB hC hc0 hto hnB hO c1 n hcut0 hCD hCD' hdl hmd hi0 hsz0 hd hd2 hD hm1
  go_enter Try.func21, Try.ntmps21
  go_wp2_with fail
  refine start_ (n := 12) (S := fun w' => w'.cell? ⟨pf, 0, none⟩ = some (.int .i64 (fr : Int)) ∧ w'.cell? ⟨po, 0, none⟩ = some (.slice A1 m1 c1_) ∧ w'.cell? ⟨pb, 0, none⟩ = some (.slice A0 nB c0)) (ds := [11]) #[false, false, false, false, false, false, false, false, false, false, false, false] (by kernel_rfl) rfl rfl ⟨(box_cell HX.out.hf), (box_cell HX.out.ho), (box_cell HX.out.hb)⟩ (fun hHeld => ?_)
  refine pure_ (i := 1) (N := some 9) (v := ?_) (a' := ?_) #[false, true, false, false, false, false, false, false, false, false, false, false] rfl rfl (by kernel_rfl) (fun _ _ _ h => h) (Or.inl ⟨by rfl, ?_⟩) ?_ ?_
  rotate_left
  · intro w'
    go_simp
    with_reducible rfl
  rotate_left
  · simp only [Act.put, List.setIfInBounds_toArray, List.set_cons_zero, List.set_cons_succ, i64_w, i32_w]
    rfl
  refine pure_ (i := 8) (N := some 16) (v := ?_) (a' := ?_) #[false, true, false, false, false, false, false, false, true, false, false, false] rfl rfl (by kernel_rfl) (fun _ _ _ h => h) (Or.inl ⟨by rfl, ?_⟩) ?_ ?_
  rotate_left
  · intro w'
    go_simp
    with_reducible rfl
  rotate_left
  · simp only [Act.put, List.setIfInBounds_toArray, List.set_cons_zero, List.set_cons_succ, i64_w, i32_w]
    rfl
  refine take_ (i := 0) (N := some 8) (v := ?_) (a' := ?_) #[true, true, false, false, false, false, false, false, true, false, false, false] rfl rfl (by kernel_rfl) (fun _ _ _ h => h) (Or.inl ⟨by rfl, ?_⟩) hHeld ?_ ?_
  rotate_left
  · rintro w' ⟨s0, s1, s2⟩
    go_simp
    with_reducible rfl
  rotate_left
  · simp only [Act.put, List.setIfInBounds_toArray, List.set_cons_zero, List.set_cons_succ, i64_w, i32_w]
    rfl
  refine take_ (i := 2) (N := some 10) (v := ?_) (a' := ?_) #[true, true, true, false, false, false, false, false, true, false, false, false] rfl rfl (by kernel_rfl) (fun _ _ _ h => h) (Or.inl ⟨by rfl, ?_⟩) hHeld ?_ ?_
  rotate_left
  · rintro w' ⟨s0, s1, s2⟩
    go_simp
    with_reducible rfl
  rotate_left
  · simp only [Act.put, List.setIfInBounds_toArray, List.set_cons_zero, List.set_cons_succ, i64_w, i32_w]
    rfl
  refine pure_ (i := 3) (N := some 11) (v := ?_) (a' := ?_) #[true, true, true, true, false, false, false, false, true, false, false, false] rfl rfl (by kernel_rfl) (fun _ _ _ h => h) (Or.inl ⟨by rfl, ?_⟩) ?_ ?_
  rotate_left
  · intro w'
    go_simp
    with_reducible rfl
  rotate_left
  · simp only [Act.put, List.setIfInBounds_toArray, List.set_cons_zero, List.set_cons_succ, i64_w, i32_w]
    rfl
  refine pure_ (i := 4) (N := some 12) (v := ?_) (a' := ?_) #[true, true, true, true, true, false, false, false, true, false, false, false] rfl rfl (by kernel_rfl) (fun _ _ _ h => h) (Or.inl ⟨by rfl, ?_⟩) ?_ ?_
  rotate_left
  · intro w'
    go_simp
    with_reducible rfl
  rotate_left
  · simp only [Act.put, List.setIfInBounds_toArray, List.set_cons_zero, List.set_cons_succ, i64_w, i32_w]
    rfl
  refine take_ (i := 6) (N := some 14) (v := ?_) (a' := ?_) #[true, true, true, true, true, false, true, false, true, false, false, false] rfl rfl (by kernel_rfl) (fun _ _ _ h => h) (Or.inl ⟨by rfl, ?_⟩) hHeld ?_ ?_
  rotate_left
  · rintro w' ⟨s0, s1, s2⟩
    go_simp
    with_reducible rfl
  rotate_left
  · simp only [Act.put, List.setIfInBounds_toArray, List.set_cons_zero, List.set_cons_succ, i64_w, i32_w]
    rfl
  refine take_ (i := 7) (N := some 15) (v := ?_) (a' := ?_) #[true, true, true, true, true, false, true, true, true, false, false, false] rfl rfl (by kernel_rfl) (fun _ _ _ h => h) (Or.inl ⟨by rfl, ?_⟩) hHeld ?_ ?_
  rotate_left
  · rintro w' ⟨s0, s1, s2⟩
    go_simp
    with_reducible rfl
  rotate_left
  · simp only [Act.put, List.setIfInBounds_toArray, List.set_cons_zero, List.set_cons_succ, i64_w, i32_w]
    rfl
  refine pure_ (i := 9) (N := some 17) (v := ?_) (a' := ?_) #[true, true, true, true, true, false, true, true, true, true, false, false] rfl rfl (by kernel_rfl) (fun _ _ _ h => h) (Or.inl ⟨by rfl, ?_⟩) ?_ ?_
  rotate_left
  · intro w'
    go_simp
    with_reducible rfl
  rotate_left
  · simp only [Act.put, List.setIfInBounds_toArray, List.set_cons_zero, List.set_cons_succ, i64_w, i32_w]
    rfl
  refine one_ (i := 5) (N := some 13) #[true, true, true, true, true, true, true, true, true, true, false, false] rfl rfl (by kernel_rfl) (by decide) (fun K hK => ?_)
  refine goes_ Try.func12 (by kernel_rfl) rfl #[.slice A1 m1 c1_, .int .i64 (wrap64 (2 * (d : Int)))] (by rfl) rfl rfl (by simp only [List.map_toArray, List.map_cons, List.map_nil]; rfl) ?_
  with_reducible refine (HPut.out).mono ?_
  rintro e w3 ⟨v3, rfl, hR3, hb3⟩
  refine ⟨_, rfl, ?_⟩
  have HX3 := Aside0.mk (HXO.out.below _ _ (HXO.out.below _ _ HX.out (below_drew (Below.refl _ _))) hb3)
  have HB3 := Aside0.mk (Below.trans' (below_drew (Below.refl _ w)) hb3)
  have HC3 := Aside0.mk (Kd.C_below HCD.out HB3.out)
  have HR3 := Aside0.mk hR3
  have HL3 : Aside0 (((OUT ++ enc d2).length + md) * 1 ≤ 140737488355328) := ⟨by have := HOL2.out; have := HMD.out; have := enc_len9 (n := d2) (by have := HD2.out; omega); simp only [List.length_append]; omega⟩
  clear hR3 hb3
  refine hK.out _ _ ⟨(box_cell HX3.out.hf), (box_cell HX3.out.ho), (box_cell HX3.out.hb)⟩ (fun hHeld => ?_)
  clear hK K
  refine norm_ (a' := ?_) ?_ ?_
  rotate_left
  · show Act.put _ (some 13) _ = _
    simp only [Act.put, List.setIfInBounds_toArray, List.set_cons_zero, List.set_cons_succ, i64_w, i32_w]
    rfl
  refine one_ (i := 10) (N := some 18) #[true, true, true, true, true, true, true, true, true, true, true, false] rfl rfl (by kernel_rfl) (by decide) (fun K hK => ?_)
  refine Kd.R_append_rows_step (Kd.int .u8) (w0 := w) (W := w3) w.heap.size (by rfl) (.tmp 13) (.tmp 17) 23 5 (.int .u8 0) 1 rfl Try.underlying23 info5 rfl (by decide) (by omega) v3 (OUT ++ enc d2) D Bd md cd (fun _ => True) (fun _ => False) rfl rfl HR3.out HC3.out (fun _ _ h => h) (fun _ h => h.elim) (fun _ _ => trivial) HB3.out (HB3.out.size) HL3.out ?_
  intro v5 w5 ho hb5 hg hat
  clear hat hg
  have HR5 := Aside0.mk ho
  have HB5 := Aside0.mk hb5
  have HX5 := Aside0.mk (HXO.out.below _ _ HX.out hb5)
  have qf5 := blk_frozen HX5.out.ho 0
  clear ho hb5
  obtain ⟨A5, c5, rfl⟩ := Kd.R_slice HR5.out
  generalize hm5 : ((OUT ++ enc d2) ++ D).length = m5 at HR5 ⊢
  refine hK.out _ _ ⟨(box_cell HX5.out.hf), (box_cell HX5.out.ho), (box_cell HX5.out.hb)⟩ (fun hHeld => ?_)
  clear hK K
  refine norm_ (a' := ?_) ?_ ?_
  rotate_left
  · show Act.put _ (some 18) _ = _
    simp only [Act.put, List.setIfInBounds_toArray, List.set_cons_zero, List.set_cons_succ, i64_w, i32_w]
    rfl
  refine last_ (i := 11) (N := none) #[true, true, true, true, true, true, true, true, true, true, true, true] rfl rfl (by kernel_rfl) (by decide) (fun K hK => ?_)
  refine skip_ (w1 := ?_) (by rfl) rfl ?_ ?_
  rotate_left
  · go_simp
    rfl
  refine hK.out _ _ ?_
  clear hK K
  refine done_ (by kernel_rfl) ?_
  go_wp2
  refine bodyPost_end (results_none rfl _ _ _) rfl ?_
  exact ⟨rfl, _, fd_out HN.out HF.out HB5.out HR5.out⟩
theorem mk_step {P : Program} {o : Oper} {a : Act} {W W' : World} {x y : Operand} {ty : TypeId} {u v z : Value} (ho : o.op = .makeSlice ty x y) (hx : a.eval x = u) (hy : a.eval y = v) (hr : (Instr.makeSlice ty u v).run P W = .ok z W') : (execOp a.eval o).run P W = .ok (.value z) W' := by
  unfold execOp
  simp only [ho, hx, hy, hr, Sem.run_bind, Sem.run_pure, Result.andThen_ok]
theorem mm_step {P : Program} {o : Oper} {a : Act} {W W' : World} {ty : TypeId} {z : Value} (ho : o.op = .makeMap ty none) (hr : (Instr.makeMap ty none).run P W = .ok z W') : (execOp a.eval o).run P W = .ok (.value z) W' := by
  unfold execOp
  simp only [ho, Option.map_none, hr, Sem.run_bind, Sem.run_pure, Result.andThen_ok]
structure FkF (wa : World) (pb nB : Nat) (A0 : Option Addr) (c0 mb ga : Nat) (w : World) : Prop where
  hB : Below wa.heap.size wa w
  hb : w.heap[pb]? = some (.cells #[.slice A0 nB c0] 23 (0, 0))
  hM : w.ownsMap Try.prog 52 PE mb 0 (.map [])
  hA : (Kd.int .i64).R 3 w wa.heap.size (fun j => j = ga) (.slice (some ⟨ga, 0, none⟩) nB nB) (List.replicate nB 0)
  hne : mb ≠ ga
  hm0 : wa.heap.size ≤ mb
  hg0 : wa.heap.size ≤ ga
  hm1 : mb < w.heap.size
  hg1 : ga < w.heap.size
def MadeOk (nB : Nat) (MK : Obj) : Prop := ∀ (W : World) (b : Nat) (ok : Nat → Prop), b ≤ W.heap.size → ok W.heap.size → (Kd.int .i64).R 3 (W.alloc MK) b ok (.slice (some ⟨W.heap.size, 0, none⟩) nB nB) (List.replicate nB 0)
theorem fk_ms {wa : World} {pb nB : Nat} {A0 : Option Addr} {c0 : Nat} {MK : Obj} (HMK : Aside0 (MadeOk nB MK)) (h : Aside0 (wa.heap[pb]? = some (.cells #[.slice A0 nB c0] 23 (0, 0)))) :
    FkF wa pb nB A0 c0 wa.heap.size (wa.alloc (.map #[] 0)).heap.size ((wa.alloc (.map #[] 0)).alloc MK) where
  hB := below_alloc (below_alloc (Below.refl _ _) _) _
  hb := blk_alloc (blk_alloc h.out _) _
  hM := (World.ownsMap_made wa _ _ _).alloc _
  hA := HMK.out _ _ _ (by simp) rfl
  hne := by simp
  hm0 := Nat.le_refl _
  hg0 := by simp
  hm1 := by simp; omega
  hg1 := by simp
theorem fk_sm {wa : World} {pb nB : Nat} {A0 : Option Addr} {c0 : Nat} {MK : Obj} (HMK : Aside0 (MadeOk nB MK)) (h : Aside0 (wa.heap[pb]? = some (.cells #[.slice A0 nB c0] 23 (0, 0)))) :
    FkF wa pb nB A0 c0 (wa.alloc MK).heap.size wa.heap.size ((wa.alloc MK).alloc (.map #[] 0)) where
  hB := below_alloc (below_alloc (Below.refl _ _) _) _
  hb := blk_alloc (blk_alloc h.out _) _
  hM := World.ownsMap_made _ _ _ _
  hA := Kd.R_alloc (ok := fun j => j = wa.heap.size) (HMK.out wa _ _ (Nat.le_refl _) rfl) _
  hne := by simp
  hm0 := by simp
  hg0 := Nat.le_refl _
  hm1 := by simp
  hg1 := by simp; omega
def packL (B : List Int) : Nat → Nat → Nat → List Int → List Int
  | 0, _, fr, OUT => flushL B fr B.length OUT
  | q + 1, i, fr, OUT => if i < B.length then (if (bestR B i).1 < 4 then packL B q (i + 1) fr OUT else packL B q (i + (bestR B i).1) (i + (bestR B i).1) (flushL B fr i OUT ++ enc (2 * ((bestR B i).1 - 4) + 1) ++ enc (bestR B i).2)) else flushL B fr B.length OUT
theorem packL_end (B : List Int) (q i fr : Nat) (OUT : List Int) (h : ¬ i < B.length) : packL B q i fr OUT = flushL B fr B.length OUT := by
  cases q with
  | zero => rfl
  | succ q => rw [packL, if_neg h]
theorem flushL_len (B : List Int) (fr te : Nat) (OUT : List Int) (ht : te ≤ 65536) : (flushL B fr te OUT).length ≤ OUT.length + 9 + (te - fr) := by
  unfold flushL
  by_cases c : fr < te
  · rw [if_pos c]
    have := enc_len9 (n := 2 * (te - fr)) (by omega)
    simp only [List.length_append, List.length_drop, List.length_take]
    omega
  · rw [if_neg c]; omega
theorem lg_le (B : List Int) (i far : Nat) : ∀ q n, n ≤ B.length - i → n ≤ 130 → lg B i far q n ≤ B.length - i ∧ lg B i far q n ≤ 130
  | 0, n, h, h2 => ⟨h, h2⟩
  | q + 1, n, h, h2 => by
    rw [lg]
    by_cases c : n < 130 ∧ i + n < B.length ∧ rd B ((i + n : Nat) : Int) = rd B ((i + n - far : Nat) : Int)
    · rw [if_pos c]
      exact lg_le B i far q (n + 1) (by omega) (by omega)
    · rw [if_neg c]; exact ⟨h, h2⟩
theorem chainB_le (B : List Int) (i : Nat) : ∀ q a len far, len ≤ B.length - i ∧ len ≤ 130 → far ≤ i → (chainB B i q a len far).1 ≤ B.length - i ∧ (chainB B i q a len far).1 ≤ 130 ∧ (chainB B i q a len far).2 ≤ i
  | 0, a, len, far, h, hf => ⟨h.1, h.2, hf⟩
  | q + 1, a, len, far, h, hf => by
    rw [chainB]
    by_cases c : a < 0 ∨ (i : Int) - a > 4096 ∨ len = 130
    · rw [if_pos c]; exact ⟨h.1, h.2, hf⟩
    · rw [if_neg c]
      by_cases c2 : longN B i (i - a.toNat) > len
      · rw [if_pos c2]; exact chainB_le B i q _ _ _ (lg_le B i _ 130 0 (Nat.zero_le _) (by omega)) (by omega)
      · rw [if_neg c2]; exact chainB_le B i q _ _ _ h hf
theorem bestR_le (B : List Int) (i : Nat) : (bestR B i).1 ≤ B.length - i ∧ (bestR B i).1 ≤ 130 ∧ (bestR B i).2 ≤ i := by
  unfold bestR
  by_cases c : i + 4 ≤ B.length
  · rw [if_pos c]; exact chainB_le B i _ _ _ _ ⟨Nat.zero_le _, by omega⟩ (Nat.zero_le _)
  · rw [if_neg c]; exact ⟨Nat.zero_le _, by omega, Nat.zero_le _⟩
theorem fd_from {b0 : World} {p mb ga pb po pf fr fr2 nB k : Nat} {u v va : Value} {OUT B : List Int} {w : World} (n : PNe b0.heap.size p mb ga pb po pf)
    (h : Fd (Pk b0.heap.size p mb ga pb po pf u fr v OUT) (fun j => j = ga) b0 p u B nB mb k va w) :
    Fd (Pk b0.heap.size p mb ga pb po pf u fr2 v OUT) (fun j => j = ga) b0 p u B nB mb k va (w.setCell ⟨pf, 0, none⟩ (.int .i64 (fr2 : Int))) := by
  have x := h.hX
  exact ⟨h.hb0, h.hmb, h.hne, Below.setCell h.hB (p := ⟨pf, 0, none⟩) n.f0 _, blk_far h.hP (p := ⟨pf, 0, none⟩) (Ne.symm n.fp) _, h.hM.setCell (Ne.symm n.fm) _, Kd.R_far h.hA (p := ⟨pf, 0, none⟩) (fun j hj => by rw [hj.2.2]; exact Ne.symm n.fg) _,
    ⟨blk_far x.hb (p := ⟨pf, 0, none⟩) n.bf _, blk_far x.ho (p := ⟨pf, 0, none⟩) n.of_ _, blk_set x.hf 0 _, Kd.R_far x.hR (p := ⟨pf, 0, none⟩) (fun j hj => hj.2.2.2.2.2) _, by simpa [World.setCell] using x.hg⟩, pk_xok n⟩
theorem sq_info3 : (Try.prog.info? 3).map (fun i => (i.zero, i.size, i.bytes)) = some (some (.int .i64 0), 1, 8) := by kernel_rfl
theorem made_ok (nB : Nat) (hn : nB ≤ 65536) : ∃ MK : Obj, (∀ W : World, (Instr.makeSlice 42 (.int .i64 (nB : Int)) (.int .i64 (nB : Int))).run Try.prog W = .ok (.slice (some ⟨W.heap.size, 0, none⟩) nB nB) (W.alloc MK)) ∧ MadeOk nB MK := by
  obtain ⟨i0, hi, hzz⟩ := Option.map_eq_some_iff.1 sq_info3
  simp only [Prod.mk.injEq] at hzz
  obtain ⟨hz0, hz1, hz2⟩ := hzz
  refine ⟨.cells (madeCells (Value.int .i64 0).cells (nB * 1)) 3, fun W => ?_, fun W b ok hb hf => ?_⟩
  · have hr := run_make (P := Try.prog) W 42 3 i0 (.int .i64 0) Try.underlying42 hi hz0 .i64 .i64 (nB : Int) (nB : Int) (by omega) (by omega) (by rw [hz2]; omega) (by omega)
    rw [Int.toNat_natCast, hz1] at hr
    exact hr
  · have hrep := Kd.reps_made (R := (Kd.int .i64).M W b (fun _ => True)) (z0 := (0 : Int)) (z := .int .i64 0) (size := 1) rfl (by omega) rfl nB
    refine ⟨fun k hk => ?_, (madeCells (Value.int .i64 0).cells (nB * 1)).toList, ?_, ?_⟩
    · have : W.heap.size = k := by simpa [Value.ownBlock] using hk
      subst this
      exact hf
    · have h2 := World.ownsRow_lit (base := b) (e := 3) (size := 1) W (madeCells (Value.int .i64 0).cells (nB * 1)) nB hb (by unfold maxLen; omega) (by simpa using hrep.1)
      have h3 : (Kd.int .i64).sz = 1 := rfl
      rw [h3]
      simpa using h2
    · exact hrep.imp_ (fun p c hp => hp)
theorem mm_run (W : World) : (Instr.makeMap 41 none).run Try.prog W = .ok (.map (some W.heap.size)) (W.alloc (.map #[] 0)) := by
  simp only [Instr.makeMap, Sem.run_bind, Sem.run_pure, Result.andThen_ok, Try.underlying41]
  rfl
theorem Below.trans'' {b : Nat} {w w1 w2 : World} (h : Below b w w1) (hb : b ≤ w.heap.size) (h2 : Below w1.heap.size w1 w2) : Below b w w2 :=
  ⟨h2.os.trans h.os, h2.tape.trans h.tape, h2.output.trans h.output, Nat.le_trans h.size h2.size, fun j hj => (h2.block j (by have := h.size; omega)).trans (h.block j hj)⟩
theorem Ah_zero (B : List Int) (nB : Nat) : Ah B nB 0 = List.replicate nB 0 := by unfold Ah; simp
set_option maxHeartbeats 8000000 in
theorem sq_pack (A0 : Option Addr) (nB c0 : Nat) (B : List Int) (w : World) (hB : B.length = nB) (hC : Kd.C (Kd.int .u8) w A0 nB B) (hc0 : nB ≤ c0) (hnB : nB ≤ 65536) (hby : ∀ x ∈ B, 0 ≤ x ∧ x ≤ 255) :
    Calls Try.prog 9 #[.slice A0 nB c0] w fun e w' => ∃ v, e = .returned v ∧ (Kd.int .u8).R 5 w' w.heap.size (fun _ => True) v (packL B nB 0 0 []) ∧ Below w.heap.size w w' := by
  have hmf : ∀ (fn : Fn) (first cap : Array Value) (w : World), (Instr.makeFunc fn first cap).run Try.prog w = .ok (.func fn first cap) w := fun _ _ _ _ => rfl
  obtain ⟨MK, hmk, HMK⟩ := made_ok nB hnB
  replace HMK := Aside0.mk HMK
  have hmm := mm_run
  have e0 : decide ((65536 : Int) < (nB : Int)) = false := decide_eq_false (by omega)
  have e0' : decide (65536 < nB) = false := decide_eq_false (by omega)
  have HBL := Aside0.mk hB
  have HC := Aside0.mk hC
  have HC0 := Aside0.mk hc0
  have HNB := Aside0.mk hnB
  have HBY := Aside0.mk hby
  obtain ⟨w1, hw1⟩ : ∃ w1, w1 = w.alloc (.cells #[.slice A0 nB c0] 23) := ⟨_, rfl⟩
  obtain ⟨pb, hpb⟩ : ∃ pb, pb = w.heap.size := ⟨_, rfl⟩
  have HPB1 : Aside0 (w1.heap[pb]? = some (.cells #[.slice A0 nB c0] 23 (0, 0))) := ⟨by rw [hw1, hpb]; exact blk_new w _⟩
  have HB1 : Aside0 (Below w.heap.size w w1) := ⟨by rw [hw1]; exact below_alloc (Below.refl _ _) _⟩
  have HPBL : Aside0 (w.heap.size ≤ pb) := ⟨by omega⟩
  have q1 := box_cell HPB1.out
  clear hB hC hc0 hnB hby
  go_enter Try.func9, Try.ntmps9
  go_wp2
  rw [← hpb]
  rw [← hw1]
  clear hw1 hpb
  go_wp2_with fail
  have HPB : Aside0 (w1.drew.heap[pb]? = some (.cells #[.slice A0 nB c0] 23 (0, 0))) := HPB1
  have HBA := Aside0.mk (below_drew HB1.out)
  refine start_ (n := 8) (S := fun w' => w'.cell? ⟨pb, 0, none⟩ = some (.slice A0 nB c0)) (ds := []) #[false, false, false, false, false, false, false, false] (by kernel_rfl) rfl rfl ((box_cell HPB.out)) (fun hHeld => ?_)
  refine take_ (i := 0) (N := some 13) (v := ?_) (a' := ?_) #[true, false, false, false, false, false, false, false] rfl rfl (by kernel_rfl) (fun _ _ _ h => h) (Or.inl ⟨by rfl, ?_⟩) hHeld ?_ ?_
  rotate_left
  · intro w' s0
    go_simp
    with_reducible rfl
  rotate_left
  · simp only [Act.put, List.setIfInBounds_toArray, List.set_cons_zero, List.set_cons_succ, i64_w, i32_w]
    rfl
  refine take_ (i := 2) (N := some 15) (v := ?_) (a' := ?_) #[true, false, true, false, false, false, false, false] rfl rfl (by kernel_rfl) (fun _ _ _ h => h) (Or.inl ⟨by rfl, ?_⟩) hHeld ?_ ?_
  rotate_left
  · intro w' s0
    go_simp
    with_reducible rfl
  rotate_left
  · simp only [Act.put, List.setIfInBounds_toArray, List.set_cons_zero, List.set_cons_succ, i64_w, i32_w]
    rfl
  refine pure_ (i := 3) (N := some 16) (v := ?_) (a' := ?_) #[true, false, true, true, false, false, false, false] rfl rfl (by kernel_rfl) (fun _ _ _ h => h) (Or.inl ⟨by rfl, ?_⟩) ?_ ?_
  rotate_left
  · intro w'
    go_simp
    with_reducible rfl
  rotate_left
  · simp only [Act.put, List.setIfInBounds_toArray, List.set_cons_zero, List.set_cons_succ, i64_w, i32_w]
    rfl
  refine join_ (σ := Nat × Nat) 3 #[true, true, true, true, true, false, false, false] (fun s => [(14, .map (some s.1)), (17, .slice (some ⟨s.2, 0, none⟩) nB nB)]) (fun s w' => FkF w1.drew pb nB A0 c0 s.1 s.2 w') ?_ ?_
  rotate_left
  · intro hCont
    refine two_ (i := 1) (j := 4) (Ni := some 14) (Nj := some 17) #[true, true, true, true, false, false, false, false] #[true, false, true, true, true, false, false, false] rfl rfl rfl rfl (by kernel_rfl) (by decide) (by decide) (fun K hK => ?_) (fun K hK => ?_)
    · skip
      refine value_ (w1 := w1.drew.alloc (.map #[] 0)) (by rfl) rfl (mm_step rfl (hmm _)) ?_
      generalize hwb : w1.drew.alloc (.map #[] 0) = wb
      refine hK.out _ _ ((box_cell (g := pb) (by rw [← hwb]; exact blk_alloc HPB.out _))) (fun hHeld => ?_)
      clear hK K
      refine norm_ (a' := ?_) ?_ ?_
      rotate_left
      · show Act.put _ (some 14) _ = _
        simp only [Act.put, List.setIfInBounds_toArray, List.set_cons_zero, List.set_cons_succ, i64_w, i32_w]
        rfl
      refine one_ (i := 4) (N := some 17) #[true, true, true, true, true, false, false, false] rfl rfl (by kernel_rfl) (by decide) (fun K hK => ?_)
      refine value_ (w1 := wb.alloc MK) (by rfl) rfl (mk_step rfl rfl rfl (hmk _)) ?_
      refine hK.out _ _ ((box_cell (g := pb) (blk_alloc (by rw [← hwb]; exact blk_alloc HPB.out _) _))) (fun hHeld => ?_)
      clear hK K
      refine norm_ (a' := ?_) ?_ ?_
      rotate_left
      · show Act.put _ (some 17) _ = _
        simp only [Act.put, List.setIfInBounds_toArray, List.set_cons_zero, List.set_cons_succ, i64_w, i32_w]
        rfl
      exact norm_ (by simp only [putAll, Act.put, List.setIfInBounds_toArray, List.set_cons_zero, List.set_cons_succ]) (hCont (w1.drew.heap.size, wb.heap.size) _ (by subst hwb; exact fk_ms HMK HPB))
    · skip
      refine value_ (w1 := w1.drew.alloc MK) (by rfl) rfl (mk_step rfl rfl rfl (hmk _)) ?_
      generalize hwb : w1.drew.alloc MK = wb
      refine hK.out _ _ ((box_cell (g := pb) (by rw [← hwb]; exact blk_alloc HPB.out _))) (fun hHeld => ?_)
      clear hK K
      refine norm_ (a' := ?_) ?_ ?_
      rotate_left
      · show Act.put _ (some 17) _ = _
        simp only [Act.put, List.setIfInBounds_toArray, List.set_cons_zero, List.set_cons_succ, i64_w, i32_w]
        rfl
      refine one_ (i := 1) (N := some 14) #[true, true, true, true, true, false, false, false] rfl rfl (by kernel_rfl) (by decide) (fun K hK => ?_)
      refine value_ (w1 := wb.alloc (.map #[] 0)) (by rfl) rfl (mm_step rfl (hmm _)) ?_
      refine hK.out _ _ ((box_cell (g := pb) (blk_alloc (by rw [← hwb]; exact blk_alloc HPB.out _) _))) (fun hHeld => ?_)
      clear hK K
      refine norm_ (a' := ?_) ?_ ?_
      rotate_left
      · show Act.put _ (some 14) _ = _
        simp only [Act.put, List.setIfInBounds_toArray, List.set_cons_zero, List.set_cons_succ, i64_w, i32_w]
        rfl
      exact norm_ (by simp only [putAll, Act.put, List.setIfInBounds_toArray, List.set_cons_zero, List.set_cons_succ]) (hCont (wb.heap.size, w1.drew.heap.size) _ (by subst hwb; exact fk_sm HMK HPB))
  rintro ⟨mb, ga⟩ w' hFk
  have HFk := Aside0.mk hFk
  have hHeld := box_cell hFk.hb
  clear hFk
  refine norm_ (a' := ?_) ?_ ?_
  rotate_left
  · simp only [putAll, Act.put, List.setIfInBounds_toArray, List.set_cons_zero, List.set_cons_succ]
    rfl
  refine pure_ (i := 5) (N := some 18) (v := ?_) (a' := ?_) #[true, true, true, true, true, true, false, false] rfl rfl (by kernel_rfl) (fun _ _ _ h => h) (Or.inl ⟨by rfl, ?_⟩) ?_ ?_
  rotate_left
  · intro w'
    go_simp
    with_reducible rfl
  rotate_left
  · simp only [Act.put, List.setIfInBounds_toArray, List.set_cons_zero, List.set_cons_succ, i64_w, i32_w]
    rfl
  refine one_ (i := 6) (N := some 19) #[true, true, true, true, true, true, true, false] rfl rfl (by kernel_rfl) (by decide) (fun K hK => ?_)
  refine value_ (w1 := w'.alloc (.cells #[.slice A0 nB c0, .map (some mb), .slice (some ⟨ga, 0, none⟩) nB nB, .int .i64 0] 44)) (by rfl) rfl (by go_simp; rfl) ?_
  refine hK.out _ _ (box_cell (blk_alloc HFk.out.hb _)) (fun hHeld => ?_)
  clear hK K
  refine norm_ (a' := ?_) ?_ ?_
  rotate_left
  · show Act.put _ (some 19) _ = _
    simp only [Act.put, List.setIfInBounds_toArray, List.set_cons_zero, List.set_cons_succ, i64_w, i32_w]
    rfl
  refine pure_ (i := 7) (N := some 3) (v := ?_) (a' := ?_) #[true, true, true, true, true, true, true, true] rfl rfl (by kernel_rfl) (fun _ _ _ h => h) (Or.inl ⟨by rfl, ?_⟩) ?_ ?_
  rotate_left
  · intro w'
    go_simp
    with_reducible rfl
  rotate_left
  · simp only [Act.put, List.setIfInBounds_toArray, List.set_cons_zero, List.set_cons_succ, i64_w, i32_w]
    rfl
  refine done_ (by kernel_rfl) ?_
  have HB2 := Aside0.mk (below_alloc (Below.trans'' HBA.out (Nat.le_refl _) HFk.out.hB) (.cells #[.slice A0 nB c0, .map (some mb), .slice (some ⟨ga, 0, none⟩) nB nB, .int .i64 0] 44))
  have HPB2 := Aside0.mk (blk_alloc HFk.out.hb (.cells #[.slice A0 nB c0, .map (some mb), .slice (some ⟨ga, 0, none⟩) nB nB, .int .i64 0] 44))
  have HM2 := Aside0.mk (HFk.out.hM.alloc (.cells #[.slice A0 nB c0, .map (some mb), .slice (some ⟨ga, 0, none⟩) nB nB, .int .i64 0] 44))
  have HA2 := Aside0.mk (Kd.R_alloc HFk.out.hA (.cells #[.slice A0 nB c0, .map (some mb), .slice (some ⟨ga, 0, none⟩) nB nB, .int .i64 0] 44))
  have HP2 := Aside0.mk (blk_new w' (.cells #[.slice A0 nB c0, .map (some mb), .slice (some ⟨ga, 0, none⟩) nB nB, .int .i64 0] 44))
  have HN2 : Aside0 (mb ≠ ga ∧ pb < mb ∧ pb < ga ∧ mb < w'.heap.size ∧ ga < w'.heap.size ∧ w'.heap.size < (w'.alloc (.cells #[.slice A0 nB c0, .map (some mb), .slice (some ⟨ga, 0, none⟩) nB nB, .int .i64 0] 44)).heap.size) := by
    have h1 := blk_lt HPB.out
    have h2 := HFk.out.hm0
    have h3 := HFk.out.hg0
    exact ⟨HFk.out.hne, by omega, by omega, HFk.out.hm1, HFk.out.hg1, by simp⟩
  clear HFk HPB1 HPB HBA HMK hmk q1 hHeld
  generalize w'.alloc (.cells #[.slice A0 nB c0, .map (some mb), .slice (some ⟨ga, 0, none⟩) nB nB, .int .i64 0] 44) = w2 at HB2 HPB2 HM2 HA2 HP2 HN2 ⊢
  generalize w'.heap.size = p at HP2 HN2 ⊢
  have HNE : Aside0 (PNe w.heap.size p mb ga pb w2.heap.size (w2.heap.size + 1)) := by
    obtain ⟨n1, n2, n3, n4, n5, n6⟩ := HN2.out
    have n0 := HPBL.out
    exact ⟨⟨by omega, by omega, by omega, by omega, by omega, by omega, by omega, by omega, by omega, by omega, by omega, by omega, by omega, by omega⟩⟩
  have HF0 : Aside0 (Fd (Pk w.heap.size p mb ga pb w2.heap.size (w2.heap.size + 1) (.slice A0 nB c0) 0 (.slice none 0 0) []) (fun j => j = ga) w p (.slice A0 nB c0) B nB mb 0 (.slice (some ⟨ga, 0, none⟩) nB nB) ((w2.alloc (.cells #[.slice none 0 0] 23)).alloc (.cells #[.int .i64 0] 3))) := by
    obtain ⟨n1, n2, n3, n4, n5, n6⟩ := HN2.out
    have n0 := HPBL.out
    refine ⟨by omega, by omega, by omega, below_alloc (below_alloc HB2.out _) _, blk_alloc (blk_alloc HP2.out _) _, (HM2.out.alloc _).alloc _, ?_, ⟨blk_alloc (blk_alloc HPB2.out _) _, blk_alloc (blk_new w2 _) _, ?_, Kd.R_nil _ _ _ _ _, by simp; omega⟩, pk_xok HNE.out⟩
    · rw [Ah_zero]
      exact Kd.R_alloc (Kd.R_alloc (Kd.R_lower (Kd.R_mono HA2.out (fun j hj => ⟨by omega, by omega, hj⟩)) HB1.out.size) _) _
    · have h := blk_new (w2.alloc (.cells #[.slice none 0 0] 23)) (.cells #[.int .i64 ((0 : Nat) : Int)] 3)
      simpa using h
  clear HPB2 HM2 HA2 HP2 HB2
  obtain ⟨po, hpo⟩ : ∃ po, w2.heap.size = po := ⟨_, rfl⟩
  obtain ⟨pf, hpf⟩ : ∃ pf, po + 1 = pf := ⟨_, rfl⟩
  go_wp2
  rw [hpo] at HF0 HNE HN2
  rw [hpf] at HF0 HNE
  generalize ((w2.alloc (.cells #[.slice none 0 0] 23)).alloc (.cells #[.int .i64 0] 3)) = w3 at HF0 ⊢
  go_loopg [7, 8, 9] nB (fun g v7 v8 v9 w' => ∃ (i fr q k : Nat) (v : Value) (OUT : List Int), g = nB - i ∧ v7 = .int .i64 i ∧ Aside0 (fr ≤ i ∧ i ≤ nB ∧ k ≤ i ∧ nB - i ≤ q ∧ OUT.length ≤ 28 * fr) ∧ Aside0 (packL B q i fr OUT = packL B nB 0 0 []) ∧ Aside0 (Fd (Pk w.heap.size p mb ga pb po pf (.slice A0 nB c0) fr v OUT) (fun j => j = ga) w p (.slice A0 nB c0) B nB mb k (.slice (some ⟨ga, 0, none⟩) nB nB) w'))
  case atStart => exact ⟨0, 0, nB, 0, _, [], rfl, rfl, ⟨by omega, by omega, by omega, by omega, by simp⟩, ⟨rfl⟩, HF0⟩
  case round =>
    clear HF0
    obtain ⟨i, fr, q, k, v, OUT, rfl, rfl, HI, HQ, HF⟩ := hrel
    have q1 := box_cell HF.out.hX.hb
    by_cases c1 : i < nB
    · have e1 : decide ((i : Int) < (nB : Int)) = true := decide_eq_true (by omega)
      have e1' : decide (i < nB) = true := decide_eq_true c1
      have C1 := Aside0.mk c1
      clear c1
      go_wp2_with fail
      refine (fd_best _ _ w p A0 nB c0 B mb k i _ _ HF.out HBL.out HC.out HC0.out HI.out.2.2.1 C1.out HNB.out HBY.out).mono ?_
      rintro e w4 ⟨rfl, k', hk', hF⟩
      have HK := Aside0.mk hk'
      have HF1 := Aside0.mk hF
      clear hk' hF q1 HF
      obtain ⟨n, hn⟩ : ∃ n, (bestR B i).1 = n := ⟨_, rfl⟩
      obtain ⟨far, hfar⟩ : ∃ far, (bestR B i).2 = far := ⟨_, rfl⟩
      rw [hn, hfar]
      have HBR := Aside0.mk (And.intro hn hfar)
      have HBE := Aside0.mk (bestR_le B i)
      rw [hn, hfar] at HBE
      clear hn hfar
      by_cases c2 : n < 4
      · have e2 : decide ((n : Int) < 4) = true := decide_eq_true (by omega)
        have e2' : decide (n < 4) = true := decide_eq_true c2
        have C2 := Aside0.mk c2
        obtain ⟨i2, hi2⟩ : ∃ i2 : Nat, i2 = i + 1 := ⟨_, rfl⟩
        have hadd : wrap64 ((i : Int) + 1) = (i2 : Int) := by have := C1.out; have := HNB.out; unfold wrap64; omega
        have HI2 := Aside0.mk hi2
        clear c2 hi2
        go_wp2
        go_roundg (nB - i2)
        case measure => have := C1.out; have := HI2.out; omega
        case rel =>
          obtain ⟨h1, h2, h3, h4, h5⟩ := HI.out
          have hq := HQ.out
          obtain ⟨q', rfl⟩ : ∃ q', q = q' + 1 := ⟨q - 1, by have := C1.out; omega⟩
          rw [packL, if_pos (by rw [HBL.out]; exact C1.out), if_pos (by rw [HBR.out.1]; exact C2.out), ← HI2.out] at hq
          have := C1.out; have := HI2.out; have := HK.out
          exact ⟨i2, fr, q', k', v, OUT, rfl, by rw [hadd], ⟨by omega, by omega, by omega, by omega, h5⟩, ⟨hq⟩, HF1⟩
      · have e2 : decide ((n : Int) < 4) = false := decide_eq_false (by omega)
        have e2' : decide (n < 4) = false := decide_eq_false c2
        have C2 := Aside0.mk c2
        clear c2
        go_wp2_with fail
        refine (pk_told w p mb ga pb po pf fr i nB k' A0 c0 _ _ OUT B _ HNE.out HF1.out HBL.out HC.out HC0.out (Nat.le_of_lt C1.out) HNB.out (by have := HI.out; have := HNB.out; omega)).mono ?_
        rintro e w5 ⟨rfl, v5, hF5⟩
        have HF5 := Aside0.mk hF5
        clear hF5 HF1
        obtain ⟨m1, hm1⟩ : ∃ m1 : Nat, m1 = n - 4 := ⟨_, rfl⟩
        obtain ⟨m2, hm2⟩ : ∃ m2 : Nat, m2 = 2 * m1 := ⟨_, rfl⟩
        obtain ⟨m3, hm3⟩ : ∃ m3 : Nat, m3 = m2 + 1 := ⟨_, rfl⟩
        obtain ⟨i2, hi2⟩ : ∃ i2 : Nat, i2 = i + n := ⟨_, rfl⟩
        have hs1 : wrap64 ((n : Int) - 4) = (m1 : Int) := by have := C2.out; have := HBE.out; unfold wrap64; omega
        have hs2 : wrap64 (2 * (m1 : Int)) = (m2 : Int) := by have := HBE.out; unfold wrap64; omega
        have hs3 : wrap64 ((m2 : Int) + 1) = (m3 : Int) := by have := HBE.out; unfold wrap64; omega
        have hs4 : wrap64 ((i : Int) + (n : Int)) = (i2 : Int) := by have := HBE.out; have := C1.out; have := HNB.out; unfold wrap64; omega
        have HM3 := Aside0.mk (show m3 = 2 * (n - 4) + 1 by omega)
        have HI2 := Aside0.mk hi2
        clear hm1 hm2 hm3 hi2
        have q5 := box_cell HF5.out.hX.ho
        go_wp2_with fail
        refine (sq_put v5 (flushL B fr i OUT) m3 w5 _ _ (by have := HM3.out; have := HBE.out; omega) (by have := flushL_len B fr i OUT (by have := C1.out; have := HNB.out; omega); have := HI.out; have := HNB.out; omega) HF5.out.hX.hR).mono ?_
        rintro e w6 ⟨v6, rfl, hR6, hb6⟩
        have HR6 := Aside0.mk hR6
        have HB6 := Aside0.mk hb6
        clear hR6 hb6 q5
        go_wp2_with fail
        refine (sq_put v6 _ far w6 _ _ (by have := HBE.out; have := C1.out; have := HNB.out; omega) (by have := flushL_len B fr i OUT (by have := C1.out; have := HNB.out; omega); have := HI.out; have := HNB.out; have := enc_len9 (n := m3) (by have := HM3.out; have := HBE.out; omega); simp only [List.length_append]; omega) HR6.out).mono ?_
        rintro e w7 ⟨v7, rfl, hR7, hb7⟩
        have HR7 := Aside0.mk (Kd.R_lower hR7 HB6.out.size)
        have HB7 := Aside0.mk (Below.trans' HB6.out hb7)
        clear hR7 hb7 HR6 HB6
        obtain ⟨A7, c7, rfl⟩ := Kd.R_slice HR7.out
        generalize hm7 : ((flushL B fr i OUT ++ enc m3) ++ enc far).length = m7 at HR7 ⊢
        have HX7 := Aside0.mk (HF5.out.below HB7.out).hX
        have q7 := box_cell HX7.out.ho
        have f7 := blk_frozen HX7.out.ho 0
        have HF8 := Aside0.mk (fd_out HNE.out HF5.out HB7.out HR7.out)
        have q8 := box_cell HF8.out.hX.hf
        have f8 := blk_frozen HF8.out.hX.hf 0
        have HF9 := Aside0.mk (fd_from (fr2 := i2) HNE.out HF8.out)
        clear HX7 HF5 HR7 HB7
        go_wp2
        go_roundg (nB - i2)
        case measure => have := C1.out; have := HI2.out; have := HBE.out; have := C2.out; omega
        case rel =>
          obtain ⟨h1, h2, h3, h4, h5⟩ := HI.out
          have hq := HQ.out
          obtain ⟨q', rfl⟩ : ∃ q', q = q' + 1 := ⟨q - 1, by have := C1.out; omega⟩
          rw [packL, if_pos (by rw [HBL.out]; exact C1.out), if_neg (by rw [HBR.out.1]; exact C2.out), HBR.out.1, HBR.out.2, ← HM3.out, ← HI2.out] at hq
          have := C1.out
          have := HI2.out
          have := HK.out
          have := HBE.out
          have := C2.out
          have := HBL.out
          have hf := flushL_len B fr i OUT (by have := C1.out; have := HNB.out; omega)
          have e3 := enc_len9 (n := m3) (by have := HM3.out; omega)
          have e4 := enc_len9 (n := far) (by have := HNB.out; omega)
          refine ⟨i2, i2, q', k', _, _, rfl, by first | rfl | rw [hs4], ⟨by omega, by omega, by omega, by omega, ?_⟩, ⟨hq⟩, by first | exact HF9 | (rw [hs4]; exact HF9)⟩
          simp only [List.length_append]
          omega
    · have e1 : decide ((i : Int) < (nB : Int)) = false := decide_eq_false (by omega)
      have e1' : decide (i < nB) = false := decide_eq_false c1
      have C1 := Aside0.mk c1
      clear c1
      go_wp2_with fail
      refine (pk_told w p mb ga pb po pf fr nB nB k A0 c0 _ _ OUT B _ HNE.out HF.out HBL.out HC.out HC0.out (Nat.le_refl _) HNB.out (by have := HI.out; have := HNB.out; omega)).mono ?_
      rintro e w5 ⟨rfl, v5, hF5⟩
      have HF5 := Aside0.mk hF5
      clear hF5 HF q1
      have q5 := box_cell HF5.out.hX.ho
      go_wp2
      go_ret
      refine ⟨_, rfl, ?_, HF5.out.hB⟩
      rw [← HQ.out, packL_end B q i fr OUT (by rw [HBL.out]; exact C1.out), HBL.out]
      exact Kd.R_mono HF5.out.hX.hR (fun _ _ => trivial)
theorem sq_pack_big (A0 : Option Addr) (nB c0 : Nat) (w : World) (hnB : nB > 65536) :
    Calls Try.prog 9 #[.slice A0 nB c0] w fun e w' => e = .returned (.slice none 0 0) ∧ Below w.heap.size w w' := by
  have e0 : decide ((65536 : Int) < (nB : Int)) = true := decide_eq_true (by omega)
  have e0' : decide (65536 < nB) = true := decide_eq_true hnB
  obtain ⟨w1, hw1⟩ : ∃ w1, w1 = w.alloc (.cells #[.slice A0 nB c0] 23) := ⟨_, rfl⟩
  obtain ⟨pb, hpb⟩ : ∃ pb, pb = w.heap.size := ⟨_, rfl⟩
  have HPB1 : Aside0 (w1.heap[pb]? = some (.cells #[.slice A0 nB c0] 23 (0, 0))) := ⟨by rw [hw1, hpb]; exact blk_new w _⟩
  have HB1 : Aside0 (Below w.heap.size w w1) := ⟨by rw [hw1]; exact below_alloc (Below.refl _ _) _⟩
  have q1 := box_cell HPB1.out
  clear hnB
  go_enter Try.func9, Try.ntmps9
  go_wp2
  rw [← hpb]
  rw [← hw1]
  have HPE := Aside0.mk hpb
  clear hw1 hpb
  go_wp2
  go_ret
  exact ⟨rfl, by rw [HPE.out]; exact HB1.out⟩
def squash_Pack.f (l : List Int) : Option (List Int) := if l.all (fun x => decide (0 ≤ x ∧ x ≤ 255)) = true then (if l.length > 65536 then some [] else some (packL l l.length 0 0 [])) else none
theorem squash_Pack.calls (A0 : Option Addr) (c0 : Nat) (l0 : List Int) (r : List Int) (w : World) (hr0 : Kd.C (Kd.int .u8) w A0 l0.length l0) (hc0 : l0.length ≤ c0) (h : squash_Pack.f l0 = some r) :
    Calls Try.prog 9 #[.slice A0 l0.length c0] w fun e w' => ∃ v0_ : Value, e = .returned (v0_) ∧ Kd.R (Kd.int .u8) 5 w' w.heap.size (fun _ => True) v0_ r ∧ Below w.heap.size w w' := by
  unfold squash_Pack.f at h
  by_cases hby : l0.all (fun x => decide (0 ≤ x ∧ x ≤ 255)) = true
  rotate_left
  · rw [if_neg hby] at h
    cases h
  rw [if_pos hby] at h
  by_cases hn : l0.length > 65536
  · rw [if_pos hn] at h
    obtain rfl := Option.some.inj h
    exact (sq_pack_big A0 _ c0 w hn).mono fun e w' h => ⟨_, h.1, Kd.R_nil _ _ _ _ _, h.2⟩
  · rw [if_neg hn] at h
    obtain rfl := Option.some.inj h
    exact sq_pack A0 _ c0 l0 w rfl hr0 hc0 (by omega) (fun x hx => by simpa using List.all_eq_true.1 hby x hx)
end


end Go.Proofs.Ytaneollgpllbiaa.P
