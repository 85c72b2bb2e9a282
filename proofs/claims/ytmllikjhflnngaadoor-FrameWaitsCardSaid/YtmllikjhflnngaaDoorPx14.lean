-- Written by a program of the session (wip/tool/mk.py) out of the translation; Lean checks it.
import Derived.Test.YtmllikjhflnngaaDoorPx0
import Derived.Test.YtmllikjhflnngaaDoorPx2
import Derived.Test.YtmllikjhflnngaaDoorPx8
import Derived.Test.YtmllikjhflnngaaDoorPx9
import Derived.Test.YtmllikjhflnngaaDoorPx13
namespace Go.Proofs.YtmllikjhflnngaaDoor.P
open Go.RowKit Go.Proofs.YtmllikjhflnngaaDoorW.PrintWords Go.Proofs.YtmllikjhflnngaaDoorW.PrintLast Go.Proofs.YtmllikjhflnngaaDoorW.PrintMore
attribute [local go_sem] max2_int min2_int max_two min_two max_three min_three max_four min_four   -- for this text's walks alone
set_option linter.unusedVariables false
set_option linter.unusedSimpArgs false

/-! ### remoralaw29_FrameNone: function 6, a contract of my own -/
theorem st_Feed_nil (v : Value) (hv : ∃ A m c, v = .slice A m c) (w : World) : Calls Tryd.prog 18 #[.pointer none, v] w fun e w' => e = .returned (.tuple #[]) ∧ Below w.heap.size w w' := by
  obtain ⟨A, m, c, rfl⟩ := hv
  go_enter Tryd.func18, Tryd.ntmps18
  go_wp2
  try go_region
  try go_wp2
  refine bodyPost_end (results_none rfl _ _ _) rfl ?_
  exact ⟨rfl, by first | exact Below.refl _ _ | exact below_drew (Below.refl _ _)⟩
theorem st_Next_nil (w : World) : Calls Tryd.prog 19 #[.pointer none] w fun e w' => e = .returned (.tuple #[.agg #[.int .i64 0, .slice none 0 0], .bool false]) ∧ Below w.heap.size w w' := by
  go_enter Tryd.func19, Tryd.ntmps19
  go_wp2
  all_goals (try go_region)
  all_goals (try go_wp2)
  all_goals (try (refine bodyPost_ret (by simp [results, Tryd.results19, go_sem]; try rfl) rfl ?_))
  exact ⟨rfl, below_alloc (Below.refl _ w) _⟩
theorem st_Left_nil (w : World) : Calls Tryd.prog 20 #[.pointer none] w fun e w' => e = .returned (.int .i64 0) ∧ w' = w := by
  go_enter Tryd.func20, Tryd.ntmps20
  go_wp2
  go_ret
  exact ⟨rfl, rfl⟩
theorem st_Err_nil (w : World) : Calls Tryd.prog 21 #[.pointer none] w fun e w' => e = .returned (.int .i64 1) ∧ w' = w := by
  go_enter Tryd.func21, Tryd.ntmps21
  go_wp2
  go_ret
  exact ⟨rfl, rfl⟩
def remoralaw29_FrameNone.f (l0 : List Int) : Option Bool := some true
set_option maxHeartbeats 4000000 in
set_option maxRecDepth 100000 in
theorem remoralaw29_FrameNone.calls (A0 : Option Addr) (c0 : Nat) (l0 : List Int) (r : Bool) (w : World) (hG : GT w) (h : remoralaw29_FrameNone.f l0 = some r) :
    Calls Tryd.prog 6 #[.slice A0 l0.length c0] w fun e w' => e = .returned (.bool r) ∧ Below w.heap.size w w' := by
  obtain rfl : true = r := Option.some.inj h
  have HG := Aside0.mk hG
  clear h hG
  go_enter Tryd.func6, Tryd.ntmps6
  go_wp2_with fail
  refine (st_Feed_nil _ ⟨_, _, _, rfl⟩ _).mono ?_
  rintro e w1 ⟨rfl, hb1⟩
  have B1 := Aside0.mk hb1
  clear hb1
  go_wp2_with fail
  refine (st_Next_nil _).mono ?_
  rintro e w2 ⟨rfl, hb2⟩
  have B2 := Aside0.mk (below_step B1.out hb2)
  clear hb2 B1
  go_wp2_with fail
  refine (frGet_end A0 c0 l0 _).mono ?_
  rintro e w3 ⟨rfl, hb3⟩
  have s3 : w2.heap.size < w3.heap.size := by have := hb3.size; simp at this; omega
  have q0 : w3.cell? ⟨w2.heap.size, 0, none⟩ = some (.int .i64 0) := (hb3.cell (p := ⟨w2.heap.size, 0, none⟩) (by simp)).trans (by simp)
  have q1 : w3.cell? ⟨w2.heap.size, 1, none⟩ = some (.slice none 0 0) := (hb3.cell (p := ⟨w2.heap.size, 1, none⟩) (by simp)).trans (by simp)
  have B3 := Aside0.mk (below_step (below_alloc B2.out _) hb3)
  clear hb3 B2
  go_wp2_with fail
  refine (frGet_range A0 c0 l0 (-1) _ (.inl (by decide))).mono ?_
  rintro e w4 ⟨rfl, hb4⟩
  have s4 : w2.heap.size < w4.heap.size := by have := hb4.size; simp at this; omega
  have r0 : w4.cell? ⟨w2.heap.size, 0, none⟩ = some (.int .i64 0) := ((below_alloc (Below.refl _ w3) _).cell (p := ⟨w2.heap.size, 0, none⟩) s3).trans q0 ▸ hb4.cell (p := ⟨w2.heap.size, 0, none⟩) (by simp; omega)
  have r1 : w4.cell? ⟨w2.heap.size, 1, none⟩ = some (.slice none 0 0) := ((below_alloc (Below.refl _ w3) _).cell (p := ⟨w2.heap.size, 1, none⟩) s3).trans q1 ▸ hb4.cell (p := ⟨w2.heap.size, 1, none⟩) (by simp; omega)
  have B4 := Aside0.mk (below_step (below_alloc B3.out _) hb4)
  have hne : w2.heap.size ≠ w4.heap.size := by omega
  clear hb4 B3 q0 q1 s3
  go_wp2_with fail
  refine (st_Left_nil _).mono ?_
  rintro e w5 ⟨rfl, hw5⟩
  subst hw5
  go_wp2_with fail
  refine (st_Err_nil _).mono ?_
  rintro e w6 ⟨rfl, hw6⟩
  subst hw6
  go_wp2_with fail
  refine (remoralaw29_awake.calls true _ (GT.below HG.out (below_alloc B4.out _)) rfl).mono ?_
  rintro e w7 ⟨rfl, hb7⟩
  have B7 := Aside0.mk (below_step (below_alloc B4.out _) hb7)
  clear hb7
  go_wp2
  go_ret
  exact ⟨rfl, B7.out⟩
def remoralaw29_FrameNone.Pure : Prop := ∀ (l0 : List Int), l0.length ≤ maxLen → l0.length * 1 ≤ 140737488351232 → (∀ x ∈ l0, (Lit.int .u8 x).wf = true) → remoralaw29_FrameNone.f l0 = some true
theorem remoralaw29_FrameNone.walk (P : remoralaw29_FrameNone.Pure) (a0 : Option Addr) (len0 cap0 : Nat) (z0 : List Int) (w : World) (hG : GT w) (w0 : (a0 = none ∧ len0 = 0 ∧ cap0 = 0 ∧ z0 = []) ∨ ∃ x, a0 = some x ∧ len0 ≤ cap0 ∧ cap0 ≤ maxLen ∧ z0.length = cap0 ∧ (∀ i, i < z0.length → w.cell? (x.add i) = some (.int .u8 (z0.getD i 0))) ∧ ∀ n ∈ z0, (Lit.int .u8 n).wf = true) (y0 : len0 * 1 ≤ 140737488351232) :
    Calls Tryd.prog 6 #[.slice a0 len0 cap0] w fun e w' => e = .returned (.bool true) ∧ Below w.heap.size w w' := by
  obtain ⟨l0, rfl, hr0, hm0, hw0, hc0⟩ := ReadsInt.ofRowC w0
  exact remoralaw29_FrameNone.calls _ _ l0 true w hG (P l0 hm0 y0 hw0)


-- NOT PRINTED: function 5 (remoralaw29_FrameBack)

/-- A state of type 74 at block g of W; what its slices lead to came in by w0. -/
def IsS74 (w0 W : World) (g : Nat) (f0 : List Int) (f1 : Int) : Prop := ∃ A0 c0, W.heap[g]? = some (.cells #[.slice A0 f0.length c0, .int .i64 f1] 74 (0, 0)) ∧ w0.heap.size ≤ g ∧ Kd.C (Kd.int .u8) w0 A0 f0.length f0
theorem IsS74.grown {w0 W : World} {g : Nat} {f0 : List Int} {f1 : Int} {W1 : World} {row : Option Nat} (h : IsS74 w0 W g f0 f1) (hw : W.grownBy W1 row) (hne : some g ≠ row) : IsS74 w0 W1 g f0 f1 := by
  obtain ⟨A0, c0, hb, hg, hr0⟩ := h
  exact ⟨A0, c0, blk_grown hb hw hne, hg, hr0⟩
theorem IsS74.own_neN {w0 W : World} {g : Nat} {f0 : List Int} {f1 : Int} {α : Type} {d : Kd α} {e : Nat} {base : Nat} {ok : Nat → Prop} {v : Value} {xs : List α} (h : IsS74 w0 W g f0 f1) (ho : Kd.N d e W base ok v xs) (ht : e ≠ 74) : some g ≠ v.ownBlock := by
  obtain ⟨A0, c0, hb, hg, hr0⟩ := h
  exact Kd.N_ne ho hb ht
theorem IsS74.fresh {w0 W : World} {g : Nat} {f0 : List Int} {f1 : Int} (h : IsS74 w0 W g f0 f1) : ∀ k, W.heap.size ≤ k → k ≠ g := by
  obtain ⟨A0, c0, hb, hg, hr0⟩ := h
  exact Kd.freshB hb
theorem IsS74.kept {w0 W : World} {g : Nat} {f0 : List Int} {f1 : Int} {W1 : World} {S : Nat → Prop} (h : IsS74 w0 W g f0 f1) (hk : Kept W W1 S) (hne : ¬ S g) : IsS74 w0 W1 g f0 f1 := by
  obtain ⟨A0, c0, hb, hg, hr0⟩ := h
  exact ⟨A0, c0, blk_kept hb hk hne, hg, hr0⟩
theorem IsS74.below {w0 W : World} {g : Nat} {f0 : List Int} {f1 : Int} {W1 : World} (h : IsS74 w0 W g f0 f1) (hw : Below W.heap.size W W1) : IsS74 w0 W1 g f0 f1 := h.grown (grown_of_below hw none) (by simp)
theorem IsS74.alloc {w0 W : World} {g : Nat} {f0 : List Int} {f1 : Int} (h : IsS74 w0 W g f0 f1) (o : Obj) : IsS74 w0 (W.alloc o) g f0 f1 := h.below (below_alloc (Below.refl _ _) o)
theorem IsS74.drewN {w0 W : World} {g : Nat} {f0 : List Int} {f1 : Int} (h : IsS74 w0 W g f0 f1) (m : Nat) : IsS74 w0 (W.drewN m) g f0 f1 := h
theorem IsS74.drew {w0 W : World} {g : Nat} {f0 : List Int} {f1 : Int} (h : IsS74 w0 W g f0 f1) : IsS74 w0 W.drew g f0 f1 := h
theorem IsS74.at_ {w0 W : World} {g : Nat} {f0 : List Int} {f1 : Int} {w' : World} {m : Nat} (hq : W.drewN m = w') (h : IsS74 w0 W g f0 f1) : IsS74 w0 w' g f0 f1 := by subst hq; exact IsS74.drewN h m
theorem IsS74.apart {w0 W : World} {g : Nat} {f0 : List Int} {f1 : Int} {α : Type} {d : Kd α} {e : Nat} {base : Nat} {ok : Nat → Prop} {v : Value} {xs : List α} (h : IsS74 w0 W g f0 f1) (ho : d.R e W base ok v xs) (ht : ∀ q, q ∈ e :: d.E → q ≠ 74) : d.R e W base (fun k => ok k ∧ k ≠ g) v xs := by
  obtain ⟨A0, c0, hb, hg, hr0⟩ := h
  exact Kd.R_types ho hb ht
theorem IsS74.own_ne {w0 W : World} {g : Nat} {f0 : List Int} {f1 : Int} {α : Type} {d : Kd α} {e : Nat} {base : Nat} {ok : Nat → Prop} {v : Value} {xs : List α} (h : IsS74 w0 W g f0 f1) (ho : d.R e W base ok v xs) (ht : e ≠ 74) : some g ≠ v.ownBlock := by
  obtain ⟨A0, c0, hb, hg, hr0⟩ := h
  exact Kd.R_ne ho hb ht
theorem IsS74.apartQ {w0 W : World} {g : Nat} {f0 : List Int} {f1 : Int} {α : Type} {d : Kd α} {e : Nat} {base : Nat} {ok : Nat → Prop} {v : Value} {xs : List α} (h : IsS74 w0 W g f0 f1) (ho : d.Q e W base ok v xs) (ht : ∀ q, q ∈ e :: d.E → q ≠ 74) : d.Q e W base (fun k => ok k ∧ k ≠ g) v xs := by
  obtain ⟨A0, c0, hb, hg, hr0⟩ := h
  exact Kd.Q_types ho hb ht
theorem IsS74.own_neQ {w0 W : World} {g : Nat} {f0 : List Int} {f1 : Int} {α : Type} {d : Kd α} {e : Nat} {base : Nat} {ok : Nat → Prop} {v : Value} {xs : List α} (h : IsS74 w0 W g f0 f1) (ho : d.Q e W base ok v xs) (ht : e ≠ 74) : some g ≠ v.ownBlock := by
  obtain ⟨A0, c0, hb, hg, hr0⟩ := h
  exact Kd.Q_ne ho hb ht
theorem IsS74.apartS {w0 W : World} {g : Nat} {f0 : List Int} {f1 : Int} {α : Type} {d : Kd α} {e : Nat} {base : Nat} {ok : Nat → Prop} {v : Value} {xs : List α} (h : IsS74 w0 W g f0 f1) (ho : d.S e W base ok v xs) (ht : ∀ q, q ∈ e :: d.E → q ≠ 74) : d.S e W base (fun k => ok k ∧ k ≠ g) v xs := by
  obtain ⟨A0, c0, hb, hg, hr0⟩ := h
  exact Kd.S_types ho hb ht
theorem IsS74.own_neS {w0 W : World} {g : Nat} {f0 : List Int} {f1 : Int} {α : Type} {d : Kd α} {e : Nat} {base : Nat} {ok : Nat → Prop} {v : Value} {xs : List α} (h : IsS74 w0 W g f0 f1) (ho : d.S e W base ok v xs) (ht : e ≠ 74) : some g ≠ v.ownBlock := by
  obtain ⟨A0, c0, hb, hg, hr0⟩ := h
  exact Kd.S_ne ho hb ht
theorem IsS74.lt {w0 W : World} {g : Nat} {f0 : List Int} {f1 : Int} (h : IsS74 w0 W g f0 f1) : g < W.heap.size := by
  obtain ⟨A0, c0, hb, hg, hr0⟩ := h
  exact blk_lt hb
theorem IsS74.ge {w0 W : World} {g : Nat} {f0 : List Int} {f1 : Int} (h : IsS74 w0 W g f0 f1) : w0.heap.size ≤ g := by
  obtain ⟨A0, c0, hb, hg, hr0⟩ := h
  exact hg
theorem IsS74.ne_blk {w0 W : World} {g : Nat} {f0 : List Int} {f1 : Int} {a : Nat} {cs : Array Value} {t : TypeId} {fr : Nat × Nat} (h : IsS74 w0 W g f0 f1) (hb2 : W.heap[a]? = some (.cells cs t fr)) (ht : t ≠ 74) : g ≠ a := by
  obtain ⟨A0, c0, hb, hg, hr0⟩ := h
  rintro rfl
  rw [hb] at hb2
  injection hb2 with hb2
  injection hb2 with _ ht2
  exact ht ht2.symm
theorem IsS74.far {w0 W : World} {g : Nat} {f0 : List Int} {f1 : Int} {p : Addr} (h : IsS74 w0 W g f0 f1) (hne : g ≠ p.block) (u : Value) : IsS74 w0 (W.setCell p u) g f0 f1 := by
  obtain ⟨A0, c0, hb, hg, hr0⟩ := h
  exact ⟨A0, c0, blk_far hb hne u, hg, hr0⟩
theorem cellS74_0 {W : World} {g : Nat} {A0 : Option Addr} {c0 : Nat} {f0 : List Int} {f1 : Int} (h : W.heap[g]? = some (.cells #[.slice A0 f0.length c0, .int .i64 f1] 74 (0, 0))) : W.cell? ⟨g, 0, none⟩ = some (.slice A0 f0.length c0) := (blk_cell h 0).trans rfl
theorem cellS74_1 {W : World} {g : Nat} {A0 : Option Addr} {c0 : Nat} {f0 : List Int} {f1 : Int} (h : W.heap[g]? = some (.cells #[.slice A0 f0.length c0, .int .i64 f1] 74 (0, 0))) : W.cell? ⟨g, 1, none⟩ = some (.int .i64 f1) := (blk_cell h 1).trans rfl
theorem IsS74.set_1 {w0 W : World} {g : Nat} {f0 : List Int} {f1 : Int} (h : IsS74 w0 W g f0 f1) (x : Int) : IsS74 w0 (W.setCell ⟨g, 1, none⟩ (.int .i64 x)) g f0 x := by
  obtain ⟨A0, c0, hb, hg, hr0⟩ := h
  exact ⟨A0, c0, by simpa using blk_set hb 1 (.int .i64 x), hg, hr0⟩
theorem IsS74.new (w0 W : World) (A0 : Option Addr) (c0 : Nat) (f0 : List Int) (f1 : Int) (hB : Below w0.heap.size w0 W) (hr0 : Kd.C (Kd.int .u8) w0 A0 f0.length f0) : IsS74 w0 (W.alloc (.cells #[.slice A0 f0.length c0, .int .i64 f1] 74)) W.heap.size f0 f1 := ⟨A0, c0, by simpa using heap_alloc_new W _, hB.size, hr0⟩

/-! ### frame_New: function 22 -/
def frame_New.f  : Option (List Int × Int) := some (([] : List Int), 0)
set_option maxHeartbeats 8000000 in
set_option maxRecDepth 100000 in
theorem frame_New.calls  (r1 : List Int) (r2 : Int) (w0 w : World) (hB : Below w0.heap.size w0 w) (h : frame_New.f  = some (r1, r2)) :
    Calls Tryd.prog 22 #[] w fun e w' => ∃ g_ : Nat, e = .returned (.pointer (some ⟨g_, 0, none⟩)) ∧ IsS74 w0 w' g_ r1 r2 ∧ Below w0.heap.size w0 w' ∧ Below w.heap.size w w' := by
  have hu74 := Tryd.underlying74
  have HBW := Aside0.mk (Below.refl w.heap.size w)
  have HW0 := Aside0.mk hB.size
  have HB := Aside0.mk hB
  clear hB
  have H : (some (([] : List Int), 0)) = some (r1, r2) := h
  clear h
  simp only [Option.some.injEq, Prod.mk.injEq] at H
  obtain ⟨rfl, rfl⟩ := H
  go_enter Tryd.func22, Tryd.ntmps22
  go_wp2_with (first | ((with_reducible refine gate_dst (N := 2) rfl ?_); refine box_event ?hg (N := 2) ?hd (cs := #[.slice none 0 0, .int .i64 0]) (t := 74) ?hr ?_; (case hd => rfl); (case hg => rfl); (case hr => first | (go_simp; done) | (go_simp; rfl)); intro gb232 hg w1 hbox hb; have n0_ := Aside0.mk (below_step HBW.out hb); have n1_ := Aside0.mk (below_step (by repeat (first | (with_reducible first | exact HB.out | apply below_alloc | apply pw_below_drewN | apply below_drew1) | exact HB.out)) hb); have n2_ := Aside0.mk (hbox); have n3_ := Aside0.mk ((by rw [hg]; exact (below_size (by repeat (first | (with_reducible first | exact HBW.out | apply below_alloc | apply pw_below_drewN | apply below_drew1) | exact HBW.out))) : w.heap.size ≤ gb232)); have n4_ := Aside0.mk ((Nat.le_trans HW0.out (by rw [hg]; exact (below_size (by repeat (first | (with_reducible first | exact HBW.out | apply below_alloc | apply pw_below_drewN | apply below_drew1) | exact HBW.out))) : w.heap.size ≤ gb232) : w0.heap.size ≤ gb232)); clear HBW; clear HB; have HBW := n0_; have HB := n1_; have BK232 := n2_; have GW232 := n3_; have GE232 := n4_; clear n0_ n1_ n2_ n3_ n4_; clear hb hbox hg))
  go_ret
  exact ⟨_, rfl, (show IsS74 w0 _ gb232 ([] : List Int) 0 from ⟨none, 0, by (with_reducible repeat (first | refine blk_drewN ?_ _ | refine blk_drew ?_ | refine blk_alloc ?_ _)); exact BK232.out, GE232.out, (Kd.C_nil _ _)⟩), by repeat (first | (with_reducible first | exact HB.out | apply below_alloc | apply pw_below_drewN | apply below_drew1 | refine below_set ?_ GE232.out) | exact HB.out), by repeat (first | (with_reducible first | exact HBW.out | apply below_alloc | apply pw_below_drewN | apply below_drew1 | refine below_set ?_ GW232.out) | exact HBW.out)⟩

/-! ### remoralaw29_waits: function 29, a contract of my own -/
set_option maxHeartbeats 4000000 in
set_option maxRecDepth 100000 in
theorem waits_true (k : Nat) (A0 : Option Addr) (c0 : Nat) (kind cut turn : Int) (body B : List Int) (w : World) (hG : GT w) (hC : Kd.C (Kd.int .u8) w A0 body.length body) (hc0 : body.length ≤ c0) (hk0 : 0 ≤ kind) (hk1 : kind ≤ 255) (ht0 : 0 ≤ turn) (ht1 : turn ≤ 255) (hcut : 0 ≤ cut) (hcut2 : cut ≤ 65535) (hb5 : body.length ≤ 5000)
    (hput : frame_Put.f k kind body = some (B, 0)) (h6 : 6 ≤ B.length) (hB : B.length ≤ 100000) (m : Nat) (hm : cut % (B.length : Int) = (m : Int)) (hshort : frame_Get.f k (B.take m) 0 = some (0, [], 0, 4)) (hgot : frame_Get.f k B 0 = some (kind, body, (B.length : Int), 0))
    (bad : List Int) (hbd : bad = B.set (B.length - 1) (Go.bits .xor .u8 (B.getD (B.length - 1) 0) (1 + turn % 255))) (hbad : frame_Get.f k bad 0 = some (0, [], 0, 6)) :
    Calls Tryd.prog 29 #[.int .u8 kind, .slice A0 body.length c0, .int .i64 cut, .int .u8 turn] w fun e w' => e = .returned (.bool true) ∧ Below w.heap.size w w' := by
  have HG := Aside0.mk hG
  have HC := Aside0.mk hC
  have HPUT := Aside0.mk hput
  have HSH := Aside0.mk hshort
  have HGOT := Aside0.mk hgot
  have HBAD := Aside0.mk hbad
  have HBD := Aside0.mk hbd
  have HM := Aside0.mk hm
  have hb1 : decide (5000 < (body.length : Int)) = false := decide_eq_false (by omega)
  have hb2 : decide (5000 < body.length) = false := decide_eq_false (by omega)
  have hb3 : decide ((B.length : Int) < 6) = false := decide_eq_false (by omega)
  have hb4 : decide (B.length < 6) = false := decide_eq_false (by omega)
  clear hG hC hput hshort hgot hbad hm hbd
  go_enter Tryd.func29, Tryd.ntmps29
  go_wp2_with fail
  refine (frame_Put.calls k kind A0 c0 body B 0 _ HG.out HC.out hc0 HPUT.out).mono ?_
  rintro e w1 ⟨v, rfl, hR, hb⟩
  obtain ⟨g1, c1, rfl, hg1, hg1', _⟩ := Kd.R_form hR (by omega)
  obtain ⟨_, hc1, hC1⟩ := Kd.R_reads' hR
  have HC1 := Aside0.mk hC1
  have HB1 := Aside0.mk hb
  have hmB0 : m < B.length := by have h1 := HM.out; have h2 := Int.emod_lt_of_pos cut (show (0 : Int) < (B.length : Int) by omega); omega
  have hmB : m ≤ B.length := by omega
  have hm' := HM.out
  have hcu := cut_upto (some ⟨g1, 0, none⟩) B.length c1 m hmB hc1
  obtain ⟨D, hcb, hCD, hcd⟩ := cut_behind m hC1 hmB hc1
  have HCU := Aside0.mk (C_upto m hC1 hmB)
  have HCD := Aside0.mk hCD
  have Hm := Aside0.mk hmB
  have H6 := Aside0.mk h6
  have HBL := Aside0.mk hB
  have hn0 : ((B.length : Nat) : Int) ≠ 0 := by omega
  have hn1 : B.length ≠ 0 := by omega
  have hn2 : (B.length = 0) = False := eq_false hn1
  have hdl : B.length - m = (B.drop m).length := by rw [List.length_drop]
  have htl : (B.take m).length = m := by rw [List.length_take]; omega
  have HDL := Aside0.mk hdl
  have HTL := Aside0.mk htl
  clear hb hR hC1 hCD hcd hmB h6 hB hdl htl hmB0
  generalize hn : B.length = n at *
  generalize hnm : n - m = n2 at *
  have HN := Aside0.mk hn
  have HN2 := Aside0.mk (show n2 ≤ n by omega)
  clear hn hnm
  go_wp2_with fail
  refine (frame_New.made _).mono ?_
  rintro e w2 ⟨rfl, rfl⟩
  have HS2 := Aside0.mk (Strm.new w1)
  have HP2 := Aside0.mk (below_alloc (Below.refl _ w1) (.cells #[.slice none 0 0, .int .i64 0] 74))
  obtain ⟨p, hp⟩ : ∃ p, w1.heap.size = p := ⟨_, rfl⟩
  have hwp : w.heap.size ≤ p := by have := HB1.out.size; omega
  have HWP := Aside0.mk hwp
  rw [hp] at HS2
  rw [hp]
  generalize w1.alloc (.cells #[.slice none 0 0, .int .i64 0] 74) = w2 at HS2 HP2 ⊢
  have Hp := Aside0.mk hp
  clear hwp hp
  go_wp2_with fail
  refine (st_Feed.at_ _ p p [] (B.take m) (.slice none 0 0) _ m _ _ HTL.out HS2.out (fun k hk => Nat.ne_of_gt hk) (fun k hk => Nat.lt_of_lt_of_le (blk_lt HS2.out.hP) hk) (Nat.le_refl _) (Kd.C_below HCU.out HP2.out) (by simp; have := HTL.out; have := HBL.out; have := Hm.out; omega)).mono ?_
  rintro e w3 ⟨rfl, hb3, hk3, v3, hS3⟩
  rw [List.nil_append] at hS3
  have HS3 := Aside0.mk hS3
  have HP3 := Aside0.mk (HP2.out.trans (Hp.out ▸ hb3))
  obtain ⟨A3, c3, rfl⟩ := hS3.sliceN HTL.out
  have q3 := (st_cells hS3.hP).1
  clear hb3 hk3 hS3 HS2 HP2
  go_wp2_with fail
  have HG3 := Aside0.mk ((HG.out.below HB1.out).below HP3.out)
  refine (st_Next.short _ p p k (B.take m) _ _ HG3.out HS3.out HSH.out).mono ?_
  rintro e w4 ⟨rfl, hb4'⟩
  have hb4'' := below_alloc hb4' (.cells #[.int .i64 0, .slice none 0 0] 27)
  have HS4 := Aside0.mk (HS3.out.below hb4'')
  have HP4 := Aside0.mk (HP3.out.trans (hb4''.mono HP3.out.size))
  have q4 := (st_cells HS4.out.hP).1
  have q4' := (st_cells HS4.out.hP).2
  clear hb4' hb4'' HS3 HP3 HG3 q3
  go_wp2_with fail
  generalize w4.alloc (.cells #[.int .i64 0, .slice none 0 0] 27) = w4a at HS4 HP4 q4 q4' ⊢
  refine (st_Left.at_ p A3 m c3 _ q4).mono ?_
  rintro e w5 ⟨rfl, hw5⟩
  subst hw5
  go_wp2_with fail
  refine (st_Err.at_ p 0 _ q4').mono ?_
  rintro e w6 ⟨rfl, hw6⟩
  subst hw6
  go_wp2_with fail
  refine (st_Feed.at_ _ p p (B.take m) (B.drop m) _ D n2 _ _ HDL.out.symm HS4.out (fun k hk => Nat.ne_of_gt hk) (fun k hk => Nat.lt_of_lt_of_le (blk_lt HS4.out.hP) hk) (Nat.le_refl _) (Kd.C_below HCD.out HP4.out) (by have := HTL.out; have := HBL.out; have := Hm.out; have := HDL.out; have := HN2.out; omega)).mono ?_
  rintro e w7 ⟨rfl, hb7, hk7, v7, hS7⟩
  rw [List.take_append_drop] at hS7
  have HS7 := Aside0.mk hS7
  have HP7 := Aside0.mk (HP4.out.trans (Hp.out ▸ hb7))
  clear hb7 hk7 hS7 HS4 HP4 q4 q4'
  go_wp2_with fail
  have HG7 := Aside0.mk ((HG.out.below HB1.out).below HP7.out)
  refine (st_Next.got _ p p k B kind body (n : Int) _ _ HG7.out HS7.out HGOT.out (by omega) (by have := HN.out; omega) (Nat.le_refl _) (fun k hk => Nat.ne_of_gt hk) (fun k hk => Nat.lt_of_le_of_lt (Nat.le_of_lt (blk_lt HS7.out.hP)) hk) (Nat.le_of_lt (blk_lt HS7.out.hP)) (by have := HN.out; have := HBL.out; omega)).mono ?_
  rintro e w8 ⟨v1, v8, rfl, hR8, hb8, hk8, hS8⟩
  obtain ⟨A8, cc8, rfl, hcc8, hC8⟩ : ∃ A c, v1 = .slice A body.length c ∧ body.length ≤ c ∧ Kd.C (Kd.int .u8) w8 A body.length body := by
    obtain ⟨A, c, rfl⟩ := Kd.R_slice hR8
    obtain ⟨_, h2, h3⟩ := Kd.R_reads' hR8
    exact ⟨A, c, rfl, h2, h3⟩
  have hba := below_alloc (Below.refl _ w8) (.cells #[.int .i64 kind, .slice A8 body.length cc8] 27)
  have HS9 := Aside0.mk (hS8.below hba)
  have HP9 := Aside0.mk (HP7.out.trans (((Hp.out ▸ hb8 : Below w1.heap.size w7 w8)).trans (hba.mono (Nat.le_trans HP7.out.size hb8.size))))
  have u9 := Aside0.mk (fr_new w8 (.cells #[.int .i64 kind, .slice A8 body.length cc8] 27))
  have x0 : (w8.alloc (.cells #[.int .i64 kind, .slice A8 body.length cc8] 27)).cell? ⟨w8.heap.size, 0, none⟩ = some (.int .i64 kind) := by rw [cell_of_row _ _ _ _ 27 (0, 0) u9.out]; rfl
  have x1 : (w8.alloc (.cells #[.int .i64 kind, .slice A8 body.length cc8] 27)).cell? ⟨w8.heap.size, 1, none⟩ = some (.slice A8 body.length cc8) := by rw [cell_of_row _ _ _ _ 27 (0, 0) u9.out]; rfl
  have hs8 : (convert 22 9 (.slice A8 body.length cc8)).run Tryd.prog (w8.alloc (.cells #[.int .i64 kind, .slice A8 body.length cc8] 27)) = .ok (.string (strOfNums body)) (w8.alloc (.cells #[.int .i64 kind, .slice A8 body.length cc8] 27)) :=
    Kd.C_string (P := Tryd.prog) (A := A8) (c := cc8) Tryd.underlying22 Tryd.underlying5 Tryd.underlying9 (Kd.C_alloc hC8 _)
  have hs9 : (convert 22 9 (.slice A0 body.length c0)).run Tryd.prog (w8.alloc (.cells #[.int .i64 kind, .slice A8 body.length cc8] 27)) = .ok (.string (strOfNums body)) (w8.alloc (.cells #[.int .i64 kind, .slice A8 body.length cc8] 27)) :=
    Kd.C_string (P := Tryd.prog) (A := A0) (c := c0) Tryd.underlying22 Tryd.underlying5 Tryd.underlying9 (Kd.C_below HC.out (HB1.out.trans (HP9.out.mono (by rw [Hp.out]; exact HWP.out))))
  obtain ⟨A9, c9, rfl⟩ := HS9.out.sliceN (n := 0) (by simp; have := HN.out; omega)
  have q9 := (st_cells HS9.out.hP).1
  have q9' := (st_cells HS9.out.hP).2
  clear hR8 hb8 hk8 hS8 hcc8 hC8 hba HS7 HP7 HG7
  go_wp2_with fail
  refine (st_Left.at_ p A9 0 c9 _ q9).mono ?_
  rintro e w10 ⟨rfl, hw10⟩
  subst hw10
  have HW9 := Aside0.mk (HB1.out.trans (HP9.out.mono (by rw [Hp.out]; exact HWP.out)))
  generalize w8.alloc (.cells #[.int .i64 kind, .slice A8 body.length cc8] 27) = w9 at HS9 HP9 HW9 q9 q9' ⊢
  clear x0 x1 hs8 hs9 u9
  go_wp2_with ((with_reducible refine gate_builtin (b := .append) (xs := #[.tmp 104, .tmp 105]) rfl ?_); (try (refine gate_guard (by rfl) ?_; dsimp only)); at_builtin; refine Kd.R_append_rows (Kd.int .u8) (w0 := w) w.heap.size rfl (.tmp 104) (.tmp 105) 22 5 (.int .u8 0) 1 rfl Tryd.underlying22 info5 rfl (by decide) (by omega) (.slice none 0 0) ([] : List Int) B (some ⟨g1, 0, none⟩) n c1 (fun k => w9.heap.size ≤ k) (fun _ => False) rfl rfl ?aO ?aR (fun _ _ h => h) (fun _ h => h.elim) ?aF ?aB ?aS ?aL ?_; (case aR => exact Kd.C_below HC1.out HP9.out); (case aB => exact HW9.out); (case aF => exact fun k hk => hk); (case aO => exact Kd.R_nil _ _ _ _ _); (case aS => exact HW9.out.size); (case aL => have := HBL.out; simp only [List.length_nil]; omega); intro v5 w5 ho hb5 hg hat; clear hat; rw [List.nil_append] at ho; obtain ⟨g5, c5, rfl, hg51, hg52, _⟩ := Kd.R_form ho (by have := H6.out; have := HN.out; omega); have hn_ := HN.out; rw [hn_] at ho ⊢; clear hn_; have HO5 := Aside0.mk ho; have HB5 := Aside0.mk hb5; have HG5 := Aside0.mk hg; obtain ⟨j, hj, hjn⟩ : ∃ j : Nat, ((n : Int) - 1 = (j : Int)) ∧ j < n := ⟨n - 1, by have := H6.out; omega, by have := H6.out; omega⟩; have hw1 : wrap64 ((n : Int) - 1) = (j : Int) := (by rw [hj]; unfold wrap64; have := HBL.out; omega); obtain ⟨hx, hf5⟩ := Kd.R_celln (0 : Int) HO5.out (j : Int) (by omega) (by omega); rw [Int.toNat_natCast] at hx hf5; obtain ⟨la, hla⟩ : ∃ la : Int, rdOf 0 B (j : Int) = la := ⟨_, rfl⟩; rw [hla] at hx; have HLA := Aside0.mk hla; have HJ := Aside0.mk hj; have hji : (j : Int) < (n : Int) := (by omega); clear hla hj; have HS5 := Aside0.mk (show Strm (fun k => p < k ∧ k < w9.heap.size) p p [] 0 (.slice A9 0 c9) w5 from ⟨(hg.block p (blk_lt HS9.out.hP) (by simp [Value.ownBlock])).trans HS9.out.hP, by
    have h1 := Kd.R_bound HS9.out.hR
    have h2 : B.drop ((n : Int)).toNat = [] := by rw [Int.toNat_natCast]; exact List.drop_eq_nil_of_le (by have := HN.out; omega)
    rw [h2] at h1
    exact Kd.R_mono (Kd.R_step h1 (fun k _ hk => hg.block k hk (by simp [Value.ownBlock]))) (fun k hk => ⟨hk.1, hk.2.2.1⟩)⟩); clear ho hb5 hg)
  have hg9 : w9.heap.size ≤ g5 := HO5.out.1 g5 (by simp [Value.ownBlock])
  have hp9 := blk_lt HS9.out.hP
  have HS6 := Aside0.mk (show Strm (fun k => p < k ∧ k ≠ g5) p p [] 0 (.slice A9 0 c9) (w5.setCell ⟨g5, j, none⟩ (.int .u8 (Go.bits .xor .u8 la (1 + turn % 255)))) from
    ⟨blk_far HS5.out.hP (p := ⟨g5, j, none⟩) (show p ≠ g5 by omega) _, Kd.R_mono (Kd.R_far HS5.out.hR (p := ⟨g5, j, none⟩) (fun k hk => show k ≠ g5 by omega) _) (fun k hk => ⟨hk.1, by omega⟩)⟩)
  have hRb := Kd.R_putn HO5.out (j : Int) (Go.bits .xor .u8 la (1 + turn % 255))
  rw [Int.toNat_natCast] at hRb
  have hbadE : B.set j (Go.bits .xor .u8 la (1 + turn % 255)) = bad := by
    rw [HBD.out]
    have e1 : n - 1 = j := by have h2 := HJ.out; omega
    rw [e1, ← HLA.out]
    unfold rdOf
    rw [Int.toNat_natCast]
  rw [hbadE] at hRb
  have hCb : Kd.C (Kd.int .u8) (w5.setCell ⟨g5, j, none⟩ (.int .u8 (Go.bits .xor .u8 la (1 + turn % 255)))) (some ⟨g5, 0, none⟩) n bad := by
    obtain ⟨e, _, h3⟩ := Kd.R_reads' hRb
    exact e ▸ h3
  have hbl : bad.length = n := by rw [← hbadE, List.length_set]; exact HN.out
  have HBL2 := Aside0.mk hbl
  have HCB := Aside0.mk hCb
  have HP6 := Aside0.mk (show Below w1.heap.size w1 (w5.setCell ⟨g5, j, none⟩ (.int .u8 (Go.bits .xor .u8 la (1 + turn % 255)))) from
    (HP9.out.trans ⟨HG5.out.os, HG5.out.tape, HG5.out.output, HG5.out.size, fun i hi => HG5.out.block i (by have := HP9.out.size; omega) (by simp [Value.ownBlock])⟩).setCell (p := ⟨g5, j, none⟩) (show w1.heap.size ≤ g5 by rw [Hp.out]; omega) _)
  have Hg5 := Aside0.mk (show g5 < (w5.setCell ⟨g5, j, none⟩ (.int .u8 (Go.bits .xor .u8 la (1 + turn % 255)))).heap.size by simp [World.setCell]; exact hg52)
  clear hRb hCb hbl hx hf5 hji hw1 HS5 HO5 HB5 HG5 hp9 hg9
  generalize w5.setCell ⟨g5, j, none⟩ (.int .u8 (Go.bits .xor .u8 la (1 + turn % 255))) = w10 at HS6 HCB HP6 Hg5 ⊢
  refine (st_Feed.at_ _ p p [] bad _ (some ⟨g5, 0, none⟩) n _ _ HBL2.out HS6.out (fun k hk => Nat.ne_of_gt hk.1) (fun k hk => ⟨Nat.lt_of_lt_of_le (blk_lt HS6.out.hP) hk, by have := Hg5.out; omega⟩) (Nat.le_refl _) HCB.out (by have := HBL2.out; have := HBL.out; simp; omega)).mono ?_
  rintro e w11 ⟨rfl, hb11, hk11, v11, hS11⟩
  rw [List.nil_append] at hS11
  have HS11 := Aside0.mk hS11
  have HP11 := Aside0.mk (HP6.out.trans (Hp.out ▸ hb11))
  clear hb11 hk11 hS11 HS6 HP6 HCB HS9 HP9 q9 q9'
  go_wp2_with fail
  have HG11 := Aside0.mk ((HG.out.below HB1.out).below HP11.out)
  refine (st_Next.wrong _ p p k bad 6 rfl rfl _ _ HG11.out HS11.out HBAD.out (Nat.le_refl _) (fun k hk => Nat.ne_of_gt hk.1) (Nat.le_of_lt (blk_lt HS11.out.hP))).mono ?_
  rintro e w12 ⟨rfl, hb12, hk12, hS12⟩
  obtain ⟨A12, c12, rfl⟩ := hS12.sliceN HBL2.out
  have hb12a := below_alloc (Below.refl _ w12) (.cells #[.int .i64 0, .slice none 0 0] 27)
  have HS12 := Aside0.mk (hS12.below hb12a)
  have HP12 := Aside0.mk (HP11.out.trans ((Hp.out ▸ hb12 : Below w1.heap.size w11 w12).trans (hb12a.mono (Nat.le_trans HP11.out.size hb12.size))))
  have q12 := (st_cells HS12.out.hP).1
  have q12' := (st_cells HS12.out.hP).2
  clear hb12 hk12 hS12 hb12a HS11 HP11 HG11
  go_wp2_with fail
  refine (st_Left.at_ p A12 n c12 _ q12).mono ?_
  rintro e w13 ⟨rfl, hw13⟩
  subst hw13
  generalize w12.alloc (.cells #[.int .i64 0, .slice none 0 0] 27) = w12a at HS12 HP12 q12 q12' ⊢
  go_wp2_with fail
  refine (st_Feed.off p 6 _ _ _ _ q12' rfl).mono ?_
  rintro e w14 ⟨rfl, hb14⟩
  have HS14 := Aside0.mk (HS12.out.below hb14)
  have HP14 := Aside0.mk (HP12.out.trans (hb14.mono HP12.out.size))
  have q14' := (st_cells HS14.out.hP).2
  clear hb14 HS12 HP12 q12 q12'
  go_wp2_with fail
  refine (st_Next.off p 6 _ q14' rfl).mono ?_
  rintro e w15 ⟨rfl, hb15⟩
  have hb15a := below_alloc (Below.refl _ w15) (.cells #[.int .i64 0, .slice none 0 0] 27)
  have HS15 := Aside0.mk ((HS14.out.below hb15).below hb15a)
  have HP15 := Aside0.mk ((HP14.out.trans (hb15.mono HP14.out.size)).trans (hb15a.mono (Nat.le_trans HP14.out.size hb15.size)))
  have q15 := (st_cells HS15.out.hP).1
  have q15' := (st_cells HS15.out.hP).2
  clear hb15 hb15a HS14 HP14 q14'
  go_wp2_with fail
  refine (st_Err.at_ p 6 _ q15').mono ?_
  rintro e w16 ⟨rfl, hw16⟩
  subst hw16
  go_wp2_with fail
  refine (st_Left.at_ p A12 n c12 _ q15).mono ?_
  rintro e w17 ⟨rfl, hw17⟩
  subst hw17
  have HW := Aside0.mk (HB1.out.trans (HP15.out.mono (by rw [Hp.out]; exact HWP.out)))
  go_wp2
  go_ret
  exact ⟨rfl, HW.out⟩


end Go.Proofs.YtmllikjhflnngaaDoor.P
