-- Written by a program of the session (wip/tool/mk.py) out of the translation; Lean checks it.
import Derived.Test.YtmllikjhflnngaaDoorPx0
import Derived.Test.YtmllikjhflnngaaDoorPx14
import Derived.Test.YtmllikjhflnngaaDoorPx15
namespace Go.Proofs.YtmllikjhflnngaaDoor.P
open Go.RowKit Go.Proofs.YtmllikjhflnngaaDoorW.PrintWords Go.Proofs.YtmllikjhflnngaaDoorW.PrintLast Go.Proofs.YtmllikjhflnngaaDoorW.PrintMore
attribute [local go_sem] max2_int min2_int max_two min_two max_three min_three max_four min_four   -- for this text's walks alone
set_option linter.unusedVariables false
set_option linter.unusedSimpArgs false

/-! ### remoralaw29_FrameNone: function 6, a contract of my own -/
theorem st_Feed_nil (v : Value) (hv : ∃ A m c, v = .slice A m c) (w : World) : Calls Tryd.prog 18 #[.pointer none, v] w fun e w' => e = .returned (.tuple #[]) ∧ Below w.heap.size w w' := by
  obtain ⟨A, m, c, rfl⟩ := hv
  go_enter Tryd.func18, Tryd.ntmps18
  go_wp2
  try go_region
  try go_wp2
  refine bodyPost_end (results_none rfl _ _ _) rfl ?_
  exact ⟨rfl, by first | exact Below.refl _ _ | exact below_drew (Below.refl _ _)⟩
theorem st_Next_nil (w : World) : Calls Tryd.prog 19 #[.pointer none] w fun e w' => e = .returned (.tuple #[.agg #[.int .i64 0, .slice none 0 0], .bool false]) ∧ Below w.heap.size w w' := by
  go_enter Tryd.func19, Tryd.ntmps19
  go_wp2
  all_goals (try go_region)
  all_goals (try go_wp2)
  all_goals (try (refine bodyPost_ret (by simp [results, Tryd.results19, go_sem]; try rfl) rfl ?_))
  exact ⟨rfl, below_alloc (Below.refl _ w) _⟩
theorem st_Left_nil (w : World) : Calls Tryd.prog 20 #[.pointer none] w fun e w' => e = .returned (.int .i64 0) ∧ w' = w := by
  go_enter Tryd.func20, Tryd.ntmps20
  go_wp2
  go_ret
  exact ⟨rfl, rfl⟩
theorem st_Err_nil (w : World) : Calls Tryd.prog 21 #[.pointer none] w fun e w' => e = .returned (.int .i64 1) ∧ w' = w := by
  go_enter Tryd.func21, Tryd.ntmps21
  go_wp2
  go_ret
  exact ⟨rfl, rfl⟩
def remoralaw29_FrameNone.f (l0 : List Int) : Option Bool := some true
set_option maxHeartbeats 4000000 in
set_option maxRecDepth 100000 in
theorem remoralaw29_FrameNone.calls (A0 : Option Addr) (c0 : Nat) (l0 : List Int) (r : Bool) (w : World) (hG : GT w) (h : remoralaw29_FrameNone.f l0 = some r) :
    Calls Tryd.prog 6 #[.slice A0 l0.length c0] w fun e w' => e = .returned (.bool r) ∧ Below w.heap.size w w' := by
  obtain rfl : true = r := Option.some.inj h
  have HG := Aside0.mk hG
  clear h hG
  go_enter Tryd.func6, Tryd.ntmps6
  go_wp2_with fail
  refine (st_Feed_nil _ ⟨_, _, _, rfl⟩ _).mono ?_
  rintro e w1 ⟨rfl, hb1⟩
  have B1 := Aside0.mk hb1
  clear hb1
  go_wp2_with fail
  refine (st_Next_nil _).mono ?_
  rintro e w2 ⟨rfl, hb2⟩
  have B2 := Aside0.mk (below_step B1.out hb2)
  clear hb2 B1
  go_wp2_with fail
  refine (frGet_end A0 c0 l0 _).mono ?_
  rintro e w3 ⟨rfl, hb3⟩
  have s3 : w2.heap.size < w3.heap.size := by have := hb3.size; simp at this; omega
  have q0 : w3.cell? ⟨w2.heap.size, 0, none⟩ = some (.int .i64 0) := (hb3.cell (p := ⟨w2.heap.size, 0, none⟩) (by simp)).trans (by simp)
  have q1 : w3.cell? ⟨w2.heap.size, 1, none⟩ = some (.slice none 0 0) := (hb3.cell (p := ⟨w2.heap.size, 1, none⟩) (by simp)).trans (by simp)
  have B3 := Aside0.mk (below_step (below_alloc B2.out _) hb3)
  clear hb3 B2
  go_wp2_with fail
  refine (frGet_range A0 c0 l0 (-1) _ (.inl (by decide))).mono ?_
  rintro e w4 ⟨rfl, hb4⟩
  have s4 : w2.heap.size < w4.heap.size := by have := hb4.size; simp at this; omega
  have r0 : w4.cell? ⟨w2.heap.size, 0, none⟩ = some (.int .i64 0) := ((below_alloc (Below.refl _ w3) _).cell (p := ⟨w2.heap.size, 0, none⟩) s3).trans q0 ▸ hb4.cell (p := ⟨w2.heap.size, 0, none⟩) (by simp; omega)
  have r1 : w4.cell? ⟨w2.heap.size, 1, none⟩ = some (.slice none 0 0) := ((below_alloc (Below.refl _ w3) _).cell (p := ⟨w2.heap.size, 1, none⟩) s3).trans q1 ▸ hb4.cell (p := ⟨w2.heap.size, 1, none⟩) (by simp; omega)
  have B4 := Aside0.mk (below_step (below_alloc B3.out _) hb4)
  have hne : w2.heap.size ≠ w4.heap.size := by omega
  clear hb4 B3 q0 q1 s3
  go_wp2_with fail
  refine (st_Left_nil _).mono ?_
  rintro e w5 ⟨rfl, hw5⟩
  subst hw5
  go_wp2_with fail
  refine (st_Err_nil _).mono ?_
  rintro e w6 ⟨rfl, hw6⟩
  subst hw6
  go_wp2_with fail
  refine (remoralaw29_awake.calls true _ (GT.below HG.out (below_alloc B4.out _)) rfl).mono ?_
  rintro e w7 ⟨rfl, hb7⟩
  have B7 := Aside0.mk (below_step (below_alloc B4.out _) hb7)
  clear hb7
  go_wp2
  go_ret
  exact ⟨rfl, B7.out⟩
def remoralaw29_FrameNone.Pure : Prop := ∀ (l0 : List Int), l0.length ≤ maxLen → l0.length * 1 ≤ 140737488351232 → (∀ x ∈ l0, (Lit.int .u8 x).wf = true) → remoralaw29_FrameNone.f l0 = some true
theorem remoralaw29_FrameNone.walk (P : remoralaw29_FrameNone.Pure) (a0 : Option Addr) (len0 cap0 : Nat) (z0 : List Int) (w : World) (hG : GT w) (w0 : (a0 = none ∧ len0 = 0 ∧ cap0 = 0 ∧ z0 = []) ∨ ∃ x, a0 = some x ∧ len0 ≤ cap0 ∧ cap0 ≤ maxLen ∧ z0.length = cap0 ∧ (∀ i, i < z0.length → w.cell? (x.add i) = some (.int .u8 (z0.getD i 0))) ∧ ∀ n ∈ z0, (Lit.int .u8 n).wf = true) (y0 : len0 * 1 ≤ 140737488351232) :
    Calls Tryd.prog 6 #[.slice a0 len0 cap0] w fun e w' => e = .returned (.bool true) ∧ Below w.heap.size w w' := by
  obtain ⟨l0, rfl, hr0, hm0, hw0, hc0⟩ := ReadsInt.ofRowC w0
  exact remoralaw29_FrameNone.calls _ _ l0 true w hG (P l0 hm0 y0 hw0)


-- NOT PRINTED: function 5 (remoralaw29_FrameBack)

end Go.Proofs.YtmllikjhflnngaaDoor.P
