-- Written by a program of the session (wip/tool/mk.py) out of the translation; Lean checks it.
import Derived.Test.YtniboafnkiijcaaDoorPx0
import Derived.Test.YtniboafnkiijcaaDoorPx1
import Derived.Test.YtniboafnkiijcaaDoorPx2
import Derived.Test.YtniboafnkiijcaaDoorPx4
import Derived.Test.YtniboafnkiijcaaDoorPx5
namespace Go.Proofs.YtniboafnkiijcaaDoor.P
open Go.RowKit Go.Proofs.YtniboafnkiijcaaDoorW.PrintWords Go.Proofs.YtniboafnkiijcaaDoorW.PrintLast Go.Proofs.YtniboafnkiijcaaDoorW.PrintMore
attribute [local go_sem] max2_int min2_int max_two min_two max_three min_three max_four min_four   -- for this text's walks alone
set_option linter.unusedVariables false
set_option linter.unusedSimpArgs false

/-! ### ledger_Ledger_Bytes: function 13, a contract of my own -/
theorem MapOk.look1 {w : World} {mb n : Nat} {S : List Ln} (h : MapOk w mb n S) (p : ByteArray) (hp : p.size ≤ maxLen) :
    ∃ x, (Instr.lookup 53 (.map (some mb)) (.string p) false).run Tryd.prog w = .ok (lnV x) w ∧ ∀ y ∈ S, y.path = p → x = y := by
  obtain ⟨D, hown, hmap, hhas, hat⟩ := h
  obtain ⟨v, ps, hrun, hv⟩ := hown.lookup strs_keyed Tryd.underlying53 (lnZero w) (lnR_lnV _) (kS_key hp)
  obtain ⟨x, rfl, hx⟩ := lnR_inv hv
  refine ⟨x, hrun, fun y hy e => ?_⟩
  have h2 := hat y hy (lnD ⟨⟨#[]⟩, 0, 0, 0, 0, ⟨#[]⟩⟩)
  rw [e] at h2
  simp only [Prod.mk.injEq] at hx
  exact lnD_inj (hx.1.symm.trans h2)
section
variable {P : Program} {ops : Array Oper} {o : Oper} {a : Act} {Q : Exit → Act → World → Prop} {K : Act → World → Prop}
theorem step_append_str {w0 W : World} (base : Nat) (hw : Region.wanted o (yielded ops a.tmps) = true) (s x : Operand) (t u e : TypeId)
    (ho : o.op = .call { callee := .builtin .append, args := #[s, x], argTypes := #[t, u] })
    (ht : P.underlying t = some (.slice e)) (hu : P.underlying u = some .string) (hinfo : (P.info? e).map (fun i => (i.zero, i.size, i.bytes)) = some (some (.int .u8 0), 1, 1))
    (v : Value) (xs : List Int) (y : ByteArray) (hs : a.eval s = v) (hx : a.eval x = .string y)
    (HO : Kd.R (Kd.int .u8) e W base (fun _ => True) v xs) (HB : Below base w0 W) (hbase : base ≤ W.heap.size) (hl : xs.length + y.size ≤ 140737488355328)
    (h : ∀ v1 w1, Kd.R (Kd.int .u8) e w1 base (fun _ => True) v1 (xs ++ bytesOf y) → Below base w0 w1 → K (a.put o.dst v1) w1) :
    if Region.wanted o (yielded ops a.tmps) = true then Oper.wp P o a W K Q else K (a.put o.dst undef) W := by
  obtain ⟨i0, hi, hzz⟩ := Option.map_eq_some_iff.1 hinfo
  simp only [Prod.mk.injEq] at hzz
  obtain ⟨hz0, hz1, hz2⟩ := hzz
  have HO1 : W.ownsRow base e 1 v xs.length (nums .u8 xs) := Kd.own_of_R HO
  rw [if_pos hw]
  obtain ⟨v1, w1, hr, hown, hg, _⟩ := Lib.run_append_own_string (P := P) W base t u o.type e i0 ht hu hi hz0 hz1 hz2 v xs.length (nums .u8 xs) HO1 y (by simp only [maxLen]; omega) hl hbase
  unfold Oper.wp execOp
  simp only [ho, resolve, invoke, builtin, Sem.run_bind, Sem.run_pure, Result.andThen_ok, List.map_toArray, List.map_cons, List.map_nil, hs, hx, hr]
  have hl2 : (xs ++ bytesOf y).length = xs.length + y.size := by rw [List.length_append, bytesOf_length]
  have hc : nums .u8 (xs ++ bytesOf y) = nums .u8 xs ++ Lib.strCells y := by
    rw [nums_append]
    congr 1
    simp [nums, bytesOf, Lib.strCells]
  rw [← hl2, ← hc] at hown
  exact h v1 w1 (Kd.R_of_own hown (fun _ _ => trivial)) (HB.grown hg hbase (own_base HO1))
end
def ledLine (k : Nat) (b : List Int) (x : Ln) : Option (List Int) :=
  (num_PutText.f k b x.path).bind fun b1 => (num_Put.f k b1 x.ino).bind fun b2 => (num_Put.f k b2 x.size).bind fun b3 => (num_PutInt.f k b3 x.sec).bind fun b4 => (num_Put.f k b4 x.nano).bind fun b5 =>
    if b5.length + x.sum.size ≤ 140737488355328 then some (b5 ++ bytesOf x.sum) else none
def ledLines (k : Nat) : List Int → List Ln → Option (List Int)
  | b, [] => some b
  | b, x :: S => (ledLine k b x).bind fun b' => ledLines k b' S
def ledBytesF (k : Nat) (S : List Ln) : Option (List Int) := (num_Put.f k [] S.length).bind fun b => (ledLines k b S).bind fun r => crc_Seal.f r
theorem ledLine_some {k : Nat} {b r : List Int} {x : Ln} (h : ledLine k b x = some r) : ∃ b1 b2 b3 b4 b5, num_PutText.f k b x.path = some b1 ∧ num_Put.f k b1 x.ino = some b2 ∧ num_Put.f k b2 x.size = some b3 ∧ num_PutInt.f k b3 x.sec = some b4 ∧ num_Put.f k b4 x.nano = some b5 ∧ b5.length + x.sum.size ≤ 140737488355328 ∧ b5 ++ bytesOf x.sum = r := by
  unfold ledLine at h
  obtain ⟨b1, h1, h⟩ := Option.bind_eq_some_iff.1 h
  obtain ⟨b2, h2, h⟩ := Option.bind_eq_some_iff.1 h
  obtain ⟨b3, h3, h⟩ := Option.bind_eq_some_iff.1 h
  obtain ⟨b4, h4, h⟩ := Option.bind_eq_some_iff.1 h
  obtain ⟨b5, h5, h⟩ := Option.bind_eq_some_iff.1 h
  split at h
  · exact ⟨b1, b2, b3, b4, b5, h1, h2, h3, h4, h5, by assumption, Option.some.inj h⟩
  · cases h
theorem info_u8 : (Tryd.prog.info? 5).map (fun i => (i.zero, i.size, i.bytes)) = some (some (.int .u8 0), 1, 1) := by kernel_rfl
set_option maxHeartbeats 16000000 in
set_option maxRecDepth 20000 in
theorem led_Bytes.at_ (k b0 p mb n : Nat) (room : Int) (v : Value) (S : List Ln) (r : List Int) (w : World) (hG : GT w) (h : Lg b0 p mb n room v S w) (hf : ledBytesF k S = some r) :
    Calls Tryd.prog 13 #[.pointer (some ⟨p, 0, none⟩)] w fun e w' => ∃ v', e = .returned v' ∧ Kd.R (Kd.int .u8) 5 w' w.heap.size (fun _ => True) v' r ∧ Below w.heap.size w w' := by
  obtain ⟨l0, h0, hf⟩ := Option.bind_eq_some_iff.1 hf
  obtain ⟨l1, h1, hf⟩ := Option.bind_eq_some_iff.1 hf
  have G0 := Aside0.mk h0
  have H1 := Aside0.mk h1
  have HF := Aside0.mk hf
  have HG := Aside0.mk hG
  have HL := Aside0.mk h
  obtain ⟨A, c, rfl, hc, hC⟩ := Kd.R_reads h.hR
  obtain ⟨m, hm⟩ : ∃ m, m = S.length := ⟨_, rfl⟩
  have hmp : (paths S).length = m := by rw [hm]; unfold paths; rw [List.length_map]
  rw [hmp] at hC hc h HL
  rw [← hm] at G0
  have HM := Aside0.mk (And.intro hm hmp)
  have HC := Aside0.mk hC
  have q1 := (rw_cells h.hP).2.1
  have HH := Aside0.mk (num_Put.calls k none 0 [] (m : Int) l0 w (Kd.C_nil _ _) (Nat.le_refl _) G0.out)
  clear h hf h0 h1 hC hc hm hmp hG
  go_enter Tryd.func13, Tryd.ntmps13
  go_wp2_with fail
  refine HH.out.mono ?_
  rintro e w1 ⟨v0, rfl, hR0, hb0⟩
  have HBB := Aside0.mk hb0
  have HR0 := Aside0.mk hR0
  have HL1 := Aside0.mk (HL.out.below hb0)
  clear hR0 hb0 HH q1
  have q1 := (rw_cells HL1.out.hP).2.1
  go_wp2
  go_loopg [3, 5, 6, 22] m (fun g v3 v5 v6 v22 w' => ∃ (i : Nat) (b : List Int), g = m - i ∧ v22 = .int .i64 i ∧ Aside0 (i ≤ m) ∧ Aside0 (Kd.R (Kd.int .u8) 5 w' w.heap.size (fun _ => True) v3 b) ∧ Aside0 (ledLines k b (S.drop i) = some l1) ∧ Aside0 (Below w.heap.size w w'))
  case atStart => exact ⟨0, l0, rfl, rfl, ⟨Nat.zero_le _⟩, HR0, H1, HBB⟩
  case round =>
    clear q1
    obtain ⟨i, b0_, rfl, rfl, HI, HR, HF1, HBW⟩ := hrel
    have HLw := Aside0.mk (HL.out.below HBW.out)
    have q1 := (rw_cells HLw.out.hP).2.1
    have q2 := (rw_cells HLw.out.hP).2.2
    by_cases c1 : i < m
    rotate_left
    · have e1 : decide ((i : Int) < (m : Int)) = false := decide_eq_false (by omega)
      have e1' : decide (i < m) = false := decide_eq_false c1
      have e1n : (i < m) = False := eq_false c1
      have e1i : ((i : Int) < (m : Int)) = False := eq_false (by omega)
      have hF1 := HF1.out
      rw [List.drop_eq_nil_of_le (by have := HM.out.1; omega)] at hF1
      obtain rfl : b0_ = l1 := Option.some.inj hF1
      obtain ⟨A3, c3, rfl, hc3, hC3⟩ := Kd.R_reads HR.out
      have HSe := Aside0.mk (crc_Seal.calls A3 c3 b0_ r wr (HG.out.below HBW.out) hC3 hc3 HF.out)
      clear c1 hF1 hc3 hC3 HF1
      go_wp2_with fail
      refine HSe.out.mono ?_
      rintro e w9 ⟨v9, rfl, hR9, hb9⟩
      have HR9 := Aside0.mk (Kd.R_mono (Kd.R_lower hR9 HBW.out.size) (fun _ _ => trivial))
      have HB9 := Aside0.mk (ld_step HBW.out hb9)
      clear hR9 hb9 HSe
      go_wp2
      go_ret
      exact ⟨_, rfl, HR9.out, HB9.out⟩
    have e1 : decide ((i : Int) < (m : Int)) = true := decide_eq_true (by omega)
    have e1' : decide (i < m) = true := decide_eq_true c1
    have e1n : (i < m) = True := eq_true c1
    have e1i : ((i : Int) < (m : Int)) = True := eq_true (by omega)
    have hi0 : (0 ≤ (i : Int)) = True := eq_true (by omega)
    have hadd : wrap64 ((i : Int) + 1) = ((i + 1 : Nat) : Int) := by have := HM.out.1; have := HL.out.hl; unfold wrap64; omega
    obtain ⟨x, hx⟩ : ∃ x, S[i]? = some x := ⟨_, List.getElem?_eq_getElem (show i < S.length by have := HM.out.1; omega)⟩
    have hF1 := HF1.out
    rw [List.drop_eq_getElem_cons (show i < S.length by have := HM.out.1; omega), show S[i]'(by have := HM.out.1; omega) = x from Option.some.inj ((List.getElem?_eq_getElem _).symm.trans hx)] at hF1
    obtain ⟨b6, hl1, hF2⟩ := Option.bind_eq_some_iff.1 hF1
    obtain ⟨b1, b2, b3, b4, b5, g1, g2, g3, g4, g5, g6, g7⟩ := ledLine_some hl1
    have G1 := Aside0.mk g1
    have G2 := Aside0.mk g2
    have G3 := Aside0.mk g3
    have G4 := Aside0.mk g4
    have G5 := Aside0.mk g5
    have G6 := Aside0.mk g6
    have G7 := Aside0.mk g7
    have HF2 := Aside0.mk hF2
    have HX := Aside0.mk hx
    have C1 := Aside0.mk c1
    clear hF1 hl1 hF2 g1 g2 g3 g4 g5 g6 g7 HF1
    obtain ⟨ad, y, rfl, hy, hcell⟩ := str_at (Kd.R_reads' HLw.out.hR).2.2 i (by have := HM.out.2; omega)
    obtain rfl : y = x.path := by
      unfold paths at hy
      rw [List.getElem?_map, hx] at hy
      exact (Option.some.inj hy).symm
    obtain ⟨z, hlk, hz⟩ := HLw.out.hM.look1 x.path (by have := HL.out.hz x (List.mem_of_getElem? hx); unfold maxLen; omega)
    obtain rfl := hz x (List.mem_of_getElem? hx) rfl
    unfold lnV at hlk
    clear hy hz hx c1
    obtain ⟨gx, hgx⟩ : ∃ gx, wr.heap.size = gx := ⟨_, rfl⟩
    obtain ⟨w2, hw2⟩ : ∃ w2, wr.alloc (.cells #[.string z.path, .int .i64 z.ino, .int .i64 z.size, .int .i64 z.sec, .int .i64 z.nano, .string z.sum] 68) = w2 := ⟨_, rfl⟩
    have HX2 : Aside0 (w2.heap[gx]? = some (.cells #[.string z.path, .int .i64 z.ino, .int .i64 z.size, .int .i64 z.sec, .int .i64 z.nano, .string z.sum] 68 (0, 0))) := ⟨by rw [← hw2, ← hgx]; exact blk_new wr _⟩
    have HB2 : Aside0 (Below wr.heap.size wr w2) := ⟨by rw [← hw2]; exact below_alloc (Below.refl _ _) _⟩
    have HBW2 := Aside0.mk (ld_step HBW.out HB2.out)
    have HRb := Aside0.mk (Kd.R_below HR.out HB2.out)
    obtain ⟨A0, c0, rfl, hc0, hC0⟩ := Kd.R_reads HRb.out
    have HSW2 : Aside0 (w.heap.size ≤ w2.heap.size) := ⟨HBW2.out.size⟩
    have HC0 := Aside0.mk (Kd.C_drew hC0)
    have HL0 := Aside0.mk hc0
    clear hc0 hC0
    go_wp2_with fail
    have HXd := Aside0.mk (show w2.drew.heap[gx]? = some (.cells #[.string z.path, .int .i64 z.ino, .int .i64 z.size, .int .i64 z.sec, .int .i64 z.nano, .string z.sum] 68 (0, 0)) from HX2.out)
    have HBWd : Aside0 (Below w.heap.size w w2.drew) := ⟨below_drew HBW2.out⟩
    have HSWd : Aside0 (w.heap.size ≤ w2.drew.heap.size) := HSW2
    refine start_ (n := 11) (S := fun w' => w'.cell? ⟨gx, 0, none⟩ = some (.string z.path) ∧ w'.cell? ⟨gx, 1, none⟩ = some (.int .i64 z.ino) ∧ w'.cell? ⟨gx, 2, none⟩ = some (.int .i64 z.size)) (ds := []) #[false, false, false, false, false, false, false, false, false, false, false] (by kernel_rfl) rfl rfl ⟨(ln_cells (x := z) HXd.out).1, (ln_cells (x := z) HXd.out).2.1, (ln_cells (x := z) HXd.out).2.2.1⟩ (fun hHeld => ?_)
    refine pure_ (i := 0) (N := some 33) (v := ?_) (a' := ?_) #[true, false, false, false, false, false, false, false, false, false, false] rfl rfl (by kernel_rfl) (fun _ _ _ h => h) (Or.inl ⟨by rfl, ?_⟩) ?_ ?_
    rotate_left
    · intro w'
      go_simp
      with_reducible rfl
    rotate_left
    · simp only [Act.put, List.setIfInBounds_toArray, List.set_cons_zero, List.set_cons_succ, i64_w, i32_w]
      rfl
    refine pure_ (i := 1) (N := some 34) (v := ?_) (a' := ?_) #[true, true, false, false, false, false, false, false, false, false, false] rfl rfl (by kernel_rfl) (fun _ _ _ h => h) (Or.inl ⟨by rfl, ?_⟩) ?_ ?_
    rotate_left
    · intro w'
      go_simp
      with_reducible rfl
    rotate_left
    · simp only [Act.put, List.setIfInBounds_toArray, List.set_cons_zero, List.set_cons_succ, i64_w, i32_w]
      rfl
    refine pure_ (i := 4) (N := some 37) (v := ?_) (a' := ?_) #[true, true, false, false, true, false, false, false, false, false, false] rfl rfl (by kernel_rfl) (fun _ _ _ h => h) (Or.inl ⟨by rfl, ?_⟩) ?_ ?_
    rotate_left
    · intro w'
      go_simp
      with_reducible rfl
    rotate_left
    · simp only [Act.put, List.setIfInBounds_toArray, List.set_cons_zero, List.set_cons_succ, i64_w, i32_w]
      rfl
    refine pure_ (i := 7) (N := some 40) (v := ?_) (a' := ?_) #[true, true, false, false, true, false, false, true, false, false, false] rfl rfl (by kernel_rfl) (fun _ _ _ h => h) (Or.inl ⟨by rfl, ?_⟩) ?_ ?_
    rotate_left
    · intro w'
      go_simp
      with_reducible rfl
    rotate_left
    · simp only [Act.put, List.setIfInBounds_toArray, List.set_cons_zero, List.set_cons_succ, i64_w, i32_w]
      rfl
    refine take_ (i := 2) (N := some 35) (v := ?_) (a' := ?_) #[true, true, true, false, true, false, false, true, false, false, false] rfl rfl (by kernel_rfl) (fun _ _ _ h => h) (Or.inl ⟨by rfl, ?_⟩) hHeld ?_ ?_
    rotate_left
    · rintro w' ⟨s0, s1, s2⟩
      go_simp
      with_reducible rfl
    rotate_left
    · simp only [Act.put, List.setIfInBounds_toArray, List.set_cons_zero, List.set_cons_succ, i64_w, i32_w]
      rfl
    refine take_ (i := 5) (N := some 38) (v := ?_) (a' := ?_) #[true, true, true, false, true, true, false, true, false, false, false] rfl rfl (by kernel_rfl) (fun _ _ _ h => h) (Or.inl ⟨by rfl, ?_⟩) hHeld ?_ ?_
    rotate_left
    · rintro w' ⟨s0, s1, s2⟩
      go_simp
      with_reducible rfl
    rotate_left
    · simp only [Act.put, List.setIfInBounds_toArray, List.set_cons_zero, List.set_cons_succ, i64_w, i32_w]
      rfl
    refine take_ (i := 8) (N := some 41) (v := ?_) (a' := ?_) #[true, true, true, false, true, true, false, true, true, false, false] rfl rfl (by kernel_rfl) (fun _ _ _ h => h) (Or.inl ⟨by rfl, ?_⟩) hHeld ?_ ?_
    rotate_left
    · rintro w' ⟨s0, s1, s2⟩
      go_simp
      with_reducible rfl
    rotate_left
    · simp only [Act.put, List.setIfInBounds_toArray, List.set_cons_zero, List.set_cons_succ, i64_w, i32_w]
      rfl
    refine one_ (i := 3) (N := some 36) #[true, true, true, true, true, true, false, true, true, false, false] rfl rfl (by kernel_rfl) (by decide) (fun K hK => ?_)
    refine goes_ Tryd.func31 (by kernel_rfl) rfl #[.slice A0 b0_.length c0, .string z.path] (by rfl) rfl rfl (by simp only [List.map_toArray, List.map_cons, List.map_nil]; rfl) ?_
    with_reducible refine (num_PutText.calls k A0 c0 b0_ (z.path) b1 w2.drew (HC0.out) (HL0.out) G1.out).mono ?_
    rintro e W1 ⟨v1, rfl, hR1, hb1⟩
    refine ⟨_, rfl, ?_⟩
    have HX1 := Aside0.mk (blk_below (w := w2.drew) HXd.out hb1)
    have HBW1 := Aside0.mk (ld_step HBWd.out (show Below (w2.drew).heap.size (w2.drew) W1 from hb1))
    have HSW1 : Aside0 (w.heap.size ≤ W1.heap.size) := ⟨by have := HBW1.out.size; exact this⟩
    have HR1 := Aside0.mk (Kd.R_lower hR1 HSWd.out)
    obtain ⟨A1, c1, rfl, hcq, hCq⟩ := Kd.R_reads hR1
    have HC1 := Aside0.mk hCq
    have HL1 := Aside0.mk hcq
    clear hR1 hb1 hcq hCq
    refine hK.out _ _ ⟨(ln_cells (x := z) HX1.out).1, (ln_cells (x := z) HX1.out).2.1, (ln_cells (x := z) HX1.out).2.2.1⟩ (fun hHeld => ?_)
    clear hK K
    refine norm_ (a' := ?_) ?_ ?_
    rotate_left
    · show Act.put _ (some 36) _ = _
      simp only [Act.put, List.setIfInBounds_toArray, List.set_cons_zero, List.set_cons_succ, i64_w, i32_w]
      rfl
    refine one_ (i := 6) (N := some 39) #[true, true, true, true, true, true, true, true, true, false, false] rfl rfl (by kernel_rfl) (by decide) (fun K hK => ?_)
    refine goes_ Tryd.func30 (by kernel_rfl) rfl #[.slice A1 b1.length c1, .int .i64 z.ino] (by rfl) rfl rfl (by simp only [List.map_toArray, List.map_cons, List.map_nil]; rfl) ?_
    with_reducible refine (num_Put.calls k A1 c1 b1 (z.ino) b2 W1 (HC1.out) (HL1.out) G2.out).mono ?_
    rintro e W2 ⟨v2, rfl, hR2, hb2⟩
    refine ⟨_, rfl, ?_⟩
    have HX2 := Aside0.mk (blk_below (w := W1) HX1.out hb2)
    have HBW2 := Aside0.mk (ld_step HBW1.out (show Below (W1).heap.size (W1) W2 from hb2))
    have HSW2 : Aside0 (w.heap.size ≤ W2.heap.size) := ⟨by have := HBW2.out.size; exact this⟩
    have HR2 := Aside0.mk (Kd.R_lower hR2 HSW1.out)
    obtain ⟨A2, c2, rfl, hcq, hCq⟩ := Kd.R_reads hR2
    have HC2 := Aside0.mk hCq
    have HL2 := Aside0.mk hcq
    clear hR2 hb2 hcq hCq
    refine hK.out _ _ ⟨(ln_cells (x := z) HX2.out).1, (ln_cells (x := z) HX2.out).2.1, (ln_cells (x := z) HX2.out).2.2.1⟩ (fun hHeld => ?_)
    clear hK K
    refine norm_ (a' := ?_) ?_ ?_
    rotate_left
    · show Act.put _ (some 39) _ = _
      simp only [Act.put, List.setIfInBounds_toArray, List.set_cons_zero, List.set_cons_succ, i64_w, i32_w]
      rfl
    refine one_ (i := 9) (N := some 42) #[true, true, true, true, true, true, true, true, true, true, false] rfl rfl (by kernel_rfl) (by decide) (fun K hK => ?_)
    refine goes_ Tryd.func30 (by kernel_rfl) rfl #[.slice A2 b2.length c2, .int .i64 z.size] (by rfl) rfl rfl (by simp only [List.map_toArray, List.map_cons, List.map_nil]; rfl) ?_
    with_reducible refine (num_Put.calls k A2 c2 b2 (z.size) b3 W2 (HC2.out) (HL2.out) G3.out).mono ?_
    rintro e W3 ⟨v3, rfl, hR3, hb3⟩
    refine ⟨_, rfl, ?_⟩
    have HX3 := Aside0.mk (blk_below (w := W2) HX2.out hb3)
    have HBW3 := Aside0.mk (ld_step HBW2.out (show Below (W2).heap.size (W2) W3 from hb3))
    have HSW3 : Aside0 (w.heap.size ≤ W3.heap.size) := ⟨by have := HBW3.out.size; exact this⟩
    have HR3 := Aside0.mk (Kd.R_lower hR3 HSW2.out)
    obtain ⟨A3, c3, rfl, hcq, hCq⟩ := Kd.R_reads hR3
    have HC3 := Aside0.mk hCq
    have HL3 := Aside0.mk hcq
    clear hR3 hb3 hcq hCq
    refine hK.out _ _ ⟨(ln_cells (x := z) HX3.out).1, (ln_cells (x := z) HX3.out).2.1, (ln_cells (x := z) HX3.out).2.2.1⟩ (fun hHeld => ?_)
    clear hK K
    refine norm_ (a' := ?_) ?_ ?_
    rotate_left
    · show Act.put _ (some 42) _ = _
      simp only [Act.put, List.setIfInBounds_toArray, List.set_cons_zero, List.set_cons_succ, i64_w, i32_w]
      rfl
    refine pure_ (i := 10) (N := some 3) (v := ?_) (a' := ?_) #[true, true, true, true, true, true, true, true, true, true, true] rfl rfl (by kernel_rfl) (fun _ _ _ h => h) (Or.inl ⟨by rfl, ?_⟩) ?_ ?_
    rotate_left
    · intro w'
      go_simp
      with_reducible rfl
    rotate_left
    · simp only [Act.put, List.setIfInBounds_toArray, List.set_cons_zero, List.set_cons_succ, i64_w, i32_w]
      rfl
    refine done_ (by kernel_rfl) ?_
    clear hHeld
    go_wp2_with fail
    have HC3d := Aside0.mk (Kd.C_drew HC3.out)
    have HX3d := Aside0.mk (show W3.drew.heap[gx]? = some (.cells #[.string z.path, .int .i64 z.ino, .int .i64 z.size, .int .i64 z.sec, .int .i64 z.nano, .string z.sum] 68 (0, 0)) from HX3.out)
    have HBW3d : Aside0 (Below w.heap.size w W3.drew) := ⟨below_drew HBW3.out⟩
    have HSW3d : Aside0 (w.heap.size ≤ W3.drew.heap.size) := HSW3
    refine start_ (n := 11) (S := fun w' => w'.cell? ⟨gx, 3, none⟩ = some (.int .i64 z.sec) ∧ w'.cell? ⟨gx, 4, none⟩ = some (.int .i64 z.nano) ∧ w'.cell? ⟨gx, 5, none⟩ = some (.string z.sum)) (ds := [9]) #[false, false, false, false, false, false, false, false, false, false, false] (by kernel_rfl) rfl rfl ⟨(ln_cells (x := z) HX3d.out).2.2.2.1, (ln_cells (x := z) HX3d.out).2.2.2.2.1, (ln_cells (x := z) HX3d.out).2.2.2.2.2⟩ (fun hHeld => ?_)
    refine pure_ (i := 0) (N := some 43) (v := ?_) (a' := ?_) #[true, false, false, false, false, false, false, false, false, false, false] rfl rfl (by kernel_rfl) (fun _ _ _ h => h) (Or.inl ⟨by rfl, ?_⟩) ?_ ?_
    rotate_left
    · intro w'
      go_simp
      with_reducible rfl
    rotate_left
    · simp only [Act.put, List.setIfInBounds_toArray, List.set_cons_zero, List.set_cons_succ, i64_w, i32_w]
      rfl
    refine pure_ (i := 1) (N := some 44) (v := ?_) (a' := ?_) #[true, true, false, false, false, false, false, false, false, false, false] rfl rfl (by kernel_rfl) (fun _ _ _ h => h) (Or.inl ⟨by rfl, ?_⟩) ?_ ?_
    rotate_left
    · intro w'
      go_simp
      with_reducible rfl
    rotate_left
    · simp only [Act.put, List.setIfInBounds_toArray, List.set_cons_zero, List.set_cons_succ, i64_w, i32_w]
      rfl
    refine pure_ (i := 4) (N := some 47) (v := ?_) (a' := ?_) #[true, true, false, false, true, false, false, false, false, false, false] rfl rfl (by kernel_rfl) (fun _ _ _ h => h) (Or.inl ⟨by rfl, ?_⟩) ?_ ?_
    rotate_left
    · intro w'
      go_simp
      with_reducible rfl
    rotate_left
    · simp only [Act.put, List.setIfInBounds_toArray, List.set_cons_zero, List.set_cons_succ, i64_w, i32_w]
      rfl
    refine pure_ (i := 7) (N := some 50) (v := ?_) (a' := ?_) #[true, true, false, false, true, false, false, true, false, false, false] rfl rfl (by kernel_rfl) (fun _ _ _ h => h) (Or.inl ⟨by rfl, ?_⟩) ?_ ?_
    rotate_left
    · intro w'
      go_simp
      with_reducible rfl
    rotate_left
    · simp only [Act.put, List.setIfInBounds_toArray, List.set_cons_zero, List.set_cons_succ, i64_w, i32_w]
      rfl
    refine take_ (i := 2) (N := some 45) (v := ?_) (a' := ?_) #[true, true, true, false, true, false, false, true, false, false, false] rfl rfl (by kernel_rfl) (fun _ _ _ h => h) (Or.inl ⟨by rfl, ?_⟩) hHeld ?_ ?_
    rotate_left
    · rintro w' ⟨s0, s1, s2⟩
      go_simp
      with_reducible rfl
    rotate_left
    · simp only [Act.put, List.setIfInBounds_toArray, List.set_cons_zero, List.set_cons_succ, i64_w, i32_w]
      rfl
    refine take_ (i := 5) (N := some 48) (v := ?_) (a' := ?_) #[true, true, true, false, true, true, false, true, false, false, false] rfl rfl (by kernel_rfl) (fun _ _ _ h => h) (Or.inl ⟨by rfl, ?_⟩) hHeld ?_ ?_
    rotate_left
    · rintro w' ⟨s0, s1, s2⟩
      go_simp
      with_reducible rfl
    rotate_left
    · simp only [Act.put, List.setIfInBounds_toArray, List.set_cons_zero, List.set_cons_succ, i64_w, i32_w]
      rfl
    refine take_ (i := 8) (N := some 51) (v := ?_) (a' := ?_) #[true, true, true, false, true, true, false, true, true, false, false] rfl rfl (by kernel_rfl) (fun _ _ _ h => h) (Or.inl ⟨by rfl, ?_⟩) hHeld ?_ ?_
    rotate_left
    · rintro w' ⟨s0, s1, s2⟩
      go_simp
      with_reducible rfl
    rotate_left
    · simp only [Act.put, List.setIfInBounds_toArray, List.set_cons_zero, List.set_cons_succ, i64_w, i32_w]
      rfl
    refine one_ (i := 3) (N := some 46) #[true, true, true, true, true, true, false, true, true, false, false] rfl rfl (by kernel_rfl) (by decide) (fun K hK => ?_)
    refine goes_ Tryd.func32 (by kernel_rfl) rfl #[.slice A3 b3.length c3, .int .i64 z.sec] (by rfl) rfl rfl (by simp only [List.map_toArray, List.map_cons, List.map_nil]; rfl) ?_
    with_reducible refine (num_PutInt.calls k A3 c3 b3 (z.sec) b4 W3.drew (HC3d.out) (HL3.out) G4.out).mono ?_
    rintro e W4 ⟨v4, rfl, hR4, hb4⟩
    refine ⟨_, rfl, ?_⟩
    have HX4 := Aside0.mk (blk_below (w := W3.drew) HX3d.out hb4)
    have HBW4 := Aside0.mk (ld_step HBW3d.out (show Below (W3.drew).heap.size (W3.drew) W4 from hb4))
    have HSW4 : Aside0 (w.heap.size ≤ W4.heap.size) := ⟨by have := HBW4.out.size; exact this⟩
    have HR4 := Aside0.mk (Kd.R_lower hR4 HSW3d.out)
    obtain ⟨A4, c4, rfl, hcq, hCq⟩ := Kd.R_reads hR4
    have HC4 := Aside0.mk hCq
    have HL4 := Aside0.mk hcq
    clear hR4 hb4 hcq hCq
    refine hK.out _ _ ⟨(ln_cells (x := z) HX4.out).2.2.2.1, (ln_cells (x := z) HX4.out).2.2.2.2.1, (ln_cells (x := z) HX4.out).2.2.2.2.2⟩ (fun hHeld => ?_)
    clear hK K
    refine norm_ (a' := ?_) ?_ ?_
    rotate_left
    · show Act.put _ (some 46) _ = _
      simp only [Act.put, List.setIfInBounds_toArray, List.set_cons_zero, List.set_cons_succ, i64_w, i32_w]
      rfl
    refine one_ (i := 6) (N := some 49) #[true, true, true, true, true, true, true, true, true, false, false] rfl rfl (by kernel_rfl) (by decide) (fun K hK => ?_)
    refine goes_ Tryd.func30 (by kernel_rfl) rfl #[.slice A4 b4.length c4, .int .i64 z.nano] (by rfl) rfl rfl (by simp only [List.map_toArray, List.map_cons, List.map_nil]; rfl) ?_
    with_reducible refine (num_Put.calls k A4 c4 b4 (z.nano) b5 W4 (HC4.out) (HL4.out) G5.out).mono ?_
    rintro e W5 ⟨v5, rfl, hR5, hb5⟩
    refine ⟨_, rfl, ?_⟩
    have HX5 := Aside0.mk (blk_below (w := W4) HX4.out hb5)
    have HBW5 := Aside0.mk (ld_step HBW4.out (show Below (W4).heap.size (W4) W5 from hb5))
    have HSW5 : Aside0 (w.heap.size ≤ W5.heap.size) := ⟨by have := HBW5.out.size; exact this⟩
    have HR5 := Aside0.mk (Kd.R_lower hR5 HSW4.out)
    obtain ⟨A5, c5, rfl, hcq, hCq⟩ := Kd.R_reads hR5
    have HC5 := Aside0.mk hCq
    have HL5 := Aside0.mk hcq
    clear hR5 hb5 hcq hCq
    refine hK.out _ _ ⟨(ln_cells (x := z) HX5.out).2.2.2.1, (ln_cells (x := z) HX5.out).2.2.2.2.1, (ln_cells (x := z) HX5.out).2.2.2.2.2⟩ (fun hHeld => ?_)
    clear hK K
    refine norm_ (a' := ?_) ?_ ?_
    rotate_left
    · show Act.put _ (some 49) _ = _
      simp only [Act.put, List.setIfInBounds_toArray, List.set_cons_zero, List.set_cons_succ, i64_w, i32_w]
      rfl
    refine last_ (i := 9) (N := some 52) #[true, true, true, true, true, true, true, true, true, true, false] rfl rfl (by kernel_rfl) (by decide) (fun K hK => ?_)
    refine step_append_str (w0 := w) w.heap.size (by rfl) (.tmp 49) (.tmp 51) 41 9 5 rfl Tryd.underlying41 Tryd.underlying9 info_u8 (.slice A5 b5.length c5) b5 z.sum rfl rfl HR5.out HBW5.out HSW5.out G6.out ?_
    intro v6 w6 ho6 hb6
    rw [G7.out] at ho6
    have HR6 := Aside0.mk ho6
    have HBW6 := Aside0.mk hb6
    clear ho6 hb6
    refine hK.out _ _ ?_
    clear hK K
    refine norm_ (a' := ?_) ?_ ?_
    rotate_left
    · show Act.put _ (some 52) _ = _
      simp only [Act.put, List.setIfInBounds_toArray, List.set_cons_zero, List.set_cons_succ, i64_w, i32_w]
      rfl
    refine pure_ (i := 10) (N := some 3) (v := ?_) (a' := ?_) #[true, true, true, true, true, true, true, true, true, true, true] rfl rfl (by kernel_rfl) (fun _ _ _ h => h) (Or.inl ⟨by rfl, ?_⟩) ?_ ?_
    rotate_left
    · intro w'
      go_simp
      with_reducible rfl
    rotate_left
    · simp only [Act.put, List.setIfInBounds_toArray, List.set_cons_zero, List.set_cons_succ, i64_w, i32_w]
      rfl
    refine done_ (by kernel_rfl) ?_
    clear hHeld
    go_wp2
    go_roundg (m - (i + 1))
    case measure => have := C1.out; omega
    case rel => exact ⟨i + 1, b6, rfl, by first | rfl | rw [hadd], ⟨by have := C1.out; omega⟩, HR6, HF2, HBW6⟩


-- NOT PRINTED: function 15 (ledger_Ledger_Len)

/-! ### remoraref33_Ledger_Len: function 16 -/
def remoraref33_Ledger_Len.f (s0_0 : Int) (s0_1 : List (S71)) : Option (Int × Int) := some ((s0_1.length : Int), s0_0)
set_option maxHeartbeats 8000000 in
set_option maxRecDepth 100000 in
theorem remoraref33_Ledger_Len.calls (g : Nat) (s0_0 : Int) (s0_1 : List (S71)) (r1 : Int) (r2 : Int) (w0 w : World) (hI : IsS60 w0 w g s0_0 s0_1) (hB : Below w0.heap.size w0 w) (h : remoraref33_Ledger_Len.f s0_0 s0_1 = some (r1, r2)) :
    Calls Tryd.prog 16 #[.pointer (some ⟨g, 0, none⟩)] w fun e w' => e = .returned (.int .i64 r1) ∧ IsS60 w0 w' g r2 s0_1 ∧ Below w0.heap.size w0 w' ∧ KeepBut w w' g none := by
  have HI0 := Aside0.mk hI
  have HK := Aside0.mk (KeepBut.refl w g none)
  have HL := Aside0.mk hB.size
  clear hI
  have HW0 := Aside0.mk hB.size
  have HB := Aside0.mk hB
  clear hB
  have H : (some ((s0_1.length : Int), s0_0)) = some (r1, r2) := h
  clear h
  simp only [Option.some.injEq, Prod.mk.injEq] at H
  obtain ⟨rfl, rfl⟩ := H
  obtain ⟨ASz2_1, cSz2_1, HGz2, hgz2, HSz2_1⟩ := HI0.out
  have hcz2_0 := cellS60_0 HGz2
  have hcz2_1 := cellS60_1 HGz2
  have hfz2_0 := blk_frozen HGz2 0
  clear HGz2 hgz2
  go_enter Tryd.func16, Tryd.ntmps16
  go_wp2
  go_ret
  exact ⟨by first | rfl | (simp [errW_none, errW_some] <;> rfl) | (simp [*, errW_none, errW_some] <;> rfl), by repeat (first | (with_reducible first | exact HI0.out | apply IsS60.alloc | apply IsS60.drewN | apply IsS60.drew | apply IsS60.set_0) | exact HI0.out), by repeat (first | (with_reducible first | exact HB.out | apply below_alloc | apply pw_below_drewN | apply below_drew1 | refine below_set ?_ (IsS60.ge HI0.out)) | exact HB.out), by repeat (first | (with_reducible first | exact HK.out | apply KeepBut.set_ | apply keep_drewN | apply keep_drew | apply keep_alloc) | exact HK.out)⟩

end Go.Proofs.YtniboafnkiijcaaDoor.P
