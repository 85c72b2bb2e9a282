/- Chapter 31, MuxSt. -/
import Derived.Test.YthehhbfiaaadgaaDoorMux4
import Derived.Test.YthehhbfiaaadgaaDoorPx0
import Derived.Deep.CutBlock
namespace Go.Proofs.YthehhbfiaaadgaaDoor.P
open Go.RowKit Go.Proofs.YthehhbfiaaadgaaDoorW.PrintWords Go.Proofs.YthehhbfiaaadgaaDoorW.PrintLast Go.Proofs.YthehhbfiaaadgaaDoorW.PrintMore
attribute [local go_sem] max2_int min2_int max_two min_two max_three min_three max_four min_four
set_option linter.unusedVariables false
set_option linter.unusedSimpArgs false
open Go.Proofs.YthehhbfiaaadgaaDoor.Num Go.Proofs.YthehhbfiaaadgaaDoor.Pure
set_option maxHeartbeats 4000000 in
theorem law_side (g p p' : Nat) (far : Bool) (w : World) (h : w.heap[g]? = some (pairB p p')) :
    Calls Tryd.prog 13 #[.slice (some ⟨g, 0, none⟩) 2 2, .bool far] w fun e w' => e = .returned (.tuple #[.pointer (some ⟨if far then p' else p, 0, none⟩), .pointer (some ⟨if far then p else p', 0, none⟩)]) ∧ Below w.heap.size w w' := by
  have e0 := blk_cell h 0
  have e1 := blk_cell h 1
  clear h
  cases far with
  | true =>
    go_enter Tryd.func13, Tryd.ntmps13
    go_wp2
    go_quiet (fail)
    go_wp2
    go_ret2
    exact ⟨rfl, pw_below_drewN (Below.refl _ _) _⟩
  | false =>
    go_enter Tryd.func13, Tryd.ntmps13
    go_wp2
    go_quiet (fail)
    go_wp2
    go_ret2
    exact ⟨rfl, pw_below_drewN (Below.refl _ _) _⟩
open Go.Proofs.YthehhbfiaaadgaaDoor.Num Go.Proofs.YthehhbfiaaadgaaDoor.Pure
theorem strOfNums_append (a b : List Int) : strOfNums (a ++ b) = strOfNums a ++ strOfNums b := by
  apply ByteArray.ext
  rw [ByteArray.data_append]
  unfold strOfNums
  simp
/-- What was sent and what was received, by sides and channels. -/
structure Tx (t : Nat) (S C : Nat → Nat → List Int) (w : World) : Prop where
  h : ∃ cs : Array Value, w.heap[t]? = some (.cells cs 30 (0, 0)) ∧ cs.size = 32 ∧ ∀ i, i < 2 → ∀ ch, ch < 8 → cs[i * 8 + ch]? = some (.string (strOfNums (S i ch))) ∧ cs[16 + i * 8 + ch]? = some (.string (strOfNums (C i ch)))
theorem Tx.kept {t : Nat} {S C : Nat → Nat → List Int} {w w' : World} (h : Tx t S C w) (hb : w'.heap[t]? = w.heap[t]?) : Tx t S C w' := by
  obtain ⟨cs, h1, h2⟩ := h.h
  exact ⟨cs, hb.trans h1, h2⟩
theorem Tx.lt {t : Nat} {S C : Nat → Nat → List Int} {w : World} (h : Tx t S C w) : t < w.heap.size := by
  obtain ⟨cs, h1, h2⟩ := h.h
  exact blk_lt h1
theorem Tx.at_ {t : Nat} {S C : Nat → Nat → List Int} {w : World} (h : Tx t S C w) (i ch : Nat) (hi : i < 2) (hch : ch < 8) : w.cell? ⟨t, i * 8 + ch, none⟩ = some (.string (strOfNums (S i ch))) ∧ w.cell? ⟨t, 16 + i * 8 + ch, none⟩ = some (.string (strOfNums (C i ch))) ∧ w.frozen? ⟨t, i * 8 + ch, none⟩ = false ∧ w.frozen? ⟨t, 16 + i * 8 + ch, none⟩ = false := by
  obtain ⟨cs, h1, _, h2⟩ := h.h
  exact ⟨(blk_cell h1 _).trans (h2 i hi ch hch).1, (blk_cell h1 _).trans (h2 i hi ch hch).2, blk_frozen h1 _, blk_frozen h1 _⟩
def upd2 (S : Nat → Nat → List Int) (i ch : Nat) (L : List Int) : Nat → Nat → List Int := fun j c => if j = i ∧ c = ch then L else S j c
theorem Tx.putS {t : Nat} {S C : Nat → Nat → List Int} {w : World} (h : Tx t S C w) (i ch : Nat) (hi : i < 2) (hch : ch < 8) (L : List Int) : Tx t (upd2 S i ch L) C (w.setCell ⟨t, i * 8 + ch, none⟩ (.string (strOfNums L))) := by
  obtain ⟨cs, h1, hs, h2⟩ := h.h
  refine ⟨_, blk_set h1 _ _, by simp [hs], fun j hj c hc => ⟨?_, ?_⟩⟩
  · rw [set_get (by omega)]
    unfold upd2
    by_cases e : j = i ∧ c = ch
    · rw [if_pos (by omega), if_pos e]
    · rw [if_neg (by omega), if_neg e]; exact (h2 j hj c hc).1
  · rw [set_get (by omega), if_neg (by omega)]; exact (h2 j hj c hc).2
theorem Tx.putC {t : Nat} {S C : Nat → Nat → List Int} {w : World} (h : Tx t S C w) (i ch : Nat) (hi : i < 2) (hch : ch < 8) (L : List Int) : Tx t S (upd2 C i ch L) (w.setCell ⟨t, 16 + i * 8 + ch, none⟩ (.string (strOfNums L))) := by
  obtain ⟨cs, h1, hs, h2⟩ := h.h
  refine ⟨_, blk_set h1 _ _, by simp [hs], fun j hj c hc => ⟨?_, ?_⟩⟩
  · rw [set_get (by omega), if_neg (by omega)]; exact (h2 j hj c hc).1
  · rw [set_get (by omega)]
    unfold upd2
    by_cases e : j = i ∧ c = ch
    · rw [if_pos (by omega), if_pos e]
    · rw [if_neg (by omega), if_neg e]; exact (h2 j hj c hc).2
open Go.Proofs.YthehhbfiaaadgaaDoor.Num Go.Proofs.YthehhbfiaaadgaaDoor.Pure
theorem Two.forget {b0 : Nat} {K K' : Nat → Prop} {p q p' q' : Nat} {vs vs' : Nat → Value} {A B : Mx} {w : World} (h : Two b0 K p q vs A p' q' vs' B w) (hk : ∀ k, K' k → K k) : Two b0 K' p q vs A p' q' vs' B w := ⟨h.a, h.b, h.ne, fun k hk2 => h.kk k (hk k hk2), h.bs⟩
theorem Nx.forget {b0 : Nat} {K K' : Nat → Prop} {w w' : World} (h : Nx b0 K w w') (hk : ∀ k, K' k → K k) : Nx b0 K' w w' := ⟨h.below, fun k hk2 => h.kept k (hk k hk2)⟩
theorem Nx.put {b0 : Nat} {K : Nat → Prop} {w w' : World} (h : Nx b0 K w w') (a : Addr) (u : Value) (hb : b0 ≤ a.block) (hk : ¬ K a.block) : Nx b0 K w (w'.setCell a u) := ⟨h.below.setCell hb u, fun k hk2 => (Below.heap_setCell w' a u k (fun e => hk (e ▸ hk2))).trans (h.kept k hk2)⟩
abbrev actV (d : Int) (far : Bool) (ch n : Int) (A : Option Addr) (nb cb : Nat) : Value := .agg #[.int .i64 d, .bool far, .int .i64 ch, .int .i64 n, .slice A nb cb]
abbrev actB (d : Int) (far : Bool) (ch n : Int) (A : Option Addr) (nb cb : Nat) : Obj := .cells #[.int .i64 d, .bool far, .int .i64 ch, .int .i64 n, .slice A nb cb] 34
/-- A box is minded, too. -/
theorem Two.boxed {b0 : Nat} {K : Nat → Prop} {p q p' q' : Nat} {vs vs' : Nat → Value} {A B : Mx} {w : World} (h : Two b0 K p q vs A p' q' vs' B w) (o : Obj) : Two b0 (fun k => K k ∨ k = w.heap.size) p q vs A p' q' vs' B (w.alloc o) ∧ Below w.heap.size w (w.alloc o) := by
  have hb := below_alloc (Below.refl _ w) o
  exact ⟨(h.below hb).1.mind w.heap.size (by simp) (fun e => by have := (h.a.foot _ e).2; omega) (fun e => by have := (h.b.foot _ e).2; omega), hb⟩
theorem two_Held2 {b0 : Nat} {K : Nat → Prop} {p q p' q' : Nat} {vs vs' : Nat → Value} {A B : Mx} (ch : Nat) (hch : ch < 8) (w : World) (h : Two b0 K p q vs A p' q' vs' B w) (n : Int) (hn : ((A.held ch).length : Int) = n) :
    Calls Tryd.prog 24 #[.pointer (some ⟨p, 0, none⟩), .int .i64 ch] w fun e w' => e = .returned (.int .i64 n) ∧ Two b0 K p q vs A p' q' vs' B w' ∧ Nx b0 K w w' ∧ Below w.heap.size w w' := by
  refine (mux_Held.at_ ch hch w h.a).mono ?_
  rintro e w' ⟨rfl, hb⟩
  rw [hn]
  exact ⟨rfl, (h.below hb).1, (h.below hb).2, hb⟩
theorem Mx.outs_off (M : Mx) (n : Int) (h : n < 1) : M.outs n = M ∧ M.outB n = [] := by
  have h0 : M.fill n (M.mu + 1) = M := Mx.fill_stop _ _ _ (.inl (by omega))
  unfold Mx.outs Mx.outB
  rw [h0, show n.toNat = 0 by omega]
  exact ⟨rfl, rfl⟩
theorem two_OutAny {b0 : Nat} {K : Nat → Prop} {p q p' q' : Nat} {vs vs' : Nat → Value} {A B : Mx} (n : Int) (w : World) (h : Two b0 K p q vs A p' q' vs' B w) (hG : GT w) (hb0 : 0 < b0) (g : A.Good 20000000) (he : A.e = 0) :
    Calls Tryd.prog 14 #[.pointer (some ⟨p, 0, none⟩), .int .i64 n] w fun e w' => ∃ D nd cd vs1, e = .returned (.slice D nd cd) ∧ (A.outB n).length = nd ∧ Kd.C (Kd.int .u8) w' D nd (A.outB n) ∧ Two b0 K p q vs1 (A.outs n) p' q' vs' B w' ∧ Nx b0 K w w' := by
  by_cases hn : n < 1
  · refine (mux_Out.off n w h.a (.inr hn)).mono ?_
    rintro e w' ⟨rfl, hb⟩
    obtain ⟨e1, e2⟩ := Mx.outs_off A n hn
    rw [e1, e2]
    exact ⟨none, 0, 0, vs, rfl, rfl, Kd.C_nil _ _, h.below hb⟩
  · refine (two_Out n w h hG hb0 g he (by omega)).mono ?_
    rintro e w' ⟨v, vs1, rfl, hR, hT, hN⟩
    obtain ⟨D, cd, rfl⟩ := Kd.R_slice hR
    exact ⟨D, _, cd, vs1, rfl, rfl, (Kd.R_reads' hR).2.2, hT, hN⟩
theorem Mx.outB_le (M : Mx) (n : Int) : ((M.outB n).length : Int) ≤ if n < 0 then 0 else n := by
  unfold Mx.outB
  rw [List.length_take]
  split <;> omega
theorem C_past {b0 : Nat} {w w' : World} {A : Option Addr} {n : Nat} {L : List Int} (h : Kd.C (Kd.int .u8) w A n L) (hA : ∀ ad, A = some ad → 0 < n → w'.heap[ad.block]? = w.heap[ad.block]?) : Kd.C (Kd.int .u8) w' A n L := by
  by_cases hn : 0 < n
  · exact C_moved h (fun ad e => hA ad e hn)
  · exact ⟨h.1, h.2.1, fun h2 => absurd h2 hn⟩
set_option maxHeartbeats 8000000 in
set_option maxRecDepth 100000 in
theorem do_send_false {b0 : Nat} {K : Nat → Prop} {p q p' q' g t : Nat} {vs vs' : Nat → Value} {X O : Mx} {S C : Nat → Nat → List Int} (ch : Nat) (hch : ch < 8) (nv : Int) (Ab : Option Addr) (nb cb : Nat) (w : World) (hT : Two b0 (fun k => K k ∨ k = t) p q vs X p' q' vs' O w) (hg : w.heap[g]? = some (pairB p p')) (hKg : K g) (hKt : ¬ K t) (htb : b0 ≤ t) (hx : Tx t S C w) (N : List Int) (hf : X.Fit) (hro :  (nb : Int) ≤ X.win - X.way ch) (he : X.e = 0) (hCC : ∀ w', Nx b0 K w w' → Kd.C (Kd.int .u8) w' Ab nb N) (hl : ∀ c, c < 8 → (X.sent c).length + nb ≤ 140737488355328) (hsz : (S 0 ch).length + nb ≤ 4611686018427387904) :
    Calls Tryd.prog 15 #[.pointer (some ⟨t, 0, none⟩), .slice (some ⟨g, 0, none⟩) 2 2, actV 0 false ch nv Ab nb cb] w fun e w' => e = .returned (.bool true) ∧ ∃ vs1, Two b0 (fun k => K k ∨ k = t) p q vs1 (X.send ch N) p' q' vs' O w' ∧ Nx b0 K w w' ∧ Tx t (upd2 S 0 ch (S 0 ch ++ N)) C w' := by
  have k2 : (0 ≤ (ch : Int)) = True := eq_true (by omega)
  have k3 : (ch < 8) = True := eq_true hch
  have k4 : ((ch : Int) < 8) = True := eq_true (by omega)
  have HCH := Aside0.mk hch
  obtain ⟨hT0, hb0⟩ := hT.boxed (actB 0 false ch nv Ab nb cb)
  have hbn := blk_new w (actB 0 false ch nv Ab nb cb)
  have hg0 := blk_below hg hb0
  have hx0 := hx.kept (hb0.block t hx.lt)
  have e0 := blk_cell hbn 0
  have e1 := blk_cell hbn 1
  have e2 := blk_cell hbn 2
  have e3 := blk_cell hbn 3
  have e4 := blk_cell hbn 4
  have HT0 := Aside0.mk hT0
  have HB0 := Aside0.mk (hb0.mono hT.bs)
  have HBN := Aside0.mk hbn
  have HG0 := Aside0.mk hg0
  have HX0 := Aside0.mk hx0
  have HSd := Aside0.mk (law_side g p p' false _ hg0)
  have HKg := Aside0.mk hKg
  have HKt := Aside0.mk (And.intro hKt htb)
  have HKB := Aside0.mk (fun k (hk : K k) => (hb0.block k (hT.kk k (.inl hk)).1))
  have HC := Aside0.mk hCC
  have HL := Aside0.mk (And.intro hl (And.intro hsz (hCC w (Nx.refl _ _ _)).1))
  have HE := Aside0.mk he
  have HFit := Aside0.mk hf
  have HRO0 := Aside0.mk hro
  clear hro hT hg hKg hKt htb hx hf hch hCC hl hsz he hT0 hb0 hbn hg0 hx0
  go_enter Tryd.func15, Tryd.ntmps15
  go_wp2_with fail
  refine HSd.out.mono ?_
  rintro e w1 ⟨rfl, hb1⟩
  generalize hW : w.alloc (actB 0 false ch nv Ab nb cb) = W at *
  clear hW
  have hN1 := (HT0.out.below hb1)
  have HT1 := Aside0.mk hN1.1
  have HN1 := Aside0.mk hN1.2
  have HBN1 := Aside0.mk (blk_below HBN.out hb1)
  have e0 := blk_cell HBN1.out 0
  have e1 := blk_cell HBN1.out 1
  have e2 := blk_cell HBN1.out 2
  have e3 := blk_cell HBN1.out 3
  have e4 := blk_cell HBN1.out 4
  clear hN1 hb1 HSd
  have HRm := Aside0.mk (two_Room ch HCH.out w1 HT1.out HFit.out)
  go_wp2_with fail
  refine HRm.out.mono ?_
  rintro e w2 ⟨rfl, hT2, hN2⟩
  have hs := two_Send (ch : Int) Ab nb cb N w2 hT2 HFit.out (HC.out w2 ((Nx.mk HB0.out HKB.out : Nx b0 K w W).trans ((HN1.out.trans hN2).forget (fun k hk => .inl (.inl hk))))) HL.out.1
  obtain ⟨room, hroom⟩ : ∃ room, X.win - X.way ch = room := ⟨_, rfl⟩
  have hro := HRO0.out
  rw [hroom] at hro ⊢
  have hsE : X.sendE ch nb = 0 := by
    unfold Mx.sendE
    have := HCH.out
    rw [if_neg (fun h => h HE.out), if_neg (by omega), Int.toNat_natCast, hroom, if_neg (by omega)]
  rw [hsE, if_pos rfl, Int.toNat_natCast] at hs
  have HSS := Aside0.mk hs
  have j1 : decide ((nb : Int) ≤ room) = true := decide_eq_true (by omega)
  clear hs hsE hro HRO0 hroom
  have HT2 := Aside0.mk hT2
  have HBN2 := Aside0.mk ((hN2.kept w.heap.size (.inr rfl)).trans HBN1.out)
  have HN2 := Aside0.mk (HN1.out.trans hN2)
  clear hT2 hN2 e0 e1 e2 e3 e4
  have e0 := blk_cell HBN2.out 0
  have e1 := blk_cell HBN2.out 1
  have e2 := blk_cell HBN2.out 2
  have e3 := blk_cell HBN2.out 3
  have e4 := blk_cell HBN2.out 4
  go_wp2_with fail
  refine HSS.out.mono ?_
  rintro e w3 ⟨rfl, vs3, hT3, hN3⟩
  have HT3 := Aside0.mk hT3
  have HBN3 := Aside0.mk ((hN3.kept w.heap.size (.inr rfl)).trans HBN2.out)
  have HN3 := Aside0.mk (HN2.out.trans hN3)
  clear hT3 hN3 e0 e1 e2 e3 e4
  have e0 := blk_cell HBN3.out 0
  have e1 := blk_cell HBN3.out 1
  have e2 := blk_cell HBN3.out 2
  have e3 := blk_cell HBN3.out 3
  have e4 := blk_cell HBN3.out 4
  clear HSS
  go_wp2
  have hdr := below_drew (Below.refl w3.heap.size w3)
  have HBN3d := Aside0.mk (blk_below HBN3.out hdr)
  have HT3d := Aside0.mk (HT3.out.below hdr).1
  have HN3d := Aside0.mk (HN3.out.trans (HT3.out.below hdr).2)
  have HX3d := Aside0.mk (HX0.out.kept (HN3d.out.kept t (.inl (.inr rfl))))
  have HC3d := Aside0.mk (HC.out w3.drew ((Nx.mk HB0.out HKB.out : Nx b0 K w W).trans (HN3d.out.forget (fun k hk => .inl (.inl hk)))))
  have hat := HX3d.out.at_ 0 ch (by decide) HCH.out
  have HTC3 : Aside0 (w3.drew.cell? ⟨t, ch, none⟩ = some (.string (strOfNums (S 0 ch)))) := ⟨by have h0 := hat.1; simpa using h0⟩
  have hfz : w3.drew.frozen? ⟨t, ch, none⟩ = false := by have h0 := hat.2.2.1; simpa using h0
  have hadd : ∀ w' : World, (Op.stringOp .add (strOfNums (S 0 ch)) (strOfNums N)).run Tryd.prog w' = .ok (.string (strOfNums (S 0 ch) ++ strOfNums N)) w' := fun w' => run_string_add_sum w' _ _ (by rw [strOfNums_size, strOfNums_size, HL.out.2.2]; have := HL.out.2.1; omega)
  clear hat hdr e0 e1 e2 e3 e4
  refine start_ (n := 18) (S := fun w' => w'.cell? ⟨w.heap.size, 2, none⟩ = some (.int .i64 ch) ∧ w'.cell? ⟨w.heap.size, 4, none⟩ = some (.slice Ab nb cb) ∧ w'.cell? ⟨t, ch, none⟩ = some (.string (strOfNums (S 0 ch))) ∧ (convert 32 9 (.slice Ab nb cb)).run Tryd.prog w' = .ok (.string (strOfNums N)) w') (ds := [17]) #[false, false, false, false, false, false, false, false, false, false, false, false, false, false, false, false, false, false] (by kernel_rfl) rfl rfl ⟨(blk_cell HBN3d.out 2), (blk_cell HBN3d.out 4), HTC3.out, (conv_C cb HC3d.out)⟩ (fun hHeld => ?_)
  refine pure_ (i := 0) (N := some 57) (v := ?_) (a' := ?_) #[true, false, false, false, false, false, false, false, false, false, false, false, false, false, false, false, false, false] rfl rfl (by kernel_rfl) (fun _ _ _ h => h) (Or.inl ⟨by rfl, ?_⟩) ?_ ?_
  rotate_left
  · intro w'
    go_simp
    with_reducible rfl
  rotate_left
  · simp only [Act.put, List.setIfInBounds_toArray, List.set_cons_zero, List.set_cons_succ, i64_w, i32_w]
    rfl
  refine pure_ (i := 1) (N := some 58) (v := ?_) (a' := ?_) #[true, true, false, false, false, false, false, false, false, false, false, false, false, false, false, false, false, false] rfl rfl (by kernel_rfl) (fun _ _ _ h => h) (Or.inl ⟨by rfl, ?_⟩) ?_ ?_
  rotate_left
  · intro w'
    go_simp
    with_reducible rfl
  rotate_left
  · simp only [Act.put, List.setIfInBounds_toArray, List.set_cons_zero, List.set_cons_succ, i64_w, i32_w]
    rfl
  refine pure_ (i := 2) (N := some 59) (v := ?_) (a' := ?_) #[true, true, true, false, false, false, false, false, false, false, false, false, false, false, false, false, false, false] rfl rfl (by kernel_rfl) (fun _ _ _ h => h) (Or.inl ⟨by rfl, ?_⟩) ?_ ?_
  rotate_left
  · intro w'
    go_simp
    with_reducible rfl
  rotate_left
  · simp only [Act.put, List.setIfInBounds_toArray, List.set_cons_zero, List.set_cons_succ, i64_w, i32_w]
    rfl
  refine pure_ (i := 4) (N := some 61) (v := ?_) (a' := ?_) #[true, true, true, false, true, false, false, false, false, false, false, false, false, false, false, false, false, false] rfl rfl (by kernel_rfl) (fun _ _ _ h => h) (Or.inl ⟨by rfl, ?_⟩) ?_ ?_
  rotate_left
  · intro w'
    go_simp
    with_reducible rfl
  rotate_left
  · simp only [Act.put, List.setIfInBounds_toArray, List.set_cons_zero, List.set_cons_succ, i64_w, i32_w]
    rfl
  refine pure_ (i := 5) (N := some 62) (v := ?_) (a' := ?_) #[true, true, true, false, true, true, false, false, false, false, false, false, false, false, false, false, false, false] rfl rfl (by kernel_rfl) (fun _ _ _ h => h) (Or.inl ⟨by rfl, ?_⟩) ?_ ?_
  rotate_left
  · intro w'
    go_simp
    with_reducible rfl
  rotate_left
  · simp only [Act.put, List.setIfInBounds_toArray, List.set_cons_zero, List.set_cons_succ, i64_w, i32_w]
    rfl
  refine pure_ (i := 6) (N := some 63) (v := ?_) (a' := ?_) #[true, true, true, false, true, true, true, false, false, false, false, false, false, false, false, false, false, false] rfl rfl (by kernel_rfl) (fun _ _ _ h => h) (Or.inl ⟨by rfl, ?_⟩) ?_ ?_
  rotate_left
  · intro w'
    go_simp
    with_reducible rfl
  rotate_left
  · simp only [Act.put, List.setIfInBounds_toArray, List.set_cons_zero, List.set_cons_succ, i64_w, i32_w]
    rfl
  refine pure_ (i := 9) (N := some 66) (v := ?_) (a' := ?_) #[true, true, true, false, true, true, true, false, false, true, false, false, false, false, false, false, false, false] rfl rfl (by kernel_rfl) (fun _ _ _ h => h) (Or.inl ⟨by rfl, ?_⟩) ?_ ?_
  rotate_left
  · intro w'
    go_simp
    with_reducible rfl
  rotate_left
  · simp only [Act.put, List.setIfInBounds_toArray, List.set_cons_zero, List.set_cons_succ, i64_w, i32_w]
    rfl
  refine pure_ (i := 13) (N := some 70) (v := ?_) (a' := ?_) #[true, true, true, false, true, true, true, false, false, true, false, false, false, true, false, false, false, false] rfl rfl (by kernel_rfl) (fun _ _ _ h => h) (Or.inl ⟨by rfl, ?_⟩) ?_ ?_
  rotate_left
  · intro w'
    go_simp
    with_reducible rfl
  rotate_left
  · simp only [Act.put, List.setIfInBounds_toArray, List.set_cons_zero, List.set_cons_succ, i64_w, i32_w]
    rfl
  refine pure_ (i := 14) (N := some 71) (v := ?_) (a' := ?_) #[true, true, true, false, true, true, true, false, false, true, false, false, false, true, true, false, false, false] rfl rfl (by kernel_rfl) (fun _ _ _ h => h) (Or.inl ⟨by rfl, ?_⟩) ?_ ?_
  rotate_left
  · intro w'
    go_simp
    with_reducible rfl
  rotate_left
  · simp only [Act.put, List.setIfInBounds_toArray, List.set_cons_zero, List.set_cons_succ, i64_w, i32_w]
    rfl
  refine pure_ (i := 15) (N := some 72) (v := ?_) (a' := ?_) #[true, true, true, false, true, true, true, false, false, true, false, false, false, true, true, true, false, false] rfl rfl (by kernel_rfl) (fun _ _ _ h => h) (Or.inl ⟨by rfl, ?_⟩) ?_ ?_
  rotate_left
  · intro w'
    go_simp
    with_reducible rfl
  rotate_left
  · simp only [Act.put, List.setIfInBounds_toArray, List.set_cons_zero, List.set_cons_succ, i64_w, i32_w]
    rfl
  refine take_ (i := 3) (N := some 60) (v := ?_) (a' := ?_) #[true, true, true, true, true, true, true, false, false, true, false, false, false, true, true, true, false, false] rfl rfl (by kernel_rfl) (fun _ _ _ h => h) (Or.inl ⟨by rfl, ?_⟩) hHeld ?_ ?_
  rotate_left
  · rintro w' ⟨s0, s1, s2, s3⟩
    go_simp
    with_reducible rfl
  rotate_left
  · simp only [Act.put, List.setIfInBounds_toArray, List.set_cons_zero, List.set_cons_succ, i64_w, i32_w]
    rfl
  refine pure_ (i := 7) (N := some 64) (v := ?_) (a' := ?_) #[true, true, true, true, true, true, true, true, false, true, false, false, false, true, true, true, false, false] rfl rfl (by kernel_rfl) (fun _ _ _ h => h) (Or.inl ⟨by rfl, ?_⟩) ?_ ?_
  rotate_left
  · intro w'
    go_simp
    with_reducible rfl
  rotate_left
  · simp only [Act.put, List.setIfInBounds_toArray, List.set_cons_zero, List.set_cons_succ, i64_w, i32_w]
    rfl
  refine take_ (i := 8) (N := some 65) (v := ?_) (a' := ?_) #[true, true, true, true, true, true, true, true, true, true, false, false, false, true, true, true, false, false] rfl rfl (by kernel_rfl) (fun _ _ _ h => h) (Or.inl ⟨by rfl, ?_⟩) hHeld ?_ ?_
  rotate_left
  · rintro w' ⟨s0, s1, s2, s3⟩
    go_simp
    with_reducible rfl
  rotate_left
  · simp only [Act.put, List.setIfInBounds_toArray, List.set_cons_zero, List.set_cons_succ, i64_w, i32_w]
    rfl
  refine take_ (i := 10) (N := some 67) (v := ?_) (a' := ?_) #[true, true, true, true, true, true, true, true, true, true, true, false, false, true, true, true, false, false] rfl rfl (by kernel_rfl) (fun _ _ _ h => h) (Or.inl ⟨by rfl, ?_⟩) hHeld ?_ ?_
  rotate_left
  · rintro w' ⟨s0, s1, s2, s3⟩
    go_simp
    with_reducible rfl
  rotate_left
  · simp only [Act.put, List.setIfInBounds_toArray, List.set_cons_zero, List.set_cons_succ, i64_w, i32_w]
    rfl
  refine take_ (i := 11) (N := some 68) (v := ?_) (a' := ?_) #[true, true, true, true, true, true, true, true, true, true, true, true, false, true, true, true, false, false] rfl rfl (by kernel_rfl) (fun _ _ _ h => h) (Or.inl ⟨by rfl, ?_⟩) hHeld ?_ ?_
  rotate_left
  · rintro w' ⟨s0, s1, s2, s3⟩
    go_simp
    with_reducible rfl
  rotate_left
  · simp only [Act.put, List.setIfInBounds_toArray, List.set_cons_zero, List.set_cons_succ, i64_w, i32_w]
    rfl
  refine pure_ (i := 12) (N := some 69) (v := ?_) (a' := ?_) #[true, true, true, true, true, true, true, true, true, true, true, true, true, true, true, true, false, false] rfl rfl (by kernel_rfl) (fun _ _ _ h => h) (Or.inl ⟨by rfl, ?_⟩) ?_ ?_
  rotate_left
  · intro w'
    go_simp
    with_reducible rfl
  rotate_left
  · simp only [Act.put, List.setIfInBounds_toArray, List.set_cons_zero, List.set_cons_succ, i64_w, i32_w]
    rfl
  refine pure_ (i := 16) (N := some 73) (v := ?_) (a' := ?_) #[true, true, true, true, true, true, true, true, true, true, true, true, true, true, true, true, true, false] rfl rfl (by kernel_rfl) (fun _ _ _ h => h) (Or.inl ⟨by rfl, ?_⟩) ?_ ?_
  rotate_left
  · intro w'
    go_simp
    with_reducible rfl
  rotate_left
  · simp only [Act.put, List.setIfInBounds_toArray, List.set_cons_zero, List.set_cons_succ, i64_w, i32_w]
    rfl
  refine last_ (i := 17) (N := none) #[true, true, true, true, true, true, true, true, true, true, true, true, true, true, true, true, true, true] rfl rfl (by kernel_rfl) (by decide) (fun K hK => ?_)
  refine skip_ (w1 := ?_) (by rfl) rfl ?_ ?_
  rotate_left
  · go_simp
    rfl
  refine hK.out _ _ ?_
  clear hK K
  refine done_ (by kernel_rfl) ?_
  rw [← strOfNums_append]
  go_wp2
  go_ret
  have hkt := HKt.out
  have hp := HX3d.out.putS 0 ch (by decide) HCH.out (S 0 ch ++ N)
  have hkk := (HT3d.out.kk t (.inl (.inr rfl)))
  have za := (HT3d.out.put ⟨t, ch, none⟩ (.string (strOfNums (S 0 ch ++ N))) hkk.2.1 hkk.2.2).forget (K' := fun k => K k ∨ k = t) (fun k hk => .inl hk)
  have zb := ((Nx.mk HB0.out HKB.out : Nx b0 K w W).trans (HN3d.out.forget (fun k hk => .inl (.inl hk)))).put ⟨t, ch, none⟩ (.string (strOfNums (S 0 ch ++ N))) hkt.2 hkt.1
  try simp only [Nat.zero_mul, Nat.one_mul, Nat.zero_add] at hp
  first | exact ⟨rfl, vs3, za, zb, hp⟩ | exact ⟨rfl, ⟨vs3, za⟩, zb, hp⟩
set_option maxHeartbeats 8000000 in
set_option maxRecDepth 100000 in
theorem do_full_false {b0 : Nat} {K : Nat → Prop} {p q p' q' g t : Nat} {vs vs' : Nat → Value} {X O : Mx} {S C : Nat → Nat → List Int} (ch : Nat) (hch : ch < 8) (nv : Int) (Ab : Option Addr) (nb cb : Nat) (w : World) (hT : Two b0 (fun k => K k ∨ k = t) p q vs X p' q' vs' O w) (hg : w.heap[g]? = some (pairB p p')) (hKg : K g) (hKt : ¬ K t) (htb : b0 ≤ t) (hx : Tx t S C w) (N : List Int) (hf : X.Fit) (hro : ¬ (nb : Int) ≤ X.win - X.way ch) (he : X.e = 0) (hCC : ∀ w', Nx b0 K w w' → Kd.C (Kd.int .u8) w' Ab nb N) (hl : ∀ c, c < 8 → (X.sent c).length + nb ≤ 140737488355328) (hsz : (S 0 ch).length + nb ≤ 4611686018427387904) :
    Calls Tryd.prog 15 #[.pointer (some ⟨t, 0, none⟩), .slice (some ⟨g, 0, none⟩) 2 2, actV 0 false ch nv Ab nb cb] w fun e w' => e = .returned (.bool true) ∧ ∃ vs1, Two b0 (fun k => K k ∨ k = t) p q vs1 X p' q' vs' O w' ∧ Nx b0 K w w' ∧ Tx t S C w' := by
  have k2 : (0 ≤ (ch : Int)) = True := eq_true (by omega)
  have k3 : (ch < 8) = True := eq_true hch
  have k4 : ((ch : Int) < 8) = True := eq_true (by omega)
  have HCH := Aside0.mk hch
  obtain ⟨hT0, hb0⟩ := hT.boxed (actB 0 false ch nv Ab nb cb)
  have hbn := blk_new w (actB 0 false ch nv Ab nb cb)
  have hg0 := blk_below hg hb0
  have hx0 := hx.kept (hb0.block t hx.lt)
  have e0 := blk_cell hbn 0
  have e1 := blk_cell hbn 1
  have e2 := blk_cell hbn 2
  have e3 := blk_cell hbn 3
  have e4 := blk_cell hbn 4
  have HT0 := Aside0.mk hT0
  have HB0 := Aside0.mk (hb0.mono hT.bs)
  have HBN := Aside0.mk hbn
  have HG0 := Aside0.mk hg0
  have HX0 := Aside0.mk hx0
  have HSd := Aside0.mk (law_side g p p' false _ hg0)
  have HKg := Aside0.mk hKg
  have HKt := Aside0.mk (And.intro hKt htb)
  have HKB := Aside0.mk (fun k (hk : K k) => (hb0.block k (hT.kk k (.inl hk)).1))
  have HC := Aside0.mk hCC
  have HL := Aside0.mk (And.intro hl (And.intro hsz (hCC w (Nx.refl _ _ _)).1))
  have HE := Aside0.mk he
  have HFit := Aside0.mk hf
  have HRO0 := Aside0.mk hro
  clear hro hT hg hKg hKt htb hx hf hch hCC hl hsz he hT0 hb0 hbn hg0 hx0
  go_enter Tryd.func15, Tryd.ntmps15
  go_wp2_with fail
  refine HSd.out.mono ?_
  rintro e w1 ⟨rfl, hb1⟩
  generalize hW : w.alloc (actB 0 false ch nv Ab nb cb) = W at *
  clear hW
  have hN1 := (HT0.out.below hb1)
  have HT1 := Aside0.mk hN1.1
  have HN1 := Aside0.mk hN1.2
  have HBN1 := Aside0.mk (blk_below HBN.out hb1)
  have e0 := blk_cell HBN1.out 0
  have e1 := blk_cell HBN1.out 1
  have e2 := blk_cell HBN1.out 2
  have e3 := blk_cell HBN1.out 3
  have e4 := blk_cell HBN1.out 4
  clear hN1 hb1 HSd
  have HRm := Aside0.mk (two_Room ch HCH.out w1 HT1.out HFit.out)
  go_wp2_with fail
  refine HRm.out.mono ?_
  rintro e w2 ⟨rfl, hT2, hN2⟩
  have hs := two_Send (ch : Int) Ab nb cb N w2 hT2 HFit.out (HC.out w2 ((Nx.mk HB0.out HKB.out : Nx b0 K w W).trans ((HN1.out.trans hN2).forget (fun k hk => .inl (.inl hk))))) HL.out.1
  obtain ⟨room, hroom⟩ : ∃ room, X.win - X.way ch = room := ⟨_, rfl⟩
  have hro := HRO0.out
  rw [hroom] at hro ⊢
  have hsE : X.sendE ch nb = 8 := by
    unfold Mx.sendE
    have := HCH.out
    rw [if_neg (fun h => h HE.out), if_neg (by omega), Int.toNat_natCast, hroom, if_pos (by omega)]
  rw [hsE, if_neg (by decide)] at hs
  have HSS := Aside0.mk hs
  have j1 : decide ((nb : Int) ≤ room) = false := decide_eq_false (by omega)
  clear hs hsE hro HRO0 hroom
  have HT2 := Aside0.mk hT2
  have HBN2 := Aside0.mk ((hN2.kept w.heap.size (.inr rfl)).trans HBN1.out)
  have HN2 := Aside0.mk (HN1.out.trans hN2)
  clear hT2 hN2 e0 e1 e2 e3 e4
  have e0 := blk_cell HBN2.out 0
  have e1 := blk_cell HBN2.out 1
  have e2 := blk_cell HBN2.out 2
  have e3 := blk_cell HBN2.out 3
  have e4 := blk_cell HBN2.out 4
  go_wp2_with fail
  refine HSS.out.mono ?_
  rintro e w3 ⟨rfl, vs3, hT3, hN3⟩
  have HT3 := Aside0.mk hT3
  have HBN3 := Aside0.mk ((hN3.kept w.heap.size (.inr rfl)).trans HBN2.out)
  have HN3 := Aside0.mk (HN2.out.trans hN3)
  clear hT3 hN3 e0 e1 e2 e3 e4
  have e0 := blk_cell HBN3.out 0
  have e1 := blk_cell HBN3.out 1
  have e2 := blk_cell HBN3.out 2
  have e3 := blk_cell HBN3.out 3
  have e4 := blk_cell HBN3.out 4
  clear HSS
  have ZA := Aside0.mk (HT3.out.forget (K' := fun k => K k ∨ k = t) (fun k hk => .inl hk))
  have ZB := Aside0.mk ((Nx.mk HB0.out HKB.out : Nx b0 K w W).trans (HN3.out.forget (fun k hk => .inl (.inl hk))))
  have ZC := Aside0.mk (HX0.out.kept (HN3.out.kept t (.inl (.inr rfl))))
  go_wp2
  all_goals go_ret
  all_goals first | exact ⟨rfl, vs3, ZA.out, ZB.out, ZC.out⟩ | exact ⟨rfl, ⟨vs3, ZA.out⟩, ZB.out, ZC.out⟩
set_option maxHeartbeats 8000000 in
set_option maxRecDepth 100000 in
theorem do_recv_false {b0 : Nat} {K : Nat → Prop} {p q p' q' g t : Nat} {vs vs' : Nat → Value} {X O : Mx} {S C : Nat → Nat → List Int} (ch : Nat) (hch : ch < 8) (nv : Int) (Ab : Option Addr) (nb cb : Nat) (w : World) (hT : Two b0 (fun k => K k ∨ k = t) p q vs X p' q' vs' O w) (hg : w.heap[g]? = some (pairB p p')) (hKg : K g) (hKt : ¬ K t) (htb : b0 ≤ t) (hx : Tx t S C w) (hsz : (C 1 ch).length + (X.held ch).length ≤ 4611686018427387904) :
    Calls Tryd.prog 15 #[.pointer (some ⟨t, 0, none⟩), .slice (some ⟨g, 0, none⟩) 2 2, actV 2 false ch nv Ab nb cb] w fun e w' => e = .returned (.bool true) ∧ ∃ vs1, Two b0 (fun k => K k ∨ k = t) p q vs1 (X.recv ch) p' q' vs' O w' ∧ Nx b0 K w w' ∧ Tx t S (upd2 C 1 ch (C 1 ch ++ X.held ch)) w' := by
  have k2 : (0 ≤ (ch : Int)) = True := eq_true (by omega)
  have k3 : (ch < 8) = True := eq_true hch
  have k4 : ((ch : Int) < 8) = True := eq_true (by omega)
  have HCH := Aside0.mk hch
  obtain ⟨hT0, hb0⟩ := hT.boxed (actB 2 false ch nv Ab nb cb)
  have hbn := blk_new w (actB 2 false ch nv Ab nb cb)
  have hg0 := blk_below hg hb0
  have hx0 := hx.kept (hb0.block t hx.lt)
  have e0 := blk_cell hbn 0
  have e1 := blk_cell hbn 1
  have e2 := blk_cell hbn 2
  have e3 := blk_cell hbn 3
  have e4 := blk_cell hbn 4
  have HT0 := Aside0.mk hT0
  have HB0 := Aside0.mk (hb0.mono hT.bs)
  have HBN := Aside0.mk hbn
  have HG0 := Aside0.mk hg0
  have HX0 := Aside0.mk hx0
  have HSd := Aside0.mk (law_side g p p' false _ hg0)
  have HKg := Aside0.mk hKg
  have HKt := Aside0.mk (And.intro hKt htb)
  have HKB := Aside0.mk (fun k (hk : K k) => (hb0.block k (hT.kk k (.inl hk)).1))
  have HL := Aside0.mk hsz
  clear hT hg hKg hKt htb hx hch hsz hT0 hb0 hbn hg0 hx0
  go_enter Tryd.func15, Tryd.ntmps15
  go_wp2_with fail
  refine HSd.out.mono ?_
  rintro e w1 ⟨rfl, hb1⟩
  generalize hW : w.alloc (actB 2 false ch nv Ab nb cb) = W at *
  clear hW
  have hN1 := (HT0.out.below hb1)
  have HT1 := Aside0.mk hN1.1
  have HN1 := Aside0.mk hN1.2
  have HBN1 := Aside0.mk (blk_below HBN.out hb1)
  have e0 := blk_cell HBN1.out 0
  have e1 := blk_cell HBN1.out 1
  have e2 := blk_cell HBN1.out 2
  have e3 := blk_cell HBN1.out 3
  have e4 := blk_cell HBN1.out 4
  clear hN1 hb1 HSd
  have HRm := Aside0.mk (two_Held ch HCH.out w1 HT1.out)
  go_wp2_with fail
  refine HRm.out.mono ?_
  rintro e w2 ⟨rfl, hT2, hN2⟩
  have HRv := Aside0.mk (two_Recv ch HCH.out w2 hT2)
  have HT2 := Aside0.mk hT2
  have HBN2 := Aside0.mk ((hN2.kept w.heap.size (.inr rfl)).trans HBN1.out)
  have HN2 := Aside0.mk (HN1.out.trans hN2)
  clear hT2 hN2 e0 e1 e2 e3 e4
  have e0 := blk_cell HBN2.out 0
  have e1 := blk_cell HBN2.out 1
  have e2 := blk_cell HBN2.out 2
  have e3 := blk_cell HBN2.out 3
  have e4 := blk_cell HBN2.out 4
  clear HRm
  go_wp2_with fail
  refine HRv.out.mono ?_
  rintro e w3 ⟨v, vs3, rfl, hTb, hT3, hN3⟩
  obtain ⟨Ar, cr, rfl, hCr⟩ := conv_Tb hTb
  obtain ⟨nr, hnr⟩ : ∃ nr, (X.held ch).length = nr := ⟨_, rfl⟩
  have HTB := Aside0.mk hTb
  rw [hnr] at hCr ⊢
  have HHd := Aside0.mk (two_Held2 ch HCH.out w3 hT3 0 (by show ((upd X.held ch [] ch).length : Int) = 0; unfold upd; rw [if_pos rfl]; rfl))
  have HNR := Aside0.mk hnr
  have HCr := Aside0.mk hCr
  clear hTb hCr hnr HRv
  have HT3 := Aside0.mk hT3
  have HBN3 := Aside0.mk ((hN3.kept w.heap.size (.inr rfl)).trans HBN2.out)
  have HN3 := Aside0.mk (HN2.out.trans hN3)
  clear hT3 hN3 e0 e1 e2 e3 e4
  have e0 := blk_cell HBN3.out 0
  have e1 := blk_cell HBN3.out 1
  have e2 := blk_cell HBN3.out 2
  have e3 := blk_cell HBN3.out 3
  have e4 := blk_cell HBN3.out 4
  go_wp2_with fail
  refine HHd.out.mono ?_
  rintro e w4 ⟨rfl, hT4, hN4, hb4⟩
  have hdr := below_drew (Below.refl w4.heap.size w4)
  have HC4d : Aside0 (Kd.C (Kd.int .u8) w4.drew Ar nr (X.held ch)) := ⟨by
    have h1 := HCr.out
    rw [← HNR.out] at h1
    have h2 := Kd.C_below (Kd.C_below h1 hb4) hdr
    rw [HNR.out] at h2
    exact h2⟩
  have HNr := Aside0.mk hdr
  have HT4 := Aside0.mk hT4
  have HBN4 := Aside0.mk ((hN4.kept w.heap.size (.inr rfl)).trans HBN3.out)
  have HN4 := Aside0.mk (HN3.out.trans hN4)
  clear hT4 hN4 e0 e1 e2 e3 e4
  have e0 := blk_cell HBN4.out 0
  have e1 := blk_cell HBN4.out 1
  have e2 := blk_cell HBN4.out 2
  have e3 := blk_cell HBN4.out 3
  have e4 := blk_cell HBN4.out 4
  clear HHd hb4 hdr
  go_wp2
  have hdr := below_drew (Below.refl w4.heap.size w4)
  have HBN4d := Aside0.mk (blk_below HBN4.out hdr)
  have HT4d := Aside0.mk (HT4.out.below hdr).1
  have HN4d := Aside0.mk (HN4.out.trans (HT4.out.below hdr).2)
  have HX4d := Aside0.mk (HX0.out.kept (HN4d.out.kept t (.inl (.inr rfl))))
  have hat := HX4d.out.at_ 1 ch (by decide) HCH.out
  have HTC4 : Aside0 (w4.drew.cell? ⟨t, 24 + ch, none⟩ = some (.string (strOfNums (C 1 ch)))) := ⟨by have h0 := hat.2.1; simpa using h0⟩
  have hfz : w4.drew.frozen? ⟨t, 24 + ch, none⟩ = false := by have h0 := hat.2.2.2; simpa using h0
  have hadd : ∀ w' : World, (Op.stringOp .add (strOfNums (C 1 ch)) (strOfNums (X.held ch))).run Tryd.prog w' = .ok (.string (strOfNums (C 1 ch) ++ strOfNums (X.held ch))) w' := fun w' => run_string_add_sum w' _ _ (by rw [strOfNums_size, strOfNums_size]; have := HL.out; omega)
  clear hat hdr e0 e1 e2 e3 e4
  refine start_ (n := 17) (S := fun w' => w'.cell? ⟨w.heap.size, 2, none⟩ = some (.int .i64 ch) ∧ w'.cell? ⟨t, 24 + ch, none⟩ = some (.string (strOfNums (C 1 ch))) ∧ (convert 32 9 (.slice Ar nr cr)).run Tryd.prog w' = .ok (.string (strOfNums (X.held ch))) w') (ds := [16]) #[false, false, false, false, false, false, false, false, false, false, false, false, false, false, false, false, false] (by kernel_rfl) rfl rfl ⟨(blk_cell HBN4d.out 2), HTC4.out, (conv_C cr HC4d.out)⟩ (fun hHeld => ?_)
  refine pure_ (i := 0) (N := some 113) (v := ?_) (a' := ?_) #[true, false, false, false, false, false, false, false, false, false, false, false, false, false, false, false, false] rfl rfl (by kernel_rfl) (fun _ _ _ h => h) (Or.inl ⟨by rfl, ?_⟩) ?_ ?_
  rotate_left
  · intro w'
    go_simp
    with_reducible rfl
  rotate_left
  · simp only [Act.put, List.setIfInBounds_toArray, List.set_cons_zero, List.set_cons_succ, i64_w, i32_w]
    rfl
  refine pure_ (i := 1) (N := some 114) (v := ?_) (a' := ?_) #[true, true, false, false, false, false, false, false, false, false, false, false, false, false, false, false, false] rfl rfl (by kernel_rfl) (fun _ _ _ h => h) (Or.inl ⟨by rfl, ?_⟩) ?_ ?_
  rotate_left
  · intro w'
    go_simp
    with_reducible rfl
  rotate_left
  · simp only [Act.put, List.setIfInBounds_toArray, List.set_cons_zero, List.set_cons_succ, i64_w, i32_w]
    rfl
  refine pure_ (i := 2) (N := some 115) (v := ?_) (a' := ?_) #[true, true, true, false, false, false, false, false, false, false, false, false, false, false, false, false, false] rfl rfl (by kernel_rfl) (fun _ _ _ h => h) (Or.inl ⟨by rfl, ?_⟩) ?_ ?_
  rotate_left
  · intro w'
    go_simp
    with_reducible rfl
  rotate_left
  · simp only [Act.put, List.setIfInBounds_toArray, List.set_cons_zero, List.set_cons_succ, i64_w, i32_w]
    rfl
  refine pure_ (i := 4) (N := some 117) (v := ?_) (a' := ?_) #[true, true, true, false, true, false, false, false, false, false, false, false, false, false, false, false, false] rfl rfl (by kernel_rfl) (fun _ _ _ h => h) (Or.inl ⟨by rfl, ?_⟩) ?_ ?_
  rotate_left
  · intro w'
    go_simp
    with_reducible rfl
  rotate_left
  · simp only [Act.put, List.setIfInBounds_toArray, List.set_cons_zero, List.set_cons_succ, i64_w, i32_w]
    rfl
  refine pure_ (i := 5) (N := some 118) (v := ?_) (a' := ?_) #[true, true, true, false, true, true, false, false, false, false, false, false, false, false, false, false, false] rfl rfl (by kernel_rfl) (fun _ _ _ h => h) (Or.inl ⟨by rfl, ?_⟩) ?_ ?_
  rotate_left
  · intro w'
    go_simp
    with_reducible rfl
  rotate_left
  · simp only [Act.put, List.setIfInBounds_toArray, List.set_cons_zero, List.set_cons_succ, i64_w, i32_w]
    rfl
  refine pure_ (i := 6) (N := some 119) (v := ?_) (a' := ?_) #[true, true, true, false, true, true, true, false, false, false, false, false, false, false, false, false, false] rfl rfl (by kernel_rfl) (fun _ _ _ h => h) (Or.inl ⟨by rfl, ?_⟩) ?_ ?_
  rotate_left
  · intro w'
    go_simp
    with_reducible rfl
  rotate_left
  · simp only [Act.put, List.setIfInBounds_toArray, List.set_cons_zero, List.set_cons_succ, i64_w, i32_w]
    rfl
  refine pure_ (i := 9) (N := some 122) (v := ?_) (a' := ?_) #[true, true, true, false, true, true, true, false, false, true, false, false, false, false, false, false, false] rfl rfl (by kernel_rfl) (fun _ _ _ h => h) (Or.inl ⟨by rfl, ?_⟩) ?_ ?_
  rotate_left
  · intro w'
    go_simp
    with_reducible rfl
  rotate_left
  · simp only [Act.put, List.setIfInBounds_toArray, List.set_cons_zero, List.set_cons_succ, i64_w, i32_w]
    rfl
  refine pure_ (i := 12) (N := some 125) (v := ?_) (a' := ?_) #[true, true, true, false, true, true, true, false, false, true, false, false, true, false, false, false, false] rfl rfl (by kernel_rfl) (fun _ _ _ h => h) (Or.inl ⟨by rfl, ?_⟩) ?_ ?_
  rotate_left
  · intro w'
    go_simp
    with_reducible rfl
  rotate_left
  · simp only [Act.put, List.setIfInBounds_toArray, List.set_cons_zero, List.set_cons_succ, i64_w, i32_w]
    rfl
  refine pure_ (i := 13) (N := some 126) (v := ?_) (a' := ?_) #[true, true, true, false, true, true, true, false, false, true, false, false, true, true, false, false, false] rfl rfl (by kernel_rfl) (fun _ _ _ h => h) (Or.inl ⟨by rfl, ?_⟩) ?_ ?_
  rotate_left
  · intro w'
    go_simp
    with_reducible rfl
  rotate_left
  · simp only [Act.put, List.setIfInBounds_toArray, List.set_cons_zero, List.set_cons_succ, i64_w, i32_w]
    rfl
  refine pure_ (i := 14) (N := some 127) (v := ?_) (a' := ?_) #[true, true, true, false, true, true, true, false, false, true, false, false, true, true, true, false, false] rfl rfl (by kernel_rfl) (fun _ _ _ h => h) (Or.inl ⟨by rfl, ?_⟩) ?_ ?_
  rotate_left
  · intro w'
    go_simp
    with_reducible rfl
  rotate_left
  · simp only [Act.put, List.setIfInBounds_toArray, List.set_cons_zero, List.set_cons_succ, i64_w, i32_w]
    rfl
  refine take_ (i := 3) (N := some 116) (v := ?_) (a' := ?_) #[true, true, true, true, true, true, true, false, false, true, false, false, true, true, true, false, false] rfl rfl (by kernel_rfl) (fun _ _ _ h => h) (Or.inl ⟨by rfl, ?_⟩) hHeld ?_ ?_
  rotate_left
  · rintro w' ⟨s0, s1, s2⟩
    go_simp
    with_reducible rfl
  rotate_left
  · simp only [Act.put, List.setIfInBounds_toArray, List.set_cons_zero, List.set_cons_succ, i64_w, i32_w]
    rfl
  refine pure_ (i := 7) (N := some 120) (v := ?_) (a' := ?_) #[true, true, true, true, true, true, true, true, false, true, false, false, true, true, true, false, false] rfl rfl (by kernel_rfl) (fun _ _ _ h => h) (Or.inl ⟨by rfl, ?_⟩) ?_ ?_
  rotate_left
  · intro w'
    go_simp
    with_reducible rfl
  rotate_left
  · simp only [Act.put, List.setIfInBounds_toArray, List.set_cons_zero, List.set_cons_succ, i64_w, i32_w]
    rfl
  refine take_ (i := 8) (N := some 121) (v := ?_) (a' := ?_) #[true, true, true, true, true, true, true, true, true, true, false, false, true, true, true, false, false] rfl rfl (by kernel_rfl) (fun _ _ _ h => h) (Or.inl ⟨by rfl, ?_⟩) hHeld ?_ ?_
  rotate_left
  · rintro w' ⟨s0, s1, s2⟩
    go_simp
    with_reducible rfl
  rotate_left
  · simp only [Act.put, List.setIfInBounds_toArray, List.set_cons_zero, List.set_cons_succ, i64_w, i32_w]
    rfl
  refine take_ (i := 10) (N := some 123) (v := ?_) (a' := ?_) #[true, true, true, true, true, true, true, true, true, true, true, false, true, true, true, false, false] rfl rfl (by kernel_rfl) (fun _ _ _ h => h) (Or.inl ⟨by rfl, ?_⟩) hHeld ?_ ?_
  rotate_left
  · rintro w' ⟨s0, s1, s2⟩
    go_simp
    with_reducible rfl
  rotate_left
  · simp only [Act.put, List.setIfInBounds_toArray, List.set_cons_zero, List.set_cons_succ, i64_w, i32_w]
    rfl
  refine pure_ (i := 11) (N := some 124) (v := ?_) (a' := ?_) #[true, true, true, true, true, true, true, true, true, true, true, true, true, true, true, false, false] rfl rfl (by kernel_rfl) (fun _ _ _ h => h) (Or.inl ⟨by rfl, ?_⟩) ?_ ?_
  rotate_left
  · intro w'
    go_simp
    with_reducible rfl
  rotate_left
  · simp only [Act.put, List.setIfInBounds_toArray, List.set_cons_zero, List.set_cons_succ, i64_w, i32_w]
    rfl
  refine pure_ (i := 15) (N := some 128) (v := ?_) (a' := ?_) #[true, true, true, true, true, true, true, true, true, true, true, true, true, true, true, true, false] rfl rfl (by kernel_rfl) (fun _ _ _ h => h) (Or.inl ⟨by rfl, ?_⟩) ?_ ?_
  rotate_left
  · intro w'
    go_simp
    with_reducible rfl
  rotate_left
  · simp only [Act.put, List.setIfInBounds_toArray, List.set_cons_zero, List.set_cons_succ, i64_w, i32_w]
    rfl
  refine last_ (i := 16) (N := none) #[true, true, true, true, true, true, true, true, true, true, true, true, true, true, true, true, true] rfl rfl (by kernel_rfl) (by decide) (fun K hK => ?_)
  refine skip_ (w1 := ?_) (by rfl) rfl ?_ ?_
  rotate_left
  · go_simp
    rfl
  refine hK.out _ _ ?_
  clear hK K
  refine done_ (by kernel_rfl) ?_
  rw [← strOfNums_append]
  go_wp2
  go_ret
  have hkt := HKt.out
  have hp := HX4d.out.putC 1 ch (by decide) HCH.out (C 1 ch ++ X.held ch)
  have hkk := (HT4d.out.kk t (.inl (.inr rfl)))
  have za := (HT4d.out.put ⟨t, 24 + ch, none⟩ (.string (strOfNums (C 1 ch ++ X.held ch))) hkk.2.1 hkk.2.2).forget (K' := fun k => K k ∨ k = t) (fun k hk => .inl hk)
  have zb := ((Nx.mk HB0.out HKB.out : Nx b0 K w W).trans (HN4d.out.forget (fun k hk => .inl (.inl hk)))).put ⟨t, 24 + ch, none⟩ (.string (strOfNums (C 1 ch ++ X.held ch))) hkt.2 hkt.1
  have hp2 : Tx t S (upd2 C 1 ch (C 1 ch ++ X.held ch)) ((w4.drew).setCell ⟨t, 24 + ch, none⟩ (.string (strOfNums (C 1 ch ++ X.held ch)))) := by simpa using hp
  exact ⟨rfl, vs3, za, zb, hp2⟩
set_option maxHeartbeats 8000000 in
set_option maxRecDepth 100000 in
theorem do_out_false {b0 : Nat} {K : Nat → Prop} {p q p' q' g t : Nat} {vs vs' : Nat → Value} {X O : Mx} {S C : Nat → Nat → List Int} (ch : Int) (nv : Int) (Ab : Option Addr) (nb cb : Nat) (w : World) (hT : Two b0 (fun k => K k ∨ k = t) p q vs X p' q' vs' O w) (hg : w.heap[g]? = some (pairB p p')) (hKg : K g) (hKt : ¬ K t) (htb : b0 ≤ t) (hx : Tx t S C w) (hG : GT w) (hb0 : 0 < b0) (good : X.Good 20000000) (he : X.e = 0) (hby : Byt (X.outB nv)) (hlen : (X.outB nv).length ≤ 20000000) (hfo : O.Fit) (heo : O.e = 0) (hlo : O.L.length ≤ 20000000) (het : (O.took (X.outB nv)).e = 0) :
    Calls Tryd.prog 15 #[.pointer (some ⟨t, 0, none⟩), .slice (some ⟨g, 0, none⟩) 2 2, actV 1 false ch nv Ab nb cb] w fun e w' => e = .returned (.bool true) ∧ ∃ vs1 vs2, Two b0 (fun k => K k ∨ k = t) p q vs1 (X.outs nv) p' q' vs2 (O.took (X.outB nv)) w' ∧ Nx b0 K w w' ∧ Tx t S C w' := by
  obtain ⟨hT0, hb00⟩ := hT.boxed (actB 1 false ch nv Ab nb cb)
  have hbn := blk_new w (actB 1 false ch nv Ab nb cb)
  have hg0 := blk_below hg hb00
  have hx0 := hx.kept (hb00.block t hx.lt)
  have e0 := blk_cell hbn 0
  have e1 := blk_cell hbn 1
  have e2 := blk_cell hbn 2
  have e3 := blk_cell hbn 3
  have e4 := blk_cell hbn 4
  have HT0 := Aside0.mk hT0
  have HB0 := Aside0.mk (hb00.mono hT.bs)
  have HBN := Aside0.mk hbn
  have HG0 := Aside0.mk hg0
  have HX0 := Aside0.mk hx0
  have HSd := Aside0.mk (law_side g p p' false _ hg0)
  have HKg := Aside0.mk hKg
  have HKt := Aside0.mk (And.intro hKt htb)
  have HKB := Aside0.mk (fun k (hk : K k) => (hb00.block k (hT.kk k (.inl hk)).1))
  have HL := Aside0.mk (And.intro hb0 (And.intro good (And.intro he (And.intro hby (And.intro hlen (And.intro hfo (And.intro heo (And.intro hlo (And.intro het (hG.past hb00 (gt_pos hG)))))))))))
  have HGW := Aside0.mk hG
  clear hT hg hKg hKt htb hx hT0 hb0 hb00 hbn hg0 hx0 hG good he hby hlen hfo heo hlo het
  go_enter Tryd.func15, Tryd.ntmps15
  go_wp2_with fail
  refine HSd.out.mono ?_
  rintro e w1 ⟨rfl, hb1⟩
  generalize hW : w.alloc (actB 1 false ch nv Ab nb cb) = W at *
  clear hW
  have hN1 := (HT0.out.below hb1)
  have HT1 := Aside0.mk hN1.1
  have HN1 := Aside0.mk hN1.2
  have HBN1 := Aside0.mk (blk_below HBN.out hb1)
  have e0 := blk_cell HBN1.out 0
  have e1 := blk_cell HBN1.out 1
  have e2 := blk_cell HBN1.out 2
  have e3 := blk_cell HBN1.out 3
  have e4 := blk_cell HBN1.out 4
  clear hN1 hb1 HSd
  have HO := Aside0.mk (two_OutAny nv w1 HT1.out (HL.out.2.2.2.2.2.2.2.2.2.past HN1.out.below HL.out.1) HL.out.1 HL.out.2.1 HL.out.2.2.1)
  go_wp2_with fail
  refine HO.out.mono ?_
  rintro e w2 ⟨D, nd, cd, vs2, rfl, hnd, hC, hT2, hN2⟩
  have htk := two_Take D nd cd _ w2 hT2.swap (HL.out.2.2.2.2.2.2.2.2.2.past (HN1.out.trans hN2).below HL.out.1) HL.out.1 hC HL.out.2.2.2.1 HL.out.2.2.2.2.2.2.1 HL.out.2.2.2.2.2.1 (by have h1 := HL.out.2.2.2.2.1; have h2 := HL.out.2.2.2.2.2.2.2.1; omega)
  rw [HL.out.2.2.2.2.2.2.2.2.1] at htk
  have HTk := Aside0.mk htk
  have hle := Mx.outB_le X nv
  rw [hnd] at hle
  have j0 : decide ((nd : Int) > (if nv < 0 then (0 : Int) else nv)) = false := decide_eq_false (by omega)
  have j0' : decide ((if nv < 0 then (0 : Int) else nv) < (nd : Int)) = false := j0
  clear hC htk HO hnd hle
  have HT2 := Aside0.mk hT2
  have HBN2 := Aside0.mk ((hN2.kept w.heap.size (.inr rfl)).trans HBN1.out)
  have HN2 := Aside0.mk (HN1.out.trans hN2)
  clear hT2 hN2 e0 e1 e2 e3 e4
  have e0 := blk_cell HBN2.out 0
  have e1 := blk_cell HBN2.out 1
  have e2 := blk_cell HBN2.out 2
  have e3 := blk_cell HBN2.out 3
  have e4 := blk_cell HBN2.out 4
  obtain ⟨mx, hmx⟩ : ∃ mx, (if nv < 0 then (0 : Int) else nv) = mx := ⟨_, rfl⟩
  rw [hmx] at j0 j0'
  go_wp2_with fail
  refine HTk.out.mono ?_
  rintro e w3 ⟨rfl, vs3, hT3, hN3⟩
  have HT3 := Aside0.mk hT3.swap
  have HBN3 := Aside0.mk ((hN3.kept w.heap.size (.inr rfl)).trans HBN2.out)
  have HN3 := Aside0.mk (HN2.out.trans hN3)
  clear hT3 hN3 e0 e1 e2 e3 e4
  have e0 := blk_cell HBN3.out 0
  have e1 := blk_cell HBN3.out 1
  have e2 := blk_cell HBN3.out 2
  have e3 := blk_cell HBN3.out 3
  have e4 := blk_cell HBN3.out 4
  clear HTk
  have ZA := Aside0.mk (HT3.out.forget (K' := fun k => K k ∨ k = t) (fun k hk => .inl hk))
  have ZB := Aside0.mk ((Nx.mk HB0.out HKB.out : Nx b0 K w W).trans (HN3.out.forget (fun k hk => .inl (.inl hk))))
  have ZC := Aside0.mk (HX0.out.kept (HN3.out.kept t (.inl (.inr rfl))))
  go_wp2
  go_ret
  exact ⟨rfl, vs2, vs3, ZA.out, ZB.out, ZC.out⟩
set_option maxHeartbeats 8000000 in
set_option maxRecDepth 100000 in
theorem do_send_true {b0 : Nat} {K : Nat → Prop} {p q p' q' g t : Nat} {vs vs' : Nat → Value} {X O : Mx} {S C : Nat → Nat → List Int} (ch : Nat) (hch : ch < 8) (nv : Int) (Ab : Option Addr) (nb cb : Nat) (w : World) (hT : Two b0 (fun k => K k ∨ k = t) p q vs X p' q' vs' O w) (hg : w.heap[g]? = some (pairB p' p)) (hKg : K g) (hKt : ¬ K t) (htb : b0 ≤ t) (hx : Tx t S C w) (N : List Int) (hf : X.Fit) (hro :  (nb : Int) ≤ X.win - X.way ch) (he : X.e = 0) (hCC : ∀ w', Nx b0 K w w' → Kd.C (Kd.int .u8) w' Ab nb N) (hl : ∀ c, c < 8 → (X.sent c).length + nb ≤ 140737488355328) (hsz : (S 1 ch).length + nb ≤ 4611686018427387904) :
    Calls Tryd.prog 15 #[.pointer (some ⟨t, 0, none⟩), .slice (some ⟨g, 0, none⟩) 2 2, actV 0 true ch nv Ab nb cb] w fun e w' => e = .returned (.bool true) ∧ ∃ vs1, Two b0 (fun k => K k ∨ k = t) p q vs1 (X.send ch N) p' q' vs' O w' ∧ Nx b0 K w w' ∧ Tx t (upd2 S 1 ch (S 1 ch ++ N)) C w' := by
  have k2 : (0 ≤ (ch : Int)) = True := eq_true (by omega)
  have k3 : (ch < 8) = True := eq_true hch
  have k4 : ((ch : Int) < 8) = True := eq_true (by omega)
  have HCH := Aside0.mk hch
  obtain ⟨hT0, hb0⟩ := hT.boxed (actB 0 true ch nv Ab nb cb)
  have hbn := blk_new w (actB 0 true ch nv Ab nb cb)
  have hg0 := blk_below hg hb0
  have hx0 := hx.kept (hb0.block t hx.lt)
  have e0 := blk_cell hbn 0
  have e1 := blk_cell hbn 1
  have e2 := blk_cell hbn 2
  have e3 := blk_cell hbn 3
  have e4 := blk_cell hbn 4
  have HT0 := Aside0.mk hT0
  have HB0 := Aside0.mk (hb0.mono hT.bs)
  have HBN := Aside0.mk hbn
  have HG0 := Aside0.mk hg0
  have HX0 := Aside0.mk hx0
  have HSd := Aside0.mk (law_side g p' p true _ hg0)
  have HKg := Aside0.mk hKg
  have HKt := Aside0.mk (And.intro hKt htb)
  have HKB := Aside0.mk (fun k (hk : K k) => (hb0.block k (hT.kk k (.inl hk)).1))
  have HC := Aside0.mk hCC
  have HL := Aside0.mk (And.intro hl (And.intro hsz (hCC w (Nx.refl _ _ _)).1))
  have HE := Aside0.mk he
  have HFit := Aside0.mk hf
  have HRO0 := Aside0.mk hro
  clear hro hT hg hKg hKt htb hx hf hch hCC hl hsz he hT0 hb0 hbn hg0 hx0
  go_enter Tryd.func15, Tryd.ntmps15
  go_wp2_with fail
  refine HSd.out.mono ?_
  rintro e w1 ⟨rfl, hb1⟩
  generalize hW : w.alloc (actB 0 true ch nv Ab nb cb) = W at *
  clear hW
  have hN1 := (HT0.out.below hb1)
  have HT1 := Aside0.mk hN1.1
  have HN1 := Aside0.mk hN1.2
  have HBN1 := Aside0.mk (blk_below HBN.out hb1)
  have e0 := blk_cell HBN1.out 0
  have e1 := blk_cell HBN1.out 1
  have e2 := blk_cell HBN1.out 2
  have e3 := blk_cell HBN1.out 3
  have e4 := blk_cell HBN1.out 4
  clear hN1 hb1 HSd
  have HRm := Aside0.mk (two_Room ch HCH.out w1 HT1.out HFit.out)
  go_wp2_with fail
  refine HRm.out.mono ?_
  rintro e w2 ⟨rfl, hT2, hN2⟩
  have hs := two_Send (ch : Int) Ab nb cb N w2 hT2 HFit.out (HC.out w2 ((Nx.mk HB0.out HKB.out : Nx b0 K w W).trans ((HN1.out.trans hN2).forget (fun k hk => .inl (.inl hk))))) HL.out.1
  obtain ⟨room, hroom⟩ : ∃ room, X.win - X.way ch = room := ⟨_, rfl⟩
  have hro := HRO0.out
  rw [hroom] at hro ⊢
  have hsE : X.sendE ch nb = 0 := by
    unfold Mx.sendE
    have := HCH.out
    rw [if_neg (fun h => h HE.out), if_neg (by omega), Int.toNat_natCast, hroom, if_neg (by omega)]
  rw [hsE, if_pos rfl, Int.toNat_natCast] at hs
  have HSS := Aside0.mk hs
  have j1 : decide ((nb : Int) ≤ room) = true := decide_eq_true (by omega)
  clear hs hsE hro HRO0 hroom
  have HT2 := Aside0.mk hT2
  have HBN2 := Aside0.mk ((hN2.kept w.heap.size (.inr rfl)).trans HBN1.out)
  have HN2 := Aside0.mk (HN1.out.trans hN2)
  clear hT2 hN2 e0 e1 e2 e3 e4
  have e0 := blk_cell HBN2.out 0
  have e1 := blk_cell HBN2.out 1
  have e2 := blk_cell HBN2.out 2
  have e3 := blk_cell HBN2.out 3
  have e4 := blk_cell HBN2.out 4
  go_wp2_with fail
  refine HSS.out.mono ?_
  rintro e w3 ⟨rfl, vs3, hT3, hN3⟩
  have HT3 := Aside0.mk hT3
  have HBN3 := Aside0.mk ((hN3.kept w.heap.size (.inr rfl)).trans HBN2.out)
  have HN3 := Aside0.mk (HN2.out.trans hN3)
  clear hT3 hN3 e0 e1 e2 e3 e4
  have e0 := blk_cell HBN3.out 0
  have e1 := blk_cell HBN3.out 1
  have e2 := blk_cell HBN3.out 2
  have e3 := blk_cell HBN3.out 3
  have e4 := blk_cell HBN3.out 4
  clear HSS
  go_wp2
  have hdr := below_drew (Below.refl w3.heap.size w3)
  have HBN3d := Aside0.mk (blk_below HBN3.out hdr)
  have HT3d := Aside0.mk (HT3.out.below hdr).1
  have HN3d := Aside0.mk (HN3.out.trans (HT3.out.below hdr).2)
  have HX3d := Aside0.mk (HX0.out.kept (HN3d.out.kept t (.inl (.inr rfl))))
  have HC3d := Aside0.mk (HC.out w3.drew ((Nx.mk HB0.out HKB.out : Nx b0 K w W).trans (HN3d.out.forget (fun k hk => .inl (.inl hk)))))
  have hat := HX3d.out.at_ 1 ch (by decide) HCH.out
  have HTC3 : Aside0 (w3.drew.cell? ⟨t, 8 + ch, none⟩ = some (.string (strOfNums (S 1 ch)))) := ⟨by have h0 := hat.1; simpa using h0⟩
  have hfz : w3.drew.frozen? ⟨t, 8 + ch, none⟩ = false := by have h0 := hat.2.2.1; simpa using h0
  have hadd : ∀ w' : World, (Op.stringOp .add (strOfNums (S 1 ch)) (strOfNums N)).run Tryd.prog w' = .ok (.string (strOfNums (S 1 ch) ++ strOfNums N)) w' := fun w' => run_string_add_sum w' _ _ (by rw [strOfNums_size, strOfNums_size, HL.out.2.2]; have := HL.out.2.1; omega)
  clear hat hdr e0 e1 e2 e3 e4
  refine start_ (n := 18) (S := fun w' => w'.cell? ⟨w.heap.size, 2, none⟩ = some (.int .i64 ch) ∧ w'.cell? ⟨w.heap.size, 4, none⟩ = some (.slice Ab nb cb) ∧ w'.cell? ⟨t, 8 + ch, none⟩ = some (.string (strOfNums (S 1 ch))) ∧ (convert 32 9 (.slice Ab nb cb)).run Tryd.prog w' = .ok (.string (strOfNums N)) w') (ds := [17]) #[false, false, false, false, false, false, false, false, false, false, false, false, false, false, false, false, false, false] (by kernel_rfl) rfl rfl ⟨(blk_cell HBN3d.out 2), (blk_cell HBN3d.out 4), HTC3.out, (conv_C cb HC3d.out)⟩ (fun hHeld => ?_)
  refine pure_ (i := 0) (N := some 57) (v := ?_) (a' := ?_) #[true, false, false, false, false, false, false, false, false, false, false, false, false, false, false, false, false, false] rfl rfl (by kernel_rfl) (fun _ _ _ h => h) (Or.inl ⟨by rfl, ?_⟩) ?_ ?_
  rotate_left
  · intro w'
    go_simp
    with_reducible rfl
  rotate_left
  · simp only [Act.put, List.setIfInBounds_toArray, List.set_cons_zero, List.set_cons_succ, i64_w, i32_w]
    rfl
  refine pure_ (i := 1) (N := some 58) (v := ?_) (a' := ?_) #[true, true, false, false, false, false, false, false, false, false, false, false, false, false, false, false, false, false] rfl rfl (by kernel_rfl) (fun _ _ _ h => h) (Or.inl ⟨by rfl, ?_⟩) ?_ ?_
  rotate_left
  · intro w'
    go_simp
    with_reducible rfl
  rotate_left
  · simp only [Act.put, List.setIfInBounds_toArray, List.set_cons_zero, List.set_cons_succ, i64_w, i32_w]
    rfl
  refine pure_ (i := 2) (N := some 59) (v := ?_) (a' := ?_) #[true, true, true, false, false, false, false, false, false, false, false, false, false, false, false, false, false, false] rfl rfl (by kernel_rfl) (fun _ _ _ h => h) (Or.inl ⟨by rfl, ?_⟩) ?_ ?_
  rotate_left
  · intro w'
    go_simp
    with_reducible rfl
  rotate_left
  · simp only [Act.put, List.setIfInBounds_toArray, List.set_cons_zero, List.set_cons_succ, i64_w, i32_w]
    rfl
  refine pure_ (i := 4) (N := some 61) (v := ?_) (a' := ?_) #[true, true, true, false, true, false, false, false, false, false, false, false, false, false, false, false, false, false] rfl rfl (by kernel_rfl) (fun _ _ _ h => h) (Or.inl ⟨by rfl, ?_⟩) ?_ ?_
  rotate_left
  · intro w'
    go_simp
    with_reducible rfl
  rotate_left
  · simp only [Act.put, List.setIfInBounds_toArray, List.set_cons_zero, List.set_cons_succ, i64_w, i32_w]
    rfl
  refine pure_ (i := 5) (N := some 62) (v := ?_) (a' := ?_) #[true, true, true, false, true, true, false, false, false, false, false, false, false, false, false, false, false, false] rfl rfl (by kernel_rfl) (fun _ _ _ h => h) (Or.inl ⟨by rfl, ?_⟩) ?_ ?_
  rotate_left
  · intro w'
    go_simp
    with_reducible rfl
  rotate_left
  · simp only [Act.put, List.setIfInBounds_toArray, List.set_cons_zero, List.set_cons_succ, i64_w, i32_w]
    rfl
  refine pure_ (i := 6) (N := some 63) (v := ?_) (a' := ?_) #[true, true, true, false, true, true, true, false, false, false, false, false, false, false, false, false, false, false] rfl rfl (by kernel_rfl) (fun _ _ _ h => h) (Or.inl ⟨by rfl, ?_⟩) ?_ ?_
  rotate_left
  · intro w'
    go_simp
    with_reducible rfl
  rotate_left
  · simp only [Act.put, List.setIfInBounds_toArray, List.set_cons_zero, List.set_cons_succ, i64_w, i32_w]
    rfl
  refine pure_ (i := 9) (N := some 66) (v := ?_) (a' := ?_) #[true, true, true, false, true, true, true, false, false, true, false, false, false, false, false, false, false, false] rfl rfl (by kernel_rfl) (fun _ _ _ h => h) (Or.inl ⟨by rfl, ?_⟩) ?_ ?_
  rotate_left
  · intro w'
    go_simp
    with_reducible rfl
  rotate_left
  · simp only [Act.put, List.setIfInBounds_toArray, List.set_cons_zero, List.set_cons_succ, i64_w, i32_w]
    rfl
  refine pure_ (i := 13) (N := some 70) (v := ?_) (a' := ?_) #[true, true, true, false, true, true, true, false, false, true, false, false, false, true, false, false, false, false] rfl rfl (by kernel_rfl) (fun _ _ _ h => h) (Or.inl ⟨by rfl, ?_⟩) ?_ ?_
  rotate_left
  · intro w'
    go_simp
    with_reducible rfl
  rotate_left
  · simp only [Act.put, List.setIfInBounds_toArray, List.set_cons_zero, List.set_cons_succ, i64_w, i32_w]
    rfl
  refine pure_ (i := 14) (N := some 71) (v := ?_) (a' := ?_) #[true, true, true, false, true, true, true, false, false, true, false, false, false, true, true, false, false, false] rfl rfl (by kernel_rfl) (fun _ _ _ h => h) (Or.inl ⟨by rfl, ?_⟩) ?_ ?_
  rotate_left
  · intro w'
    go_simp
    with_reducible rfl
  rotate_left
  · simp only [Act.put, List.setIfInBounds_toArray, List.set_cons_zero, List.set_cons_succ, i64_w, i32_w]
    rfl
  refine pure_ (i := 15) (N := some 72) (v := ?_) (a' := ?_) #[true, true, true, false, true, true, true, false, false, true, false, false, false, true, true, true, false, false] rfl rfl (by kernel_rfl) (fun _ _ _ h => h) (Or.inl ⟨by rfl, ?_⟩) ?_ ?_
  rotate_left
  · intro w'
    go_simp
    with_reducible rfl
  rotate_left
  · simp only [Act.put, List.setIfInBounds_toArray, List.set_cons_zero, List.set_cons_succ, i64_w, i32_w]
    rfl
  refine take_ (i := 3) (N := some 60) (v := ?_) (a' := ?_) #[true, true, true, true, true, true, true, false, false, true, false, false, false, true, true, true, false, false] rfl rfl (by kernel_rfl) (fun _ _ _ h => h) (Or.inl ⟨by rfl, ?_⟩) hHeld ?_ ?_
  rotate_left
  · rintro w' ⟨s0, s1, s2, s3⟩
    go_simp
    with_reducible rfl
  rotate_left
  · simp only [Act.put, List.setIfInBounds_toArray, List.set_cons_zero, List.set_cons_succ, i64_w, i32_w]
    rfl
  refine pure_ (i := 7) (N := some 64) (v := ?_) (a' := ?_) #[true, true, true, true, true, true, true, true, false, true, false, false, false, true, true, true, false, false] rfl rfl (by kernel_rfl) (fun _ _ _ h => h) (Or.inl ⟨by rfl, ?_⟩) ?_ ?_
  rotate_left
  · intro w'
    go_simp
    with_reducible rfl
  rotate_left
  · simp only [Act.put, List.setIfInBounds_toArray, List.set_cons_zero, List.set_cons_succ, i64_w, i32_w]
    rfl
  refine take_ (i := 8) (N := some 65) (v := ?_) (a' := ?_) #[true, true, true, true, true, true, true, true, true, true, false, false, false, true, true, true, false, false] rfl rfl (by kernel_rfl) (fun _ _ _ h => h) (Or.inl ⟨by rfl, ?_⟩) hHeld ?_ ?_
  rotate_left
  · rintro w' ⟨s0, s1, s2, s3⟩
    go_simp
    with_reducible rfl
  rotate_left
  · simp only [Act.put, List.setIfInBounds_toArray, List.set_cons_zero, List.set_cons_succ, i64_w, i32_w]
    rfl
  refine take_ (i := 10) (N := some 67) (v := ?_) (a' := ?_) #[true, true, true, true, true, true, true, true, true, true, true, false, false, true, true, true, false, false] rfl rfl (by kernel_rfl) (fun _ _ _ h => h) (Or.inl ⟨by rfl, ?_⟩) hHeld ?_ ?_
  rotate_left
  · rintro w' ⟨s0, s1, s2, s3⟩
    go_simp
    with_reducible rfl
  rotate_left
  · simp only [Act.put, List.setIfInBounds_toArray, List.set_cons_zero, List.set_cons_succ, i64_w, i32_w]
    rfl
  refine take_ (i := 11) (N := some 68) (v := ?_) (a' := ?_) #[true, true, true, true, true, true, true, true, true, true, true, true, false, true, true, true, false, false] rfl rfl (by kernel_rfl) (fun _ _ _ h => h) (Or.inl ⟨by rfl, ?_⟩) hHeld ?_ ?_
  rotate_left
  · rintro w' ⟨s0, s1, s2, s3⟩
    go_simp
    with_reducible rfl
  rotate_left
  · simp only [Act.put, List.setIfInBounds_toArray, List.set_cons_zero, List.set_cons_succ, i64_w, i32_w]
    rfl
  refine pure_ (i := 12) (N := some 69) (v := ?_) (a' := ?_) #[true, true, true, true, true, true, true, true, true, true, true, true, true, true, true, true, false, false] rfl rfl (by kernel_rfl) (fun _ _ _ h => h) (Or.inl ⟨by rfl, ?_⟩) ?_ ?_
  rotate_left
  · intro w'
    go_simp
    with_reducible rfl
  rotate_left
  · simp only [Act.put, List.setIfInBounds_toArray, List.set_cons_zero, List.set_cons_succ, i64_w, i32_w]
    rfl
  refine pure_ (i := 16) (N := some 73) (v := ?_) (a' := ?_) #[true, true, true, true, true, true, true, true, true, true, true, true, true, true, true, true, true, false] rfl rfl (by kernel_rfl) (fun _ _ _ h => h) (Or.inl ⟨by rfl, ?_⟩) ?_ ?_
  rotate_left
  · intro w'
    go_simp
    with_reducible rfl
  rotate_left
  · simp only [Act.put, List.setIfInBounds_toArray, List.set_cons_zero, List.set_cons_succ, i64_w, i32_w]
    rfl
  refine last_ (i := 17) (N := none) #[true, true, true, true, true, true, true, true, true, true, true, true, true, true, true, true, true, true] rfl rfl (by kernel_rfl) (by decide) (fun K hK => ?_)
  refine skip_ (w1 := ?_) (by rfl) rfl ?_ ?_
  rotate_left
  · go_simp
    rfl
  refine hK.out _ _ ?_
  clear hK K
  refine done_ (by kernel_rfl) ?_
  rw [← strOfNums_append]
  go_wp2
  go_ret
  have hkt := HKt.out
  have hp := HX3d.out.putS 1 ch (by decide) HCH.out (S 1 ch ++ N)
  have hkk := (HT3d.out.kk t (.inl (.inr rfl)))
  have za := (HT3d.out.put ⟨t, 8 + ch, none⟩ (.string (strOfNums (S 1 ch ++ N))) hkk.2.1 hkk.2.2).forget (K' := fun k => K k ∨ k = t) (fun k hk => .inl hk)
  have zb := ((Nx.mk HB0.out HKB.out : Nx b0 K w W).trans (HN3d.out.forget (fun k hk => .inl (.inl hk)))).put ⟨t, 8 + ch, none⟩ (.string (strOfNums (S 1 ch ++ N))) hkt.2 hkt.1
  try simp only [Nat.zero_mul, Nat.one_mul, Nat.zero_add] at hp
  first | exact ⟨rfl, vs3, za, zb, hp⟩ | exact ⟨rfl, ⟨vs3, za⟩, zb, hp⟩
set_option maxHeartbeats 8000000 in
set_option maxRecDepth 100000 in
theorem do_full_true {b0 : Nat} {K : Nat → Prop} {p q p' q' g t : Nat} {vs vs' : Nat → Value} {X O : Mx} {S C : Nat → Nat → List Int} (ch : Nat) (hch : ch < 8) (nv : Int) (Ab : Option Addr) (nb cb : Nat) (w : World) (hT : Two b0 (fun k => K k ∨ k = t) p q vs X p' q' vs' O w) (hg : w.heap[g]? = some (pairB p' p)) (hKg : K g) (hKt : ¬ K t) (htb : b0 ≤ t) (hx : Tx t S C w) (N : List Int) (hf : X.Fit) (hro : ¬ (nb : Int) ≤ X.win - X.way ch) (he : X.e = 0) (hCC : ∀ w', Nx b0 K w w' → Kd.C (Kd.int .u8) w' Ab nb N) (hl : ∀ c, c < 8 → (X.sent c).length + nb ≤ 140737488355328) (hsz : (S 1 ch).length + nb ≤ 4611686018427387904) :
    Calls Tryd.prog 15 #[.pointer (some ⟨t, 0, none⟩), .slice (some ⟨g, 0, none⟩) 2 2, actV 0 true ch nv Ab nb cb] w fun e w' => e = .returned (.bool true) ∧ ∃ vs1, Two b0 (fun k => K k ∨ k = t) p q vs1 X p' q' vs' O w' ∧ Nx b0 K w w' ∧ Tx t S C w' := by
  have k2 : (0 ≤ (ch : Int)) = True := eq_true (by omega)
  have k3 : (ch < 8) = True := eq_true hch
  have k4 : ((ch : Int) < 8) = True := eq_true (by omega)
  have HCH := Aside0.mk hch
  obtain ⟨hT0, hb0⟩ := hT.boxed (actB 0 true ch nv Ab nb cb)
  have hbn := blk_new w (actB 0 true ch nv Ab nb cb)
  have hg0 := blk_below hg hb0
  have hx0 := hx.kept (hb0.block t hx.lt)
  have e0 := blk_cell hbn 0
  have e1 := blk_cell hbn 1
  have e2 := blk_cell hbn 2
  have e3 := blk_cell hbn 3
  have e4 := blk_cell hbn 4
  have HT0 := Aside0.mk hT0
  have HB0 := Aside0.mk (hb0.mono hT.bs)
  have HBN := Aside0.mk hbn
  have HG0 := Aside0.mk hg0
  have HX0 := Aside0.mk hx0
  have HSd := Aside0.mk (law_side g p' p true _ hg0)
  have HKg := Aside0.mk hKg
  have HKt := Aside0.mk (And.intro hKt htb)
  have HKB := Aside0.mk (fun k (hk : K k) => (hb0.block k (hT.kk k (.inl hk)).1))
  have HC := Aside0.mk hCC
  have HL := Aside0.mk (And.intro hl (And.intro hsz (hCC w (Nx.refl _ _ _)).1))
  have HE := Aside0.mk he
  have HFit := Aside0.mk hf
  have HRO0 := Aside0.mk hro
  clear hro hT hg hKg hKt htb hx hf hch hCC hl hsz he hT0 hb0 hbn hg0 hx0
  go_enter Tryd.func15, Tryd.ntmps15
  go_wp2_with fail
  refine HSd.out.mono ?_
  rintro e w1 ⟨rfl, hb1⟩
  generalize hW : w.alloc (actB 0 true ch nv Ab nb cb) = W at *
  clear hW
  have hN1 := (HT0.out.below hb1)
  have HT1 := Aside0.mk hN1.1
  have HN1 := Aside0.mk hN1.2
  have HBN1 := Aside0.mk (blk_below HBN.out hb1)
  have e0 := blk_cell HBN1.out 0
  have e1 := blk_cell HBN1.out 1
  have e2 := blk_cell HBN1.out 2
  have e3 := blk_cell HBN1.out 3
  have e4 := blk_cell HBN1.out 4
  clear hN1 hb1 HSd
  have HRm := Aside0.mk (two_Room ch HCH.out w1 HT1.out HFit.out)
  go_wp2_with fail
  refine HRm.out.mono ?_
  rintro e w2 ⟨rfl, hT2, hN2⟩
  have hs := two_Send (ch : Int) Ab nb cb N w2 hT2 HFit.out (HC.out w2 ((Nx.mk HB0.out HKB.out : Nx b0 K w W).trans ((HN1.out.trans hN2).forget (fun k hk => .inl (.inl hk))))) HL.out.1
  obtain ⟨room, hroom⟩ : ∃ room, X.win - X.way ch = room := ⟨_, rfl⟩
  have hro := HRO0.out
  rw [hroom] at hro ⊢
  have hsE : X.sendE ch nb = 8 := by
    unfold Mx.sendE
    have := HCH.out
    rw [if_neg (fun h => h HE.out), if_neg (by omega), Int.toNat_natCast, hroom, if_pos (by omega)]
  rw [hsE, if_neg (by decide)] at hs
  have HSS := Aside0.mk hs
  have j1 : decide ((nb : Int) ≤ room) = false := decide_eq_false (by omega)
  clear hs hsE hro HRO0 hroom
  have HT2 := Aside0.mk hT2
  have HBN2 := Aside0.mk ((hN2.kept w.heap.size (.inr rfl)).trans HBN1.out)
  have HN2 := Aside0.mk (HN1.out.trans hN2)
  clear hT2 hN2 e0 e1 e2 e3 e4
  have e0 := blk_cell HBN2.out 0
  have e1 := blk_cell HBN2.out 1
  have e2 := blk_cell HBN2.out 2
  have e3 := blk_cell HBN2.out 3
  have e4 := blk_cell HBN2.out 4
  go_wp2_with fail
  refine HSS.out.mono ?_
  rintro e w3 ⟨rfl, vs3, hT3, hN3⟩
  have HT3 := Aside0.mk hT3
  have HBN3 := Aside0.mk ((hN3.kept w.heap.size (.inr rfl)).trans HBN2.out)
  have HN3 := Aside0.mk (HN2.out.trans hN3)
  clear hT3 hN3 e0 e1 e2 e3 e4
  have e0 := blk_cell HBN3.out 0
  have e1 := blk_cell HBN3.out 1
  have e2 := blk_cell HBN3.out 2
  have e3 := blk_cell HBN3.out 3
  have e4 := blk_cell HBN3.out 4
  clear HSS
  have ZA := Aside0.mk (HT3.out.forget (K' := fun k => K k ∨ k = t) (fun k hk => .inl hk))
  have ZB := Aside0.mk ((Nx.mk HB0.out HKB.out : Nx b0 K w W).trans (HN3.out.forget (fun k hk => .inl (.inl hk))))
  have ZC := Aside0.mk (HX0.out.kept (HN3.out.kept t (.inl (.inr rfl))))
  go_wp2
  all_goals go_ret
  all_goals first | exact ⟨rfl, vs3, ZA.out, ZB.out, ZC.out⟩ | exact ⟨rfl, ⟨vs3, ZA.out⟩, ZB.out, ZC.out⟩
set_option maxHeartbeats 8000000 in
set_option maxRecDepth 100000 in
theorem do_recv_true {b0 : Nat} {K : Nat → Prop} {p q p' q' g t : Nat} {vs vs' : Nat → Value} {X O : Mx} {S C : Nat → Nat → List Int} (ch : Nat) (hch : ch < 8) (nv : Int) (Ab : Option Addr) (nb cb : Nat) (w : World) (hT : Two b0 (fun k => K k ∨ k = t) p q vs X p' q' vs' O w) (hg : w.heap[g]? = some (pairB p' p)) (hKg : K g) (hKt : ¬ K t) (htb : b0 ≤ t) (hx : Tx t S C w) (hsz : (C 0 ch).length + (X.held ch).length ≤ 4611686018427387904) :
    Calls Tryd.prog 15 #[.pointer (some ⟨t, 0, none⟩), .slice (some ⟨g, 0, none⟩) 2 2, actV 2 true ch nv Ab nb cb] w fun e w' => e = .returned (.bool true) ∧ ∃ vs1, Two b0 (fun k => K k ∨ k = t) p q vs1 (X.recv ch) p' q' vs' O w' ∧ Nx b0 K w w' ∧ Tx t S (upd2 C 0 ch (C 0 ch ++ X.held ch)) w' := by
  have k2 : (0 ≤ (ch : Int)) = True := eq_true (by omega)
  have k3 : (ch < 8) = True := eq_true hch
  have k4 : ((ch : Int) < 8) = True := eq_true (by omega)
  have HCH := Aside0.mk hch
  obtain ⟨hT0, hb0⟩ := hT.boxed (actB 2 true ch nv Ab nb cb)
  have hbn := blk_new w (actB 2 true ch nv Ab nb cb)
  have hg0 := blk_below hg hb0
  have hx0 := hx.kept (hb0.block t hx.lt)
  have e0 := blk_cell hbn 0
  have e1 := blk_cell hbn 1
  have e2 := blk_cell hbn 2
  have e3 := blk_cell hbn 3
  have e4 := blk_cell hbn 4
  have HT0 := Aside0.mk hT0
  have HB0 := Aside0.mk (hb0.mono hT.bs)
  have HBN := Aside0.mk hbn
  have HG0 := Aside0.mk hg0
  have HX0 := Aside0.mk hx0
  have HSd := Aside0.mk (law_side g p' p true _ hg0)
  have HKg := Aside0.mk hKg
  have HKt := Aside0.mk (And.intro hKt htb)
  have HKB := Aside0.mk (fun k (hk : K k) => (hb0.block k (hT.kk k (.inl hk)).1))
  have HL := Aside0.mk hsz
  clear hT hg hKg hKt htb hx hch hsz hT0 hb0 hbn hg0 hx0
  go_enter Tryd.func15, Tryd.ntmps15
  go_wp2_with fail
  refine HSd.out.mono ?_
  rintro e w1 ⟨rfl, hb1⟩
  generalize hW : w.alloc (actB 2 true ch nv Ab nb cb) = W at *
  clear hW
  have hN1 := (HT0.out.below hb1)
  have HT1 := Aside0.mk hN1.1
  have HN1 := Aside0.mk hN1.2
  have HBN1 := Aside0.mk (blk_below HBN.out hb1)
  have e0 := blk_cell HBN1.out 0
  have e1 := blk_cell HBN1.out 1
  have e2 := blk_cell HBN1.out 2
  have e3 := blk_cell HBN1.out 3
  have e4 := blk_cell HBN1.out 4
  clear hN1 hb1 HSd
  have HRm := Aside0.mk (two_Held ch HCH.out w1 HT1.out)
  go_wp2_with fail
  refine HRm.out.mono ?_
  rintro e w2 ⟨rfl, hT2, hN2⟩
  have HRv := Aside0.mk (two_Recv ch HCH.out w2 hT2)
  have HT2 := Aside0.mk hT2
  have HBN2 := Aside0.mk ((hN2.kept w.heap.size (.inr rfl)).trans HBN1.out)
  have HN2 := Aside0.mk (HN1.out.trans hN2)
  clear hT2 hN2 e0 e1 e2 e3 e4
  have e0 := blk_cell HBN2.out 0
  have e1 := blk_cell HBN2.out 1
  have e2 := blk_cell HBN2.out 2
  have e3 := blk_cell HBN2.out 3
  have e4 := blk_cell HBN2.out 4
  clear HRm
  go_wp2_with fail
  refine HRv.out.mono ?_
  rintro e w3 ⟨v, vs3, rfl, hTb, hT3, hN3⟩
  obtain ⟨Ar, cr, rfl, hCr⟩ := conv_Tb hTb
  obtain ⟨nr, hnr⟩ : ∃ nr, (X.held ch).length = nr := ⟨_, rfl⟩
  have HTB := Aside0.mk hTb
  rw [hnr] at hCr ⊢
  have HHd := Aside0.mk (two_Held2 ch HCH.out w3 hT3 0 (by show ((upd X.held ch [] ch).length : Int) = 0; unfold upd; rw [if_pos rfl]; rfl))
  have HNR := Aside0.mk hnr
  have HCr := Aside0.mk hCr
  clear hTb hCr hnr HRv
  have HT3 := Aside0.mk hT3
  have HBN3 := Aside0.mk ((hN3.kept w.heap.size (.inr rfl)).trans HBN2.out)
  have HN3 := Aside0.mk (HN2.out.trans hN3)
  clear hT3 hN3 e0 e1 e2 e3 e4
  have e0 := blk_cell HBN3.out 0
  have e1 := blk_cell HBN3.out 1
  have e2 := blk_cell HBN3.out 2
  have e3 := blk_cell HBN3.out 3
  have e4 := blk_cell HBN3.out 4
  go_wp2_with fail
  refine HHd.out.mono ?_
  rintro e w4 ⟨rfl, hT4, hN4, hb4⟩
  have hdr := below_drew (Below.refl w4.heap.size w4)
  have HC4d : Aside0 (Kd.C (Kd.int .u8) w4.drew Ar nr (X.held ch)) := ⟨by
    have h1 := HCr.out
    rw [← HNR.out] at h1
    have h2 := Kd.C_below (Kd.C_below h1 hb4) hdr
    rw [HNR.out] at h2
    exact h2⟩
  have HNr := Aside0.mk hdr
  have HT4 := Aside0.mk hT4
  have HBN4 := Aside0.mk ((hN4.kept w.heap.size (.inr rfl)).trans HBN3.out)
  have HN4 := Aside0.mk (HN3.out.trans hN4)
  clear hT4 hN4 e0 e1 e2 e3 e4
  have e0 := blk_cell HBN4.out 0
  have e1 := blk_cell HBN4.out 1
  have e2 := blk_cell HBN4.out 2
  have e3 := blk_cell HBN4.out 3
  have e4 := blk_cell HBN4.out 4
  clear HHd hb4 hdr
  go_wp2
  have hdr := below_drew (Below.refl w4.heap.size w4)
  have HBN4d := Aside0.mk (blk_below HBN4.out hdr)
  have HT4d := Aside0.mk (HT4.out.below hdr).1
  have HN4d := Aside0.mk (HN4.out.trans (HT4.out.below hdr).2)
  have HX4d := Aside0.mk (HX0.out.kept (HN4d.out.kept t (.inl (.inr rfl))))
  have hat := HX4d.out.at_ 0 ch (by decide) HCH.out
  have HTC4 : Aside0 (w4.drew.cell? ⟨t, 16 + ch, none⟩ = some (.string (strOfNums (C 0 ch)))) := ⟨by have h0 := hat.2.1; simpa using h0⟩
  have hfz : w4.drew.frozen? ⟨t, 16 + ch, none⟩ = false := by have h0 := hat.2.2.2; simpa using h0
  have hadd : ∀ w' : World, (Op.stringOp .add (strOfNums (C 0 ch)) (strOfNums (X.held ch))).run Tryd.prog w' = .ok (.string (strOfNums (C 0 ch) ++ strOfNums (X.held ch))) w' := fun w' => run_string_add_sum w' _ _ (by rw [strOfNums_size, strOfNums_size]; have := HL.out; omega)
  clear hat hdr e0 e1 e2 e3 e4
  refine start_ (n := 17) (S := fun w' => w'.cell? ⟨w.heap.size, 2, none⟩ = some (.int .i64 ch) ∧ w'.cell? ⟨t, 16 + ch, none⟩ = some (.string (strOfNums (C 0 ch))) ∧ (convert 32 9 (.slice Ar nr cr)).run Tryd.prog w' = .ok (.string (strOfNums (X.held ch))) w') (ds := [16]) #[false, false, false, false, false, false, false, false, false, false, false, false, false, false, false, false, false] (by kernel_rfl) rfl rfl ⟨(blk_cell HBN4d.out 2), HTC4.out, (conv_C cr HC4d.out)⟩ (fun hHeld => ?_)
  refine pure_ (i := 0) (N := some 113) (v := ?_) (a' := ?_) #[true, false, false, false, false, false, false, false, false, false, false, false, false, false, false, false, false] rfl rfl (by kernel_rfl) (fun _ _ _ h => h) (Or.inl ⟨by rfl, ?_⟩) ?_ ?_
  rotate_left
  · intro w'
    go_simp
    with_reducible rfl
  rotate_left
  · simp only [Act.put, List.setIfInBounds_toArray, List.set_cons_zero, List.set_cons_succ, i64_w, i32_w]
    rfl
  refine pure_ (i := 1) (N := some 114) (v := ?_) (a' := ?_) #[true, true, false, false, false, false, false, false, false, false, false, false, false, false, false, false, false] rfl rfl (by kernel_rfl) (fun _ _ _ h => h) (Or.inl ⟨by rfl, ?_⟩) ?_ ?_
  rotate_left
  · intro w'
    go_simp
    with_reducible rfl
  rotate_left
  · simp only [Act.put, List.setIfInBounds_toArray, List.set_cons_zero, List.set_cons_succ, i64_w, i32_w]
    rfl
  refine pure_ (i := 2) (N := some 115) (v := ?_) (a' := ?_) #[true, true, true, false, false, false, false, false, false, false, false, false, false, false, false, false, false] rfl rfl (by kernel_rfl) (fun _ _ _ h => h) (Or.inl ⟨by rfl, ?_⟩) ?_ ?_
  rotate_left
  · intro w'
    go_simp
    with_reducible rfl
  rotate_left
  · simp only [Act.put, List.setIfInBounds_toArray, List.set_cons_zero, List.set_cons_succ, i64_w, i32_w]
    rfl
  refine pure_ (i := 4) (N := some 117) (v := ?_) (a' := ?_) #[true, true, true, false, true, false, false, false, false, false, false, false, false, false, false, false, false] rfl rfl (by kernel_rfl) (fun _ _ _ h => h) (Or.inl ⟨by rfl, ?_⟩) ?_ ?_
  rotate_left
  · intro w'
    go_simp
    with_reducible rfl
  rotate_left
  · simp only [Act.put, List.setIfInBounds_toArray, List.set_cons_zero, List.set_cons_succ, i64_w, i32_w]
    rfl
  refine pure_ (i := 5) (N := some 118) (v := ?_) (a' := ?_) #[true, true, true, false, true, true, false, false, false, false, false, false, false, false, false, false, false] rfl rfl (by kernel_rfl) (fun _ _ _ h => h) (Or.inl ⟨by rfl, ?_⟩) ?_ ?_
  rotate_left
  · intro w'
    go_simp
    with_reducible rfl
  rotate_left
  · simp only [Act.put, List.setIfInBounds_toArray, List.set_cons_zero, List.set_cons_succ, i64_w, i32_w]
    rfl
  refine pure_ (i := 6) (N := some 119) (v := ?_) (a' := ?_) #[true, true, true, false, true, true, true, false, false, false, false, false, false, false, false, false, false] rfl rfl (by kernel_rfl) (fun _ _ _ h => h) (Or.inl ⟨by rfl, ?_⟩) ?_ ?_
  rotate_left
  · intro w'
    go_simp
    with_reducible rfl
  rotate_left
  · simp only [Act.put, List.setIfInBounds_toArray, List.set_cons_zero, List.set_cons_succ, i64_w, i32_w]
    rfl
  refine pure_ (i := 9) (N := some 122) (v := ?_) (a' := ?_) #[true, true, true, false, true, true, true, false, false, true, false, false, false, false, false, false, false] rfl rfl (by kernel_rfl) (fun _ _ _ h => h) (Or.inl ⟨by rfl, ?_⟩) ?_ ?_
  rotate_left
  · intro w'
    go_simp
    with_reducible rfl
  rotate_left
  · simp only [Act.put, List.setIfInBounds_toArray, List.set_cons_zero, List.set_cons_succ, i64_w, i32_w]
    rfl
  refine pure_ (i := 12) (N := some 125) (v := ?_) (a' := ?_) #[true, true, true, false, true, true, true, false, false, true, false, false, true, false, false, false, false] rfl rfl (by kernel_rfl) (fun _ _ _ h => h) (Or.inl ⟨by rfl, ?_⟩) ?_ ?_
  rotate_left
  · intro w'
    go_simp
    with_reducible rfl
  rotate_left
  · simp only [Act.put, List.setIfInBounds_toArray, List.set_cons_zero, List.set_cons_succ, i64_w, i32_w]
    rfl
  refine pure_ (i := 13) (N := some 126) (v := ?_) (a' := ?_) #[true, true, true, false, true, true, true, false, false, true, false, false, true, true, false, false, false] rfl rfl (by kernel_rfl) (fun _ _ _ h => h) (Or.inl ⟨by rfl, ?_⟩) ?_ ?_
  rotate_left
  · intro w'
    go_simp
    with_reducible rfl
  rotate_left
  · simp only [Act.put, List.setIfInBounds_toArray, List.set_cons_zero, List.set_cons_succ, i64_w, i32_w]
    rfl
  refine pure_ (i := 14) (N := some 127) (v := ?_) (a' := ?_) #[true, true, true, false, true, true, true, false, false, true, false, false, true, true, true, false, false] rfl rfl (by kernel_rfl) (fun _ _ _ h => h) (Or.inl ⟨by rfl, ?_⟩) ?_ ?_
  rotate_left
  · intro w'
    go_simp
    with_reducible rfl
  rotate_left
  · simp only [Act.put, List.setIfInBounds_toArray, List.set_cons_zero, List.set_cons_succ, i64_w, i32_w]
    rfl
  refine take_ (i := 3) (N := some 116) (v := ?_) (a' := ?_) #[true, true, true, true, true, true, true, false, false, true, false, false, true, true, true, false, false] rfl rfl (by kernel_rfl) (fun _ _ _ h => h) (Or.inl ⟨by rfl, ?_⟩) hHeld ?_ ?_
  rotate_left
  · rintro w' ⟨s0, s1, s2⟩
    go_simp
    with_reducible rfl
  rotate_left
  · simp only [Act.put, List.setIfInBounds_toArray, List.set_cons_zero, List.set_cons_succ, i64_w, i32_w]
    rfl
  refine pure_ (i := 7) (N := some 120) (v := ?_) (a' := ?_) #[true, true, true, true, true, true, true, true, false, true, false, false, true, true, true, false, false] rfl rfl (by kernel_rfl) (fun _ _ _ h => h) (Or.inl ⟨by rfl, ?_⟩) ?_ ?_
  rotate_left
  · intro w'
    go_simp
    with_reducible rfl
  rotate_left
  · simp only [Act.put, List.setIfInBounds_toArray, List.set_cons_zero, List.set_cons_succ, i64_w, i32_w]
    rfl
  refine take_ (i := 8) (N := some 121) (v := ?_) (a' := ?_) #[true, true, true, true, true, true, true, true, true, true, false, false, true, true, true, false, false] rfl rfl (by kernel_rfl) (fun _ _ _ h => h) (Or.inl ⟨by rfl, ?_⟩) hHeld ?_ ?_
  rotate_left
  · rintro w' ⟨s0, s1, s2⟩
    go_simp
    with_reducible rfl
  rotate_left
  · simp only [Act.put, List.setIfInBounds_toArray, List.set_cons_zero, List.set_cons_succ, i64_w, i32_w]
    rfl
  refine take_ (i := 10) (N := some 123) (v := ?_) (a' := ?_) #[true, true, true, true, true, true, true, true, true, true, true, false, true, true, true, false, false] rfl rfl (by kernel_rfl) (fun _ _ _ h => h) (Or.inl ⟨by rfl, ?_⟩) hHeld ?_ ?_
  rotate_left
  · rintro w' ⟨s0, s1, s2⟩
    go_simp
    with_reducible rfl
  rotate_left
  · simp only [Act.put, List.setIfInBounds_toArray, List.set_cons_zero, List.set_cons_succ, i64_w, i32_w]
    rfl
  refine pure_ (i := 11) (N := some 124) (v := ?_) (a' := ?_) #[true, true, true, true, true, true, true, true, true, true, true, true, true, true, true, false, false] rfl rfl (by kernel_rfl) (fun _ _ _ h => h) (Or.inl ⟨by rfl, ?_⟩) ?_ ?_
  rotate_left
  · intro w'
    go_simp
    with_reducible rfl
  rotate_left
  · simp only [Act.put, List.setIfInBounds_toArray, List.set_cons_zero, List.set_cons_succ, i64_w, i32_w]
    rfl
  refine pure_ (i := 15) (N := some 128) (v := ?_) (a' := ?_) #[true, true, true, true, true, true, true, true, true, true, true, true, true, true, true, true, false] rfl rfl (by kernel_rfl) (fun _ _ _ h => h) (Or.inl ⟨by rfl, ?_⟩) ?_ ?_
  rotate_left
  · intro w'
    go_simp
    with_reducible rfl
  rotate_left
  · simp only [Act.put, List.setIfInBounds_toArray, List.set_cons_zero, List.set_cons_succ, i64_w, i32_w]
    rfl
  refine last_ (i := 16) (N := none) #[true, true, true, true, true, true, true, true, true, true, true, true, true, true, true, true, true] rfl rfl (by kernel_rfl) (by decide) (fun K hK => ?_)
  refine skip_ (w1 := ?_) (by rfl) rfl ?_ ?_
  rotate_left
  · go_simp
    rfl
  refine hK.out _ _ ?_
  clear hK K
  refine done_ (by kernel_rfl) ?_
  rw [← strOfNums_append]
  go_wp2
  go_ret
  have hkt := HKt.out
  have hp := HX4d.out.putC 0 ch (by decide) HCH.out (C 0 ch ++ X.held ch)
  have hkk := (HT4d.out.kk t (.inl (.inr rfl)))
  have za := (HT4d.out.put ⟨t, 16 + ch, none⟩ (.string (strOfNums (C 0 ch ++ X.held ch))) hkk.2.1 hkk.2.2).forget (K' := fun k => K k ∨ k = t) (fun k hk => .inl hk)
  have zb := ((Nx.mk HB0.out HKB.out : Nx b0 K w W).trans (HN4d.out.forget (fun k hk => .inl (.inl hk)))).put ⟨t, 16 + ch, none⟩ (.string (strOfNums (C 0 ch ++ X.held ch))) hkt.2 hkt.1
  have hp2 : Tx t S (upd2 C 0 ch (C 0 ch ++ X.held ch)) ((w4.drew).setCell ⟨t, 16 + ch, none⟩ (.string (strOfNums (C 0 ch ++ X.held ch)))) := by simpa using hp
  exact ⟨rfl, vs3, za, zb, hp2⟩
set_option maxHeartbeats 8000000 in
set_option maxRecDepth 100000 in
theorem do_out_true {b0 : Nat} {K : Nat → Prop} {p q p' q' g t : Nat} {vs vs' : Nat → Value} {X O : Mx} {S C : Nat → Nat → List Int} (ch : Int) (nv : Int) (Ab : Option Addr) (nb cb : Nat) (w : World) (hT : Two b0 (fun k => K k ∨ k = t) p q vs X p' q' vs' O w) (hg : w.heap[g]? = some (pairB p' p)) (hKg : K g) (hKt : ¬ K t) (htb : b0 ≤ t) (hx : Tx t S C w) (hG : GT w) (hb0 : 0 < b0) (good : X.Good 20000000) (he : X.e = 0) (hby : Byt (X.outB nv)) (hlen : (X.outB nv).length ≤ 20000000) (hfo : O.Fit) (heo : O.e = 0) (hlo : O.L.length ≤ 20000000) (het : (O.took (X.outB nv)).e = 0) :
    Calls Tryd.prog 15 #[.pointer (some ⟨t, 0, none⟩), .slice (some ⟨g, 0, none⟩) 2 2, actV 1 true ch nv Ab nb cb] w fun e w' => e = .returned (.bool true) ∧ ∃ vs1 vs2, Two b0 (fun k => K k ∨ k = t) p q vs1 (X.outs nv) p' q' vs2 (O.took (X.outB nv)) w' ∧ Nx b0 K w w' ∧ Tx t S C w' := by
  obtain ⟨hT0, hb00⟩ := hT.boxed (actB 1 true ch nv Ab nb cb)
  have hbn := blk_new w (actB 1 true ch nv Ab nb cb)
  have hg0 := blk_below hg hb00
  have hx0 := hx.kept (hb00.block t hx.lt)
  have e0 := blk_cell hbn 0
  have e1 := blk_cell hbn 1
  have e2 := blk_cell hbn 2
  have e3 := blk_cell hbn 3
  have e4 := blk_cell hbn 4
  have HT0 := Aside0.mk hT0
  have HB0 := Aside0.mk (hb00.mono hT.bs)
  have HBN := Aside0.mk hbn
  have HG0 := Aside0.mk hg0
  have HX0 := Aside0.mk hx0
  have HSd := Aside0.mk (law_side g p' p true _ hg0)
  have HKg := Aside0.mk hKg
  have HKt := Aside0.mk (And.intro hKt htb)
  have HKB := Aside0.mk (fun k (hk : K k) => (hb00.block k (hT.kk k (.inl hk)).1))
  have HL := Aside0.mk (And.intro hb0 (And.intro good (And.intro he (And.intro hby (And.intro hlen (And.intro hfo (And.intro heo (And.intro hlo (And.intro het (hG.past hb00 (gt_pos hG)))))))))))
  have HGW := Aside0.mk hG
  clear hT hg hKg hKt htb hx hT0 hb0 hb00 hbn hg0 hx0 hG good he hby hlen hfo heo hlo het
  go_enter Tryd.func15, Tryd.ntmps15
  go_wp2_with fail
  refine HSd.out.mono ?_
  rintro e w1 ⟨rfl, hb1⟩
  generalize hW : w.alloc (actB 1 true ch nv Ab nb cb) = W at *
  clear hW
  have hN1 := (HT0.out.below hb1)
  have HT1 := Aside0.mk hN1.1
  have HN1 := Aside0.mk hN1.2
  have HBN1 := Aside0.mk (blk_below HBN.out hb1)
  have e0 := blk_cell HBN1.out 0
  have e1 := blk_cell HBN1.out 1
  have e2 := blk_cell HBN1.out 2
  have e3 := blk_cell HBN1.out 3
  have e4 := blk_cell HBN1.out 4
  clear hN1 hb1 HSd
  have HO := Aside0.mk (two_OutAny nv w1 HT1.out (HL.out.2.2.2.2.2.2.2.2.2.past HN1.out.below HL.out.1) HL.out.1 HL.out.2.1 HL.out.2.2.1)
  go_wp2_with fail
  refine HO.out.mono ?_
  rintro e w2 ⟨D, nd, cd, vs2, rfl, hnd, hC, hT2, hN2⟩
  have htk := two_Take D nd cd _ w2 hT2.swap (HL.out.2.2.2.2.2.2.2.2.2.past (HN1.out.trans hN2).below HL.out.1) HL.out.1 hC HL.out.2.2.2.1 HL.out.2.2.2.2.2.2.1 HL.out.2.2.2.2.2.1 (by have h1 := HL.out.2.2.2.2.1; have h2 := HL.out.2.2.2.2.2.2.2.1; omega)
  rw [HL.out.2.2.2.2.2.2.2.2.1] at htk
  have HTk := Aside0.mk htk
  have hle := Mx.outB_le X nv
  rw [hnd] at hle
  have j0 : decide ((nd : Int) > (if nv < 0 then (0 : Int) else nv)) = false := decide_eq_false (by omega)
  have j0' : decide ((if nv < 0 then (0 : Int) else nv) < (nd : Int)) = false := j0
  clear hC htk HO hnd hle
  have HT2 := Aside0.mk hT2
  have HBN2 := Aside0.mk ((hN2.kept w.heap.size (.inr rfl)).trans HBN1.out)
  have HN2 := Aside0.mk (HN1.out.trans hN2)
  clear hT2 hN2 e0 e1 e2 e3 e4
  have e0 := blk_cell HBN2.out 0
  have e1 := blk_cell HBN2.out 1
  have e2 := blk_cell HBN2.out 2
  have e3 := blk_cell HBN2.out 3
  have e4 := blk_cell HBN2.out 4
  obtain ⟨mx, hmx⟩ : ∃ mx, (if nv < 0 then (0 : Int) else nv) = mx := ⟨_, rfl⟩
  rw [hmx] at j0 j0'
  go_wp2_with fail
  refine HTk.out.mono ?_
  rintro e w3 ⟨rfl, vs3, hT3, hN3⟩
  have HT3 := Aside0.mk hT3.swap
  have HBN3 := Aside0.mk ((hN3.kept w.heap.size (.inr rfl)).trans HBN2.out)
  have HN3 := Aside0.mk (HN2.out.trans hN3)
  clear hT3 hN3 e0 e1 e2 e3 e4
  have e0 := blk_cell HBN3.out 0
  have e1 := blk_cell HBN3.out 1
  have e2 := blk_cell HBN3.out 2
  have e3 := blk_cell HBN3.out 3
  have e4 := blk_cell HBN3.out 4
  clear HTk
  have ZA := Aside0.mk (HT3.out.forget (K' := fun k => K k ∨ k = t) (fun k hk => .inl hk))
  have ZB := Aside0.mk ((Nx.mk HB0.out HKB.out : Nx b0 K w W).trans (HN3.out.forget (fun k hk => .inl (.inl hk))))
  have ZC := Aside0.mk (HX0.out.kept (HN3.out.kept t (.inl (.inr rfl))))
  go_wp2
  go_ret
  exact ⟨rfl, vs2, vs3, ZA.out, ZB.out, ZC.out⟩
open Go.Proofs.YthehhbfiaaadgaaDoor.Num Go.Proofs.YthehhbfiaaadgaaDoor.Pure
def fairB (x : S34) : Bool := decide (0 ≤ x.f0 ∧ x.f0 ≤ 2 ∧ (x.f0 = 1 ∨ (0 ≤ x.f2 ∧ x.f2 < 8)))
theorem rd_lt (l : List S34) (i : Nat) (hi : i < l.length) : rd_T34 l (i : Int) = l[i] := by
  unfold rd_T34
  rw [Int.toNat_natCast, List.getD_eq_getElem?_getD, List.getElem?_eq_getElem hi, Option.getD_some]
theorem fair_l0 (l : List S34) (hl : l.length ≤ 1000) : ∀ (d i k : Nat) (x : List S34), i + d = l.length → d + 1 ≤ k → x.length ≤ i → remoralaw31_fair.l0 k x l (l.length : Int) (i : Int) = some (x ++ (l.drop i).filter fairB)
  | 0, i, k, x, hd, hk, hx => by
    obtain ⟨k', rfl⟩ : ∃ k', k = k' + 1 := ⟨k - 1, by omega⟩
    unfold remoralaw31_fair.l0
    rw [if_neg (by omega), List.drop_of_length_le (by omega)]
    simp
  | d + 1, i, k, x, hd, hk, hx => by
    obtain ⟨k', rfl⟩ : ∃ k', k = k' + 1 := ⟨k - 1, by omega⟩
    have hi : i < l.length := by omega
    have hw : wrap64 ((i : Int) + 1) = ((i + 1 : Nat) : Int) := by unfold wrap64; omega
    have hdr : l.drop i = l[i] :: l.drop (i + 1) := List.drop_eq_getElem_cons hi
    unfold remoralaw31_fair.l0
    rw [if_pos (by omega), if_pos (by omega), if_pos (by omega), rd_lt l i hi, hw, hdr]
    have ih1 := fair_l0 l hl d (i + 1) k' x (by omega) (by omega) (by omega)
    have ih2 := fair_l0 l hl d (i + 1) k' (x ++ [l[i]]) (by omega) (by omega) (by rw [List.length_append]; simp; omega)
    have hyes : fairB l[i] = true → x ++ List.filter fairB (l[i] :: l.drop (i + 1)) = x ++ [l[i]] ++ List.filter fairB (l.drop (i + 1)) := fun h => by rw [List.filter_cons_of_pos h]; simp
    have hno : ¬ fairB l[i] = true → x ++ List.filter fairB (l[i] :: l.drop (i + 1)) = x ++ List.filter fairB (l.drop (i + 1)) := fun h => by rw [List.filter_cons_of_neg h]
    have hfb : fairB l[i] = decide (0 ≤ l[i].f0 ∧ l[i].f0 ≤ 2 ∧ (l[i].f0 = 1 ∨ (0 ≤ l[i].f2 ∧ l[i].f2 < 8))) := rfl
    have heta : (⟨l[i].f0, l[i].f1, l[i].f2, l[i].f3, l[i].f4⟩ : S34) = l[i] := rfl
    rw [heta]
    by_cases h1 : l[i].f0 ≥ 0
    · rw [if_pos h1]
      by_cases h2 : l[i].f0 ≤ 2
      · rw [if_pos h2]
        by_cases h3 : l[i].f0 = 1
        · rw [if_pos h3, if_pos (by omega), ih2, hyes (by rw [hfb, decide_eq_true_eq]; exact ⟨h1, h2, .inl h3⟩)]
        · rw [if_neg h3]
          by_cases h4 : l[i].f2 ≥ 0
          · rw [if_pos h4]
            by_cases h5 : l[i].f2 < 8
            · rw [if_pos h5, if_pos (by omega), ih2, hyes (by rw [hfb, decide_eq_true_eq]; exact ⟨h1, h2, .inr ⟨h4, h5⟩⟩)]
            · rw [if_neg h5, ih1, hno (by rw [hfb, decide_eq_true_eq]; omega)]
          · rw [if_neg h4, ih1, hno (by rw [hfb, decide_eq_true_eq]; omega)]
      · rw [if_neg h2, ih1, hno (by rw [hfb, decide_eq_true_eq]; omega)]
    · rw [if_neg h1, ih1, hno (by rw [hfb, decide_eq_true_eq]; omega)]
theorem fair_f (l : List S34) (hl : l.length ≤ 1000) : remoralaw31_fair.f 2000 l = some (l.filter fairB) := by
  have := fair_l0 l hl l.length 0 2000 [] (by omega) (by omega) (Nat.le_refl _)
  unfold remoralaw31_fair.f
  exact this
def lightB (l : List S34) : Bool := decide (l.length ≤ 60) && l.all (fun x => decide (x.f4.length ≤ 2000))
theorem light_l0 (l : List S34) (hl : l.length ≤ 1000) : ∀ (d i k : Nat), i + d = l.length → d + 1 ≤ k → remoralaw31_light.l0 k l (l.length : Int) (i : Int) = some ((l.drop i).all (fun x => decide (x.f4.length ≤ 2000)))
  | 0, i, k, hd, hk => by
    obtain ⟨k', rfl⟩ : ∃ k', k = k' + 1 := ⟨k - 1, by omega⟩
    unfold remoralaw31_light.l0
    rw [if_neg (by omega), List.drop_of_length_le (by omega)]
    rfl
  | d + 1, i, k, hd, hk => by
    obtain ⟨k', rfl⟩ : ∃ k', k = k' + 1 := ⟨k - 1, by omega⟩
    have hi : i < l.length := by omega
    have hw : wrap64 ((i : Int) + 1) = ((i + 1 : Nat) : Int) := by unfold wrap64; omega
    have hdr : l.drop i = l[i] :: l.drop (i + 1) := List.drop_eq_getElem_cons hi
    unfold remoralaw31_light.l0
    rw [if_pos (by omega), if_pos (by omega), if_pos (by omega), rd_lt l i hi, hw, hdr, List.all_cons]
    by_cases h : ((l[i].f4.length : Nat) : Int) > 2000
    · rw [if_pos h, decide_eq_false (by omega)]; rfl
    · rw [if_neg h, decide_eq_true (by omega), light_l0 l hl d (i + 1) k' (by omega) (by omega)]; rfl
theorem light_f (l : List S34) : remoralaw31_light.f 200 l = some (lightB l) := by
  unfold remoralaw31_light.f lightB
  by_cases h : (l.length : Int) > 60
  · rw [if_pos h, decide_eq_false (by omega)]; rfl
  · rw [if_neg h, decide_eq_true (by omega)]
    exact light_l0 l (by omega) l.length 0 200 (by omega) (by omega)
open Go.Proofs.YthehhbfiaaadgaaDoor.Num Go.Proofs.YthehhbfiaaadgaaDoor.Pure
structure SI (win n : Nat) (A B : Mx) (S C : Nat → Nat → List Int) : Prop where
  duo : ∃ f g, Duo A B f g [] [] (S 0) (C 0) (S 1) (C 1)
  hwin : A.win = win
  small : ∀ i, i < 2 → ∀ ch, ch < 8 → (S i ch).length ≤ n
theorem upd2_same (S : Nat → Nat → List Int) (i ch : Nat) (L : List Int) : upd2 S i ch L i = upd (S i) ch L := by
  funext c
  unfold upd2 upd
  by_cases e : c = ch
  · rw [if_pos ⟨rfl, e⟩, if_pos e]
  · rw [if_neg (fun h => e h.2), if_neg e]
theorem upd2_other (S : Nat → Nat → List Int) (i j ch : Nat) (L : List Int) (h : j ≠ i) : upd2 S i ch L j = S j := by
  funext c
  unfold upd2
  rw [if_neg (fun h2 => h h2.1)]
def flipS (S : Nat → Nat → List Int) : Nat → Nat → List Int := fun i => if i = 0 then S 1 else S 0
theorem SI.flip {win n : Nat} {A B : Mx} {S C : Nat → Nat → List Int} (h : SI win n A B S C) : SI win n B A (flipS S) (flipS C) := by
  obtain ⟨f, g, hd⟩ := h.duo
  refine ⟨⟨g, f, hd.swap⟩, by have := hd.win; have := h.hwin; omega, fun i hi ch hch => ?_⟩
  unfold flipS
  split
  · exact h.small 1 (by omega) ch hch
  · exact h.small 0 (by omega) ch hch
theorem SI.unflip {win n : Nat} {A B : Mx} {S C S' C' : Nat → Nat → List Int} (h : SI win n B A S' C') (e0 : S 0 = S' 1) (e1 : S 1 = S' 0) (e2 : C 0 = C' 1) (e3 : C 1 = C' 0) : SI win n A B S C := by
  obtain ⟨f, g, hd⟩ := h.duo
  refine ⟨⟨g, f, by rw [e0, e1, e2, e3]; exact hd.swap⟩, by have := hd.win; have := h.hwin; omega, fun i hi ch hch => ?_⟩
  have : i = 0 ∨ i = 1 := by omega
  rcases this with rfl | rfl
  · rw [e0]; exact h.small 1 (by omega) ch hch
  · rw [e1]; exact h.small 0 (by omega) ch hch
theorem SI.send {win n : Nat} {A B : Mx} {S C : Nat → Nat → List Int} (h : SI win n A B S C) (ch : Nat) (hch : ch < 8) (N : List Int) (hN : Byt N) (hf : (N.length : Int) ≤ A.win - A.way ch) : SI win (n + N.length) (A.send ch N) B (upd2 S 0 ch (S 0 ch ++ N)) C := by
  obtain ⟨f, g, hd⟩ := h.duo
  refine ⟨⟨f, g, by rw [upd2_same, upd2_other _ _ _ _ _ (by omega)]; exact hd.send ch hch N hN hf⟩, h.hwin, fun i hi c hc => ?_⟩
  unfold upd2
  have := h.small i hi c hc
  split
  · rename_i e
    have := h.small 0 (by omega) ch hch
    rw [List.length_append]; omega
  · omega
theorem SI.out {win n : Nat} {A B : Mx} {S C : Nat → Nat → List Int} (h : SI win n A B S C) (nv : Int) : SI win n (A.outs nv) (B.took (A.outB nv)) S C ∧ (B.took (A.outB nv)).e = 0 := by
  obtain ⟨f, g, hd⟩ := h.duo
  obtain ⟨f', h1⟩ := hd.outs nv
  obtain ⟨f1, f2, e, h2, _⟩ := h1.took (Mx.outB_byt hd.fa nv).1
  exact ⟨⟨⟨f2, g, h2⟩, (Mx.outs_same hd.fa nv).1.trans h.hwin, h.small⟩, h2.eb⟩
theorem SI.recv {win n : Nat} {A B : Mx} {S C : Nat → Nat → List Int} (h : SI win n A B S C) (ch : Nat) (hch : ch < 8) : SI win n (A.recv ch) B S (upd2 C 1 ch (C 1 ch ++ A.held ch)) := by
  obtain ⟨f, g, hd⟩ := h.duo
  refine ⟨⟨f, g, ?_⟩, h.hwin, h.small⟩
  rw [upd2_same, upd2_other _ _ _ _ _ (by omega)]
  exact (hd.swap.recv ch hch).swap
theorem SI.came {win n : Nat} {A B : Mx} {S C : Nat → Nat → List Int} (h : SI win n A B S C) (ch : Nat) (hch : ch < 8) : (C 1 ch).length + (A.held ch).length ≤ n := by
  obtain ⟨f, g, hd⟩ := h.duo
  have := congrArg List.length (hd.ba.text ch hch)
  simp only [List.length_append] at this
  have := h.small 1 (by omega) ch hch
  omega
structure ActOk (far : Bool) (d chv nv : Int) (nb : Nat) : Prop where
  hd : d = 0 ∨ d = 1 ∨ d = 2
  hc : d ≠ 1 → 0 ≤ chv ∧ chv < 8
  hn : nb ≤ 2000
theorem SI.more {win n m : Nat} {A B : Mx} {S C : Nat → Nat → List Int} (h : SI win n A B S C) (hm : n ≤ m) : SI win m A B S C := ⟨h.duo, h.hwin, fun i hi c hc => Nat.le_trans (h.small i hi c hc) hm⟩
/-- One fair act. -/
theorem do_act {b0 : Nat} {K : Nat → Prop} {p q p' q' g t : Nat} {vs vs' : Nat → Value} {A B : Mx} {S C : Nat → Nat → List Int} {win n : Nat} (far : Bool) (d chv nv : Int) (Ab : Option Addr) (nb cb : Nat) (N : List Int) (hok : ActOk far d chv nv nb) (w : World) (hG : GT w) (hb0 : 0 < b0) (hT : Two b0 (fun k => K k ∨ k = t) p q vs A p' q' vs' B w) (hg : w.heap[g]? = some (pairB p p')) (hKg : K g) (hKt : ¬ K t) (htb : b0 ≤ t) (hx : Tx t S C w)
    (hI : SI win n A B S C) (hn : n ≤ 1000000000) (hCC : ∀ w', Nx b0 K w w' → Kd.C (Kd.int .u8) w' Ab nb N) (hN : Byt N) :
    Calls Tryd.prog 15 #[.pointer (some ⟨t, 0, none⟩), .slice (some ⟨g, 0, none⟩) 2 2, actV d far chv nv Ab nb cb] w fun e w' => e = .returned (.bool true) ∧ ∃ A' B' S' C' vs1 vs1', SI win (n + 2000) A' B' S' C' ∧ Two b0 (fun k => K k ∨ k = t) p q vs1 A' p' q' vs1' B' w' ∧ Nx b0 K w w' ∧ Tx t S' C' w' := by
  obtain ⟨f, g', hd⟩ := hI.duo
  have hnl : N.length = nb := (hCC w (Nx.refl _ _ _)).1
  have hnb := hok.hn
  have hbA := fun c hc => hd.bounds c hc
  have hbB := fun c hc => hd.swap.bounds c hc
  cases far with
  | false =>
    rcases hok.hd with rfl | rfl | rfl
    · obtain ⟨h1, h2⟩ := hok.hc (by decide)
      obtain ⟨ch, rfl⟩ : ∃ ch : Nat, chv = ch := ⟨chv.toNat, by omega⟩
      have hch : ch < 8 := by omega
      have hS := hI.small 0 (by omega) ch hch
      by_cases hro : (nb : Int) ≤ A.win - A.way ch
      · refine (do_send_false ch hch nv Ab nb cb w hT hg hKg hKt htb hx N hd.fa hro hd.ea hCC (fun c hc => by have := hbA c hc; omega) (by omega)).mono ?_
        rintro e w' ⟨rfl, vs1, hT1, hN1, hx1⟩
        exact ⟨rfl, _, _, _, _, vs1, vs', (hI.send ch hch N hN (by rw [hnl]; exact hro)).more (by omega), hT1, hN1, hx1⟩
      · refine (do_full_false ch hch nv Ab nb cb w hT hg hKg hKt htb hx N hd.fa hro hd.ea hCC (fun c hc => by have := hbA c hc; omega) (by omega)).mono ?_
        rintro e w' ⟨rfl, vs1, hT1, hN1, hx1⟩
        exact ⟨rfl, _, _, _, _, vs1, vs', hI.more (by omega), hT1, hN1, hx1⟩
    · obtain ⟨hI1, he1⟩ := hI.out nv
      refine (do_out_false chv nv Ab nb cb w hT hg hKg hKt htb hx hG hb0 hd.good hd.ea (Mx.outB_byt hd.fa nv).1 (hd.outLen nv) hd.fb hd.eb hd.inLen he1).mono ?_
      rintro e w' ⟨rfl, vs1, vs2, hT1, hN1, hx1⟩
      exact ⟨rfl, _, _, _, _, vs1, vs2, hI1.more (by omega), hT1, hN1, hx1⟩
    · obtain ⟨h1, h2⟩ := hok.hc (by decide)
      obtain ⟨ch, rfl⟩ : ∃ ch : Nat, chv = ch := ⟨chv.toNat, by omega⟩
      have hch : ch < 8 := by omega
      refine (do_recv_false ch hch nv Ab nb cb w hT hg hKg hKt htb hx (by have := hI.came ch hch; omega)).mono ?_
      rintro e w' ⟨rfl, vs1, hT1, hN1, hx1⟩
      exact ⟨rfl, _, _, _, _, vs1, vs', (hI.recv ch hch).more (by omega), hT1, hN1, hx1⟩
  | true =>
    have hF := hI.flip
    rcases hok.hd with rfl | rfl | rfl
    · obtain ⟨h1, h2⟩ := hok.hc (by decide)
      obtain ⟨ch, rfl⟩ : ∃ ch : Nat, chv = ch := ⟨chv.toNat, by omega⟩
      have hch : ch < 8 := by omega
      have hS := hI.small 1 (by omega) ch hch
      by_cases hro : (nb : Int) ≤ B.win - B.way ch
      · refine (do_send_true ch hch nv Ab nb cb w hT.swap hg hKg hKt htb hx N hd.fb hro hd.eb hCC (fun c hc => by have := hbB c hc; omega) (by omega)).mono ?_
        rintro e w' ⟨rfl, vs1, hT1, hN1, hx1⟩
        have h3 := hF.send ch hch N hN (by rw [hnl]; exact hro)
        have h4 : SI win (n + N.length) A (B.send ch N) (upd2 S 1 ch (S 1 ch ++ N)) C := h3.unflip (by rw [upd2_other _ _ _ _ _ (by omega), upd2_other _ _ _ _ _ (by omega)]; rfl) (by rw [upd2_same, upd2_same]; rfl) rfl rfl
        exact ⟨rfl, _, _, _, _, vs, vs1, h4.more (by omega), hT1.swap, hN1, hx1⟩
      · refine (do_full_true ch hch nv Ab nb cb w hT.swap hg hKg hKt htb hx N hd.fb hro hd.eb hCC (fun c hc => by have := hbB c hc; omega) (by omega)).mono ?_
        rintro e w' ⟨rfl, vs1, hT1, hN1, hx1⟩
        exact ⟨rfl, _, _, _, _, vs, vs1, hI.more (by omega), hT1.swap, hN1, hx1⟩
    · obtain ⟨hI1, he1⟩ := hF.out nv
      have hds := hd.swap
      refine (do_out_true chv nv Ab nb cb w hT.swap hg hKg hKt htb hx hG hb0 hds.good hds.ea (Mx.outB_byt hds.fa nv).1 (hds.outLen nv) hds.fb hds.eb hds.inLen he1).mono ?_
      rintro e w' ⟨rfl, vs1, vs2, hT1, hN1, hx1⟩
      have h4 : SI win n (A.took (B.outB nv)) (B.outs nv) S C := hI1.unflip rfl rfl rfl rfl
      exact ⟨rfl, _, _, _, _, vs2, vs1, h4.more (by omega), hT1.swap, hN1, hx1⟩
    · obtain ⟨h1, h2⟩ := hok.hc (by decide)
      obtain ⟨ch, rfl⟩ : ∃ ch : Nat, chv = ch := ⟨chv.toNat, by omega⟩
      have hch : ch < 8 := by omega
      have hcm : (C 0 ch).length + (B.held ch).length ≤ n := hF.came ch hch
      refine (do_recv_true ch hch nv Ab nb cb w hT.swap hg hKg hKt htb hx (by omega)).mono ?_
      rintro e w' ⟨rfl, vs1, hT1, hN1, hx1⟩
      have h3 := hF.recv ch hch
      have h4 : SI win n A (B.recv ch) S (upd2 C 0 ch (C 0 ch ++ B.held ch)) := h3.unflip rfl rfl (by rw [upd2_same, upd2_same]; rfl) (by rw [upd2_other _ _ _ _ _ (by omega), upd2_other _ _ _ _ _ (by omega)]; rfl)
      exact ⟨rfl, _, _, _, _, vs, vs1, h4.more (by omega), hT1.swap, hN1, hx1⟩
open Go.Proofs.YthehhbfiaaadgaaDoor.Num Go.Proofs.YthehhbfiaaadgaaDoor.Pure
theorem Mx.takes_same : ∀ (fu : Nat) (M : Mx), (Mx.takes fu M).win = M.win ∧ (Mx.takes fu M).out = M.out ∧ (Mx.takes fu M).sent = M.sent ∧ (Mx.takes fu M).back = M.back ∧ (Mx.takes fu M).last = M.last
  | 0, M => ⟨rfl, rfl, rfl, rfl, rfl⟩
  | fu + 1, M => by
    rw [Mx.takes_eq]
    split
    · split
      · obtain ⟨a, b, c, d, e⟩ := Mx.takes_same fu M.step
        obtain ⟨_, _, s1, s2, s3, s4, s5⟩ := M.step_L
        exact ⟨a.trans s1, b.trans s2, c.trans s3, d.trans s4, e.trans s5⟩
      · split <;> exact ⟨rfl, rfl, rfl, rfl, rfl⟩
    · exact ⟨rfl, rfl, rfl, rfl, rfl⟩
theorem Mx.took_same (M : Mx) (N : List Int) : (M.took N).win = M.win ∧ (M.took N).out = M.out ∧ (M.took N).sent = M.sent ∧ (M.took N).back = M.back ∧ (M.took N).last = M.last := Mx.takes_same _ _
/-- What is so when all has been handed over and received r times. -/
structure Lv (r win n : Nat) (A B : Mx) (S C : Nat → Nat → List Int) : Prop where
  si : SI win n A B S C
  p1 : 1 ≤ r → Duo A B [] [] [] [] (S 0) (C 0) (S 1) (C 1) ∧ ∀ k, k < 8 → A.sent k = [] ∧ B.sent k = [] ∧ A.held k = [] ∧ B.held k = []
  p2 : 2 ≤ r → ∀ k, k < 8 → A.back k = 0 ∧ B.back k = 0
theorem Lv.all {r win n : Nat} {A B : Mx} {S C : Nat → Nat → List Int} (h : Lv r win n A B S C) (hr : 1 ≤ r) (k : Nat) (hk : k < 8) : S 0 k = C 0 k ∧ S 1 k = C 1 k := by
  obtain ⟨d, e⟩ := h.p1 hr
  obtain ⟨e1, e2, e3, e4⟩ := e k hk
  have t0 := d.ab.text k hk
  have t1 := d.ba.text k hk
  rw [e1, e4] at t0
  rw [e2, e3] at t1
  exact ⟨by simpa [dat_nil] using t0, by simpa [dat_nil] using t1⟩
/-- A has handed over. -/
structure Md (r win n : Nat) (A B : Mx) (S C : Nat → Nat → List Int) : Prop where
  d : ∃ g, Duo A B [] g [] [] (S 0) (C 0) (S 1) (C 1)
  hwin : A.win = win
  small : ∀ i, i < 2 → ∀ ch, ch < 8 → (S i ch).length ≤ n
  sA : ∀ k, k < 8 → A.sent k = []
  bA : ∀ k, k < 8 → A.back k = 0
  h : 1 ≤ r → ∀ k, k < 8 → A.held k = [] ∧ B.held k = [] ∧ S 0 k = C 0 k ∧ S 1 k = C 1 k
theorem Duo.pass2 {win : Nat} {A B : Mx} {f g : List Fr} {o' : List Int} {SA CB SB CA : Nat → List Int} (h : Duo A B f g [] o' SA CB SB CA) (hw : A.win = win) (hw3 : win ≤ 3000) (n : Int) (hn : 552000 < n) :
    Duo (A.outs n) (B.took (A.outB n)) [] g [] o' SA CB SB CA ∧ (∀ i, i < 8 → (A.outs n).sent i = []) ∧ (∀ i, i < 8 → (A.outs n).back i = 0) := by
  obtain ⟨a, b, c, _⟩ := h.pass n (by have := h.sum; omega)
  exact ⟨a, b, c⟩
theorem Lv.out {r win n : Nat} {A B : Mx} {S C : Nat → Nat → List Int} (h : Lv r win n A B S C) (hw3 : win ≤ 3000) (m : Int) (hm : 552000 < m) : Md r win n (A.outs m) (B.took (A.outB m)) S C := by
  obtain ⟨f, g, hd⟩ := h.si.duo
  obtain ⟨d1, s1, b1⟩ := hd.pass2 h.si.hwin hw3 m hm
  refine ⟨⟨g, d1⟩, (Mx.outs_same hd.fa m).1.trans h.si.hwin, h.si.small, s1, b1, fun hr k hk => ?_⟩
  obtain ⟨e0, e1⟩ := h.all hr k hk
  have hA := ((h.p1 hr).2 k hk).2.2.1
  have t := d1.ab.text k hk
  rw [s1 k hk, e0] at t
  refine ⟨by rw [(Mx.outs_same hd.fa m).2.2.1]; exact hA, ?_, e0, e1⟩
  simp only [dat_nil, List.append_nil, List.nil_append] at t
  have := congrArg List.length t
  rw [List.length_append] at this
  exact List.eq_nil_of_length_eq_zero (by omega)
/-- Both have handed over; the channels below i have been received. -/
structure Rv (r i win n : Nat) (A B : Mx) (S C : Nat → Nat → List Int) : Prop where
  d : Duo A B [] [] [] [] (S 0) (C 0) (S 1) (C 1)
  hwin : A.win = win
  small : ∀ i, i < 2 → ∀ ch, ch < 8 → (S i ch).length ≤ n
  sent : ∀ k, k < 8 → A.sent k = [] ∧ B.sent k = []
  held : ∀ k, k < 8 → k < i → A.held k = [] ∧ B.held k = []
  h : 1 ≤ r → ∀ k, k < 8 → A.held k = [] ∧ B.held k = [] ∧ A.back k = 0 ∧ B.back k = 0
theorem Md.out {r win n : Nat} {A B : Mx} {S C : Nat → Nat → List Int} (h : Md r win n A B S C) (hw3 : win ≤ 3000) (m : Int) (hm : 552000 < m) : Rv r 0 win n (A.took (B.outB m)) (B.outs m) S C := by
  obtain ⟨g, hd⟩ := h.d
  have hds := hd.swap
  obtain ⟨d1, s1, b1⟩ := hds.pass2 (win := win) (by have := hd.win; have := h.hwin; omega) hw3 m hm
  obtain ⟨t1, t2, t3, t4, t5⟩ := A.took_same (B.outB m)
  refine ⟨d1.swap, t1.trans h.hwin, h.small, fun k hk => ⟨by rw [t3]; exact h.sA k hk, s1 k hk⟩, fun k _ hk => absurd hk (Nat.not_lt_zero _), fun hr k hk => ?_⟩
  obtain ⟨hA, hB, e0, e1⟩ := h.h hr k hk
  have t := d1.ab.text k hk
  rw [s1 k hk, e1] at t
  refine ⟨?_, by rw [(Mx.outs_same hds.fa m).2.2.1]; exact hB, by rw [t4]; exact h.bA k hk, b1 k hk⟩
  simp only [dat_nil, List.append_nil, List.nil_append] at t
  have := congrArg List.length t
  rw [List.length_append] at this
  exact List.eq_nil_of_length_eq_zero (by omega)
theorem Rv.recv {r i win n : Nat} {A B : Mx} {S C : Nat → Nat → List Int} (h : Rv r i win n A B S C) (hi : i < 8) : Rv r (i + 1) win n (A.recv i) (B.recv i) S (upd2 (upd2 C 1 i (C 1 i ++ A.held i)) 0 i (upd2 C 1 i (C 1 i ++ A.held i) 0 i ++ B.held i)) := by
  have d1 := (h.d.swap.recv i hi).swap.recv i hi
  have e0 : (upd2 C 1 i (C 1 i ++ A.held i)) 0 = C 0 := upd2_other _ _ _ _ _ (by omega)
  have hz : ∀ (M : Mx) (k : Nat), (M.held i = [] → M.back i = 0 → M.back k = 0 → (M.recv i).back k = 0) := fun M k a b c => by
    show upd M.back i (wrap64 (M.back i + ((M.held i).length : Nat))) k = 0
    unfold upd
    split
    · rw [a, b]; show wrap64 (0 + ((0 : Nat) : Int)) = 0; unfold wrap64; omega
    · exact c
  have hh : ∀ (M : Mx) (k : Nat), (k ≠ i → M.held k = []) → (M.recv i).held k = [] := fun M k a => by
    show upd M.held i [] k = []
    unfold upd
    split
    · rfl
    · rename_i e; exact a e
  refine ⟨?_, h.hwin, h.small, h.sent, fun k hk hki => ⟨hh A k (fun e => (h.held k hk (by omega)).1), hh B k (fun e => (h.held k hk (by omega)).2)⟩, fun hr k hk => ?_⟩
  · rw [upd2_same, upd2_other _ 0 1 _ _ (by omega), upd2_same, e0]
    exact d1
  · obtain ⟨a1, a2, a3, a4⟩ := h.h hr k hk
    obtain ⟨b1, b2, b3, b4⟩ := h.h hr i hi
    exact ⟨hh A k (fun _ => a1), hh B k (fun _ => a2), hz A k b1 b3 a3, hz B k b2 b4 a4⟩
theorem Rv.done {r win n : Nat} {A B : Mx} {S C : Nat → Nat → List Int} (h : Rv r 8 win n A B S C) : Lv (r + 1) win n A B S C :=
  ⟨⟨⟨_, _, h.d⟩, h.hwin, h.small⟩, fun _ => ⟨h.d, fun k hk => ⟨(h.sent k hk).1, (h.sent k hk).2, (h.held k hk hk).1, (h.held k hk hk).2⟩⟩, fun hr k hk => ⟨(h.h (by omega) k hk).2.2.1, (h.h (by omega) k hk).2.2.2⟩⟩
theorem Lv.room {r win n : Nat} {A B : Mx} {S C : Nat → Nat → List Int} (h : Lv r win n A B S C) (hr : 2 ≤ r) (k : Nat) (hk : k < 8) : A.win - A.way k = win ∧ B.win - B.way k = win := by
  obtain ⟨d, e⟩ := h.p1 (by omega)
  obtain ⟨e1, e2, e3, e4⟩ := e k hk
  obtain ⟨b1, b2⟩ := h.p2 hr k hk
  have r1 := d.ab.room k hk
  have r2 := d.ba.room k hk
  have o1 := d.fa.owed k hk
  have o2 := d.fb.owed k hk
  have hw := d.win
  have hw2 := h.si.hwin
  rw [e3, b1] at o1
  rw [e4, b2] at o2
  rw [e1, dat_nil, gif_nil] at r1
  rw [e2, dat_nil, gif_nil] at r2
  simp only [List.length_nil] at r1 r2 o1 o2
  omega
open Go.Proofs.YthehhbfiaaadgaaDoor.Num Go.Proofs.YthehhbfiaaadgaaDoor.Pure
theorem add_block (ad : Addr) (k : Nat) : (ad.add k).block = ad.block := by unfold Addr.add; split <;> rfl
theorem heap_act : Kd.Heap k34 := Kd.heap_iso _ (Kd.heap_pair (Kd.heap_int _) (Kd.heap_pair Kd.heap_bool (Kd.heap_pair (Kd.heap_int _) (Kd.heap_pair (Kd.heap_int _) (Kd.heap_slice _ (Kd.heap_int _))))))
/-- More blocks are minded. -/
theorem Two.minds {b0 : Nat} {K K' : Nat → Prop} {p q p' q' : Nat} {vs vs' : Nat → Value} {A B : Mx} {w : World} (h : Two b0 K p q vs A p' q' vs' B w) (hk : ∀ k, K' k → K k ∨ (k < w.heap.size ∧ ¬ Mf p q vs k ∧ ¬ Mf p' q' vs' k)) : Two b0 K' p q vs A p' q' vs' B w := ⟨h.a, h.b, h.ne, fun k hk2 => (hk k hk2).elim (h.kk k) id, h.bs⟩
theorem Tx.new {t : Nat} {w : World} {cs : Array Value} (h : w.heap[t]? = some (.cells cs 30 (0, 0))) (hcs : cs = (List.replicate 32 (Value.string ⟨#[]⟩)).toArray) : Tx t (fun _ _ => []) (fun _ _ => []) w := by
  subst hcs
  refine ⟨_, h, by simp, fun i hi ch hch => ⟨?_, ?_⟩⟩
  · rw [List.getElem?_toArray, List.getElem?_replicate, if_pos (by omega)]; rfl
  · rw [List.getElem?_toArray, List.getElem?_replicate, if_pos (by omega)]; rfl
/-- The state of the law between its steps. -/
structure Ls (b0 : Nat) (K : Nat → Prop) (p q p' q' t : Nat) (A B : Mx) (S C : Nat → Nat → List Int) (w0 w : World) : Prop where
  two : ∃ vs vs', Two b0 (fun k => K k ∨ k = t) p q vs A p' q' vs' B w
  nx : Nx b0 K w0 w
  tx : Tx t S C w
theorem Ls.below {b0 : Nat} {K : Nat → Prop} {p q p' q' t : Nat} {A B : Mx} {S C : Nat → Nat → List Int} {w0 w w1 : World} (h : Ls b0 K p q p' q' t A B S C w0 w) (hb : Below w.heap.size w w1) : Ls b0 K p q p' q' t A B S C w0 w1 := by
  obtain ⟨vs, vs', hT⟩ := h.two
  exact ⟨⟨vs, vs', (hT.below hb).1⟩, h.nx.trans ((hT.below hb).2.forget (fun k hk => .inl hk)), h.tx.kept (hb.block t h.tx.lt)⟩
theorem ls_HeldA {b0 : Nat} {K : Nat → Prop} {p q p' q' t : Nat} {A B : Mx} {S C : Nat → Nat → List Int} {w0 : World} (ch : Nat) (hch : ch < 8) (n : Nat) (hn : (A.held ch).length = n) (w : World) (h : Ls b0 K p q p' q' t A B S C w0 w) :
    Calls Tryd.prog 24 #[.pointer (some ⟨p, 0, none⟩), .int .i64 ch] w fun e w' => e = .returned (.int .i64 n) ∧ Ls b0 K p q p' q' t A B S C w0 w' := by
  obtain ⟨vs, vs', hT⟩ := h.two
  refine (mux_Held.at_ ch hch w hT.a).mono ?_
  rintro e w' ⟨rfl, hb⟩
  rw [hn]
  exact ⟨rfl, h.below hb⟩
theorem ls_RoomA {b0 : Nat} {K : Nat → Prop} {p q p' q' t : Nat} {A B : Mx} {S C : Nat → Nat → List Int} {w0 : World} (ch : Nat) (hch : ch < 8) (r : Int) (hf : A.Fit) (hr : A.win - A.way ch = r) (w : World) (h : Ls b0 K p q p' q' t A B S C w0 w) :
    Calls Tryd.prog 19 #[.pointer (some ⟨p, 0, none⟩), .int .i64 ch] w fun e w' => e = .returned (.int .i64 r) ∧ Ls b0 K p q p' q' t A B S C w0 w' := by
  obtain ⟨vs, vs', hT⟩ := h.two
  refine (mux_Room.at_ ch hch w hT.a).mono ?_
  rintro e w' ⟨rfl, hb⟩
  rw [Mx.room hf ch hch, hr]
  exact ⟨rfl, h.below hb⟩
theorem ls_HeldB {b0 : Nat} {K : Nat → Prop} {p q p' q' t : Nat} {A B : Mx} {S C : Nat → Nat → List Int} {w0 : World} (ch : Nat) (hch : ch < 8) (n : Nat) (hn : (B.held ch).length = n) (w : World) (h : Ls b0 K p q p' q' t A B S C w0 w) :
    Calls Tryd.prog 24 #[.pointer (some ⟨p', 0, none⟩), .int .i64 ch] w fun e w' => e = .returned (.int .i64 n) ∧ Ls b0 K p q p' q' t A B S C w0 w' := by
  obtain ⟨vs, vs', hT⟩ := h.two
  refine (mux_Held.at_ ch hch w hT.b).mono ?_
  rintro e w' ⟨rfl, hb⟩
  rw [hn]
  exact ⟨rfl, h.below hb⟩
theorem ls_RoomB {b0 : Nat} {K : Nat → Prop} {p q p' q' t : Nat} {A B : Mx} {S C : Nat → Nat → List Int} {w0 : World} (ch : Nat) (hch : ch < 8) (r : Int) (hf : B.Fit) (hr : B.win - B.way ch = r) (w : World) (h : Ls b0 K p q p' q' t A B S C w0 w) :
    Calls Tryd.prog 19 #[.pointer (some ⟨p', 0, none⟩), .int .i64 ch] w fun e w' => e = .returned (.int .i64 r) ∧ Ls b0 K p q p' q' t A B S C w0 w' := by
  obtain ⟨vs, vs', hT⟩ := h.two
  refine (mux_Room.at_ ch hch w hT.b).mono ?_
  rintro e w' ⟨rfl, hb⟩
  rw [Mx.room hf ch hch, hr]
  exact ⟨rfl, h.below hb⟩
theorem ls_outA {b0 : Nat} {K : Nat → Prop} {p q p' q' g t : Nat} {A B : Mx} {S C : Nat → Nat → List Int} {w0 : World} {f f' : List Fr} (nv : Int) (w : World) (h : Ls b0 K p q p' q' t A B S C w0 w) (hg : w.heap[g]? = some (pairB p p')) (hKg : K g) (hKt : ¬ K t) (htb : b0 ≤ t) (hG : GT w) (hb0 : 0 < b0) (hd : Duo A B f f' [] [] (S 0) (C 0) (S 1) (C 1)) :
    Calls Tryd.prog 15 #[.pointer (some ⟨t, 0, none⟩), .slice (some ⟨g, 0, none⟩) 2 2, actV 1 false 0 nv none 0 0] w fun e w' => e = .returned (.bool true) ∧ Ls b0 K p q p' q' t (A.outs nv) (B.took (A.outB nv)) S C w0 w' := by
  obtain ⟨vs, vs', hT⟩ := h.two
  obtain ⟨f1, h1⟩ := hd.outs nv
  obtain ⟨_, f2, _, h2, _⟩ := h1.took (Mx.outB_byt hd.fa nv).1
  refine (do_out_false 0 nv none 0 0 w hT hg hKg hKt htb h.tx hG hb0 hd.good hd.ea (Mx.outB_byt hd.fa nv).1 (hd.outLen nv) hd.fb hd.eb hd.inLen h2.eb).mono ?_
  rintro e w' ⟨rfl, vs1, vs2, hT1, hN1, hx1⟩
  exact ⟨rfl, ⟨_, _, hT1⟩, h.nx.trans hN1, hx1⟩
theorem ls_outB {b0 : Nat} {K : Nat → Prop} {p q p' q' g t : Nat} {A B : Mx} {S C : Nat → Nat → List Int} {w0 : World} {f f' : List Fr} (nv : Int) (w : World) (h : Ls b0 K p q p' q' t A B S C w0 w) (hg : w.heap[g]? = some (pairB p p')) (hKg : K g) (hKt : ¬ K t) (htb : b0 ≤ t) (hG : GT w) (hb0 : 0 < b0) (hd : Duo A B f f' [] [] (S 0) (C 0) (S 1) (C 1)) :
    Calls Tryd.prog 15 #[.pointer (some ⟨t, 0, none⟩), .slice (some ⟨g, 0, none⟩) 2 2, actV 1 true 0 nv none 0 0] w fun e w' => e = .returned (.bool true) ∧ Ls b0 K p q p' q' t (A.took (B.outB nv)) (B.outs nv) S C w0 w' := by
  obtain ⟨vs, vs', hT⟩ := h.two
  have hds := hd.swap
  obtain ⟨f1, h1⟩ := hds.outs nv
  obtain ⟨_, f2, _, h2, _⟩ := h1.took (Mx.outB_byt hds.fa nv).1
  refine (do_out_true 0 nv none 0 0 w hT.swap hg hKg hKt htb h.tx hG hb0 hds.good hds.ea (Mx.outB_byt hds.fa nv).1 (hds.outLen nv) hds.fb hds.eb hds.inLen h2.eb).mono ?_
  rintro e w' ⟨rfl, vs1, vs2, hT1, hN1, hx1⟩
  exact ⟨rfl, ⟨_, _, hT1.swap⟩, h.nx.trans hN1, hx1⟩
theorem ls_recvA {b0 : Nat} {K : Nat → Prop} {p q p' q' g t : Nat} {A B : Mx} {S C : Nat → Nat → List Int} {w0 : World} (ch : Nat) (hch : ch < 8) (w : World) (h : Ls b0 K p q p' q' t A B S C w0 w) (hg : w.heap[g]? = some (pairB p p')) (hKg : K g) (hKt : ¬ K t) (htb : b0 ≤ t) (hsz : (C 1 ch).length + (A.held ch).length ≤ 4611686018427387904) :
    Calls Tryd.prog 15 #[.pointer (some ⟨t, 0, none⟩), .slice (some ⟨g, 0, none⟩) 2 2, actV 2 false ch 0 none 0 0] w fun e w' => e = .returned (.bool true) ∧ Ls b0 K p q p' q' t (A.recv ch) B S (upd2 C 1 ch (C 1 ch ++ A.held ch)) w0 w' := by
  obtain ⟨vs, vs', hT⟩ := h.two
  refine (do_recv_false ch hch 0 none 0 0 w hT hg hKg hKt htb h.tx hsz).mono ?_
  rintro e w' ⟨rfl, vs1, hT1, hN1, hx1⟩
  exact ⟨rfl, ⟨_, _, hT1⟩, h.nx.trans hN1, hx1⟩
theorem ls_recvB {b0 : Nat} {K : Nat → Prop} {p q p' q' g t : Nat} {A B : Mx} {S C : Nat → Nat → List Int} {w0 : World} (ch : Nat) (hch : ch < 8) (w : World) (h : Ls b0 K p q p' q' t A B S C w0 w) (hg : w.heap[g]? = some (pairB p p')) (hKg : K g) (hKt : ¬ K t) (htb : b0 ≤ t) (hsz : (C 0 ch).length + (B.held ch).length ≤ 4611686018427387904) :
    Calls Tryd.prog 15 #[.pointer (some ⟨t, 0, none⟩), .slice (some ⟨g, 0, none⟩) 2 2, actV 2 true ch 0 none 0 0] w fun e w' => e = .returned (.bool true) ∧ Ls b0 K p q p' q' t A (B.recv ch) S (upd2 C 0 ch (C 0 ch ++ B.held ch)) w0 w' := by
  obtain ⟨vs, vs', hT⟩ := h.two
  refine (do_recv_true ch hch 0 none 0 0 w hT.swap hg hKg hKt htb h.tx hsz).mono ?_
  rintro e w' ⟨rfl, vs1, hT1, hN1, hx1⟩
  exact ⟨rfl, ⟨_, _, hT1.swap⟩, h.nx.trans hN1, hx1⟩
theorem Duo.small {A B : Mx} {f g : List Fr} {o o' : List Int} {SA CB SB CA : Nat → List Int} (h : Duo A B f g o o' SA CB SB CA) (ch : Nat) (hch : ch < 8) (n : Nat) (hn : (SA ch).length ≤ n) : (CB ch).length + (B.held ch).length ≤ n := by
  have := congrArg List.length (h.ab.text ch hch)
  simp only [List.length_append] at this
  omega
set_option maxHeartbeats 16000000 in
set_option maxRecDepth 100000 in
theorem sent_main (win : Nat) (hw1 : 1 ≤ win) (hw : win ≤ 3000) (D : Option Addr) (cl : Nat) (l : List S34) (w : World) (hG : GT w) (hlt : lightB l = true) (hC : Kd.C k34 w D l.length l) (hcl : l.length ≤ cl) (hB : ∀ x ∈ l, Byt x.f4) :
    Calls Tryd.prog 6 #[.int .i64 win, .slice D l.length cl] w fun e w' => e = .returned (.bool true) ∧ Below w.heap.size w w' := by
  have k1 : decide ((win : Int) < 1) = false := decide_eq_false (by omega)
  have k2 : decide ((win : Int) > 3000) = false := decide_eq_false (by omega)
  have k2' : decide (3000 < (win : Int)) = false := k2
  have hl60 : l.length ≤ 60 ∧ ∀ x ∈ l, x.f4.length ≤ 2000 := by
    unfold lightB at hlt
    rw [Bool.and_eq_true, decide_eq_true_eq, List.all_eq_true] at hlt
    exact ⟨hlt.1, fun x hx => of_decide_eq_true (hlt.2 x hx)⟩
  have hLi := remoralaw31_light.calls 200 D cl l true w hC hcl (by rw [light_f, hlt])
  have HLi := Aside0.mk hLi
  have HX := Aside0.mk (And.intro hw1 (And.intro hw (And.intro hl60.1 (And.intro hl60.2 hB))))
  have HC := Aside0.mk hC
  have HCL := Aside0.mk hcl
  obtain ⟨m0, hm0⟩ : ∃ m0, l.length = m0 := ⟨_, rfl⟩
  have HM0 := Aside0.mk hm0
  have hFa : ∀ W, Below w.heap.size w W → Calls Tryd.prog 12 #[.slice D m0 cl] W fun e w' => ∃ v0_ : Value, e = .returned v0_ ∧ Kd.N k34 34 w' W.heap.size (fun k => k < w.heap.size ∨ W.heap.size ≤ k) v0_ (l.filter fairB) ∧ Below W.heap.size W w' := fun W hb => by
    have h1 : Kd.F k34 W (fun k => k < w.heap.size) D l.length l := Kd.F_below (Kd.C_F heap_act hC) hb
    have h2 := remoralaw31_fair.calls 2000 (fun k => k < w.heap.size) D cl l (l.filter fairB) W (Kd.V_mk hcl h1) (fair_f l (by omega))
    rwa [hm0] at h2
  have HFa := Aside0.mk hFa
  have HG := Aside0.mk hG
  have H0 := Aside0.mk (gt_pos hG)
  rw [hm0] at HLi ⊢
  clear hLi hw1 hw hl60 hB hC hcl hm0 hFa hG hlt
  go_enter Tryd.func6, Tryd.ntmps6
  go_wp2_with fail
  refine HLi.out.mono ?_
  rintro e w1 ⟨rfl, hd1⟩
  have HB1 := Aside0.mk hd1
  clear hd1 HLi
  go_wp2_with fail
  refine (law_pair (win : Int) (by have := HX.out.1; have := HX.out.2.1; omega) w1).mono ?_
  rintro e w2 ⟨g, p, q, p', q', rfl, hg2, hgw, hT2, hb2⟩
  have kn := run_eql_pair ⟨g, 0, none⟩ 2 2
  have HK2 := Aside0.mk (And.intro hg2 hgw)
  have HT2 := Aside0.mk hT2
  have HB2 := Aside0.mk (HB1.out.trans (hb2.mono HB1.out.size))
  clear hg2 hgw hT2 hb2 k1 k2 k2'
  have hz : ∀ i : Nat, i = i := fun _ => rfl
  obtain ⟨w3, hw3⟩ : ∃ w3, w3 = w2.alloc (.cells (List.replicate 32 (Value.string ⟨#[]⟩)).toArray 30) := ⟨_, rfl⟩
  have hb3 : Below w2.heap.size w2 w3 := by rw [hw3]; exact below_alloc (Below.refl _ _) _
  have htx3 : Tx w2.heap.size (fun _ _ => []) (fun _ _ => []) w3 := by rw [hw3]; exact Tx.new (blk_new _ _) rfl
  have hs3 : w3.heap.size = w2.heap.size + 1 := by rw [hw3]; simp
  have hB03 : Below w.heap.size w w3 := HB2.out.trans (hb3.mono HB2.out.size)
  have hfa := HFa.out w3 hB03
  have HFA := Aside0.mk hfa
  have HT3 := Aside0.mk (HT2.out.below hb3)
  have HTX3 := Aside0.mk htx3
  have HS3 := Aside0.mk (And.intro hs3 hB03)
  have HK3 := Aside0.mk (blk_below HK2.out.1 hb3)
  have HB3 := Aside0.mk hb3
  have HW3 := Aside0.mk hw3
  clear hz hb3 htx3 hs3 hB03 hfa HFa hw3
  go_wp2_with fail
  have hw3' := HW3.out
  simp only [List.replicate] at hw3'
  rw [← hw3']
  clear hw3'
  refine HFA.out.mono ?_
  rintro e w5 ⟨v5, rfl, hN5, hb5⟩
  obtain ⟨F, hF⟩ : ∃ F, l.filter fairB = F := ⟨_, rfl⟩
  rw [hF] at hN5
  have HFF : Aside0 ((∀ x ∈ F, x ∈ l ∧ fairB x = true) ∧ F.length ≤ 60) := ⟨by
    rw [← hF]
    exact ⟨fun x hx => List.mem_filter.1 hx, Nat.le_trans (List.length_filter_le _ _) HX.out.2.2.1⟩⟩
  obtain ⟨A5, c5, rfl⟩ := Kd.N_slice hN5
  obtain ⟨b0, hb0⟩ : ∃ b0, w1.heap.size = b0 := ⟨_, rfl⟩
  obtain ⟨t, ht⟩ : ∃ t, w2.heap.size = t := ⟨_, rfl⟩
  obtain ⟨K, hK⟩ : ∃ K : Nat → Prop, K = fun k => k = g ∨ (w3.heap.size ≤ k ∧ k < w5.heap.size) := ⟨_, rfl⟩
  have hs3 := HS3.out.1
  have hNN : ∀ w', Nx b0 K w5 w' → Kd.C k34 w' A5 F.length F := fun w' hn => by
    have h1 := Kd.N_step (w1 := w') (Kd.N_bound hN5) (fun k hk _ => by
      rcases hk.1 with h2 | h2
      · exact hn.below.block k (by have := HB1.out.size; omega)
      · exact hn.kept k (by rw [hK]; exact .inr ⟨h2, hk.2⟩))
    exact (Kd.N_reads' h1).2.2
  have hAD : ∀ ad, A5 = some ad → K ad.block := fun ad e => by
    subst e
    rw [hK]
    exact .inr ⟨Kd.N_base hN5 _ rfl, Kd.N_lt hN5 _ rfl⟩
  have HAD := Aside0.mk hAD
  have hLs5 : Ls b0 K p q p' q' t (Mx.new win) (Mx.new win) (fun _ _ => []) (fun _ _ => []) w5 w5 := by
    have hT5 : Two b0 (fun k => K k ∨ k = t) p q (fun _ => .slice none 0 0) (Mx.new win) p' q' (fun _ => .slice none 0 0) (Mx.new win) w5 := by
      have h1 := (HT3.out.1.below hb5).1
      rw [hb0] at h1
      have hsz := hb5.size
      have fa := fun k (hk : Mf p q (fun _ => .slice none 0 0) k) => (HT2.out.a.foot k hk).2
      have fb := fun k (hk : Mf p' q' (fun _ => .slice none 0 0) k) => (HT2.out.b.foot k hk).2
      refine h1.minds (fun k hk => ?_)
      rw [hK] at hk
      rcases hk with (hk | hk) | hk
      · exact .inl hk
      · exact .inr ⟨hk.2, fun h => by have := fa k h; omega, fun h => by have := fb k h; omega⟩
      · exact .inr ⟨by omega, fun h => by have := fa k h; omega, fun h => by have := fb k h; omega⟩
    exact ⟨⟨_, _, hT5⟩, Nx.refl _ _ _, by rw [← ht]; exact HTX3.out.kept (hb5.block _ (by omega))⟩
  have hKg : K g := by rw [hK]; exact .inl rfl
  have hKt : ¬ K t := by
    rw [hK]
    rintro (h | h)
    · have h1 := HK2.out.1
      have := blk_lt h1
      omega
    · omega
  have htb : b0 ≤ t := by have := HT2.out.bs; omega
  have HLs5 := Aside0.mk hLs5
  have HNN := Aside0.mk hNN
  have HKK := Aside0.mk (And.intro hKg (And.intro hKt htb))
  have HG5 := Aside0.mk (blk_below HK3.out hb5)
  have HB5 := Aside0.mk (HS3.out.2.trans (hb5.mono HS3.out.2.size))
  have HB0 : Aside0 (w.heap.size ≤ b0) := ⟨by have := HB1.out.size; omega⟩
  obtain ⟨m, hm⟩ : ∃ m, F.length = m := ⟨_, rfl⟩
  rw [hm] at HNN HFF ⊢
  have HM := Aside0.mk hm
  rw [ht]
  clear hF hN5 hb5 hs3 hNN hAD hLs5 hKg hKt htb hm HT3 HT2 HTX3 HK3 HK2 HS3 HB3 HW3 HFA HB2 ht hb0 HB1
  go_upto_block 0 with (fail)
  go_cut [8, 34] (fun s8 s34 wx => ∃ A B S C, Aside0 (SI win 200000 A B S C) ∧ Aside0 (Ls b0 K p q p' q' t A B S C w5 wx))
  case first =>
    go_wp2_with fail
    go_loopg [8, 34] m (fun gg v8 v34 w' => ∃ (i : Nat) (A B : Mx) (S C : Nat → Nat → List Int), gg = m - i ∧ v34 = .int .i64 i ∧ Aside0 (i ≤ m ∧ SI win (2000 * i) A B S C) ∧ Aside0 (Ls b0 K p q p' q' t A B S C w5 w'))
    case atStart => exact ⟨0, _, _, _, _, rfl, rfl, ⟨by omega, ⟨_, _, Duo.new (by have := HX.out.1; have := HX.out.2.1; omega)⟩, rfl, fun _ _ _ _ => Nat.zero_le _⟩, HLs5⟩
    case round =>
      clear HLs5
      obtain ⟨i, A, B, S, C, rfl, rfl, HI, HL⟩ := hrel
      have hi := HI.out.1
      have hm60 := HFF.out.2
      by_cases c1 : i < m
      · have k1 : decide ((i : Int) < (m : Int)) = true := decide_eq_true (by omega)
        have k1' : decide (i < m) = true := decide_eq_true c1
        have k1n : (i < m) = True := eq_true c1
        have k1i : ((i : Int) < (m : Int)) = True := eq_true (by omega)
        have k10 : (0 ≤ (i : Int)) = True := eq_true (by omega)
        have hadd : wrap64 ((i : Int) + 1) = ((i + 1 : Nat) : Int) := by unfold wrap64; omega
        have C1 := Aside0.mk c1
        obtain ⟨ad, A4, c4, hD, q0, q1, q2, q3, q4, hle4, hC4⟩ := at_T34 (HNN.out wr HL.out.nx) (i : Int) (by omega) (by omega)
        subst hD
        obtain ⟨x, hx⟩ : ∃ x, rd_T34 F (i : Int) = x := ⟨_, rfl⟩
        have hxl : x ∈ l ∧ fairB x = true := by
          rw [← hx, rd_lt F i (by rw [HM.out]; exact c1)]
          exact HFF.out.1 _ (List.getElem_mem _)
        rw [hx] at q0 q1 q2 q3 q4 hle4 hC4
        rw [Int.toNat_natCast] at q0 q1 q2 q3 q4
        obtain ⟨nb, hnb⟩ : ∃ nb, x.f4.length = nb := ⟨_, rfl⟩
        rw [hnb] at q4 hle4 hC4
        have HQ4 := Aside0.mk q4
        have hCC : ∀ w', Nx b0 K wr w' → Kd.C (Kd.int .u8) w' A4 nb x.f4 := fun w' hn => by
          obtain ⟨ad2, A42, c42, hD2, _, _, _, _, q42, _, hC42⟩ := at_T34 (HNN.out w' (HL.out.nx.trans hn)) (i : Int) (by omega) (by omega)
          cases hD2
          rw [hx, Int.toNat_natCast, hnb] at q42
          rw [hx, hnb] at hC42
          have hsame : w'.cell? ⟨(ad.add (i * 5)).block, (ad.add (i * 5)).off + 4, none⟩ = wr.cell? ⟨(ad.add (i * 5)).block, (ad.add (i * 5)).off + 4, none⟩ := World.cell?_of_block (by show w'.heap[(ad.add (i * 5)).block]? = _; rw [add_block]; exact hn.kept _ (HAD.out ad rfl))
          rw [hsame, HQ4.out] at q42
          injection q42 with q42
          injection q42 with ha _ _
          rw [ha]
          exact hC42
        have hfb : ActOk x.f1 x.f0 x.f2 x.f3 nb := by
          have h1 := of_decide_eq_true (show decide (0 ≤ x.f0 ∧ x.f0 ≤ 2 ∧ (x.f0 = 1 ∨ (0 ≤ x.f2 ∧ x.f2 < 8))) = true from hxl.2)
          have h2 := HX.out.2.2.2.1 x hxl.1
          exact ⟨by omega, fun h => by omega, by omega⟩
        have hby := HX.out.2.2.2.2 x hxl.1
        have hb1 := below_alloc (Below.refl _ wr) (actB x.f0 x.f1 x.f2 x.f3 A4 nb c4)
        have hL1 := HL.out.below hb1
        obtain ⟨vs, vs', hTw⟩ := hL1.two
        have hnx1 : Nx b0 K wr (wr.alloc (actB x.f0 x.f1 x.f2 x.f3 A4 nb c4)) := by
          obtain ⟨vsr, vsr', hTr⟩ := HL.out.two
          exact (hTr.below hb1).2.forget (fun k hk => .inl hk)
        have hg1 := (hL1.nx.kept g HKK.out.1).trans HG5.out
        have hbz : Below w.heap.size w (wr.alloc (actB x.f0 x.f1 x.f2 x.f3 A4 nb c4)) := HB5.out.trans (hL1.nx.below.mono HB0.out)
        have HDo := Aside0.mk (do_act x.f1 x.f0 x.f2 x.f3 A4 nb c4 x.f4 hfb _ (HG.out.past hbz H0.out) (Nat.lt_of_lt_of_le H0.out HB0.out) hTw hg1 HKK.out.1 HKK.out.2.1 HKK.out.2.2 hL1.tx HI.out.2 (by omega) (fun w' hn => hCC w' (hnx1.trans hn)) hby)
        have HNX1 := Aside0.mk hL1.nx
        have HBN1 := Aside0.mk (blk_new wr (actB x.f0 x.f1 x.f2 x.f3 A4 nb c4))
        have z0 := blk_cell HBN1.out 0
        have z1 := blk_cell HBN1.out 1
        have z2 := blk_cell HBN1.out 2
        have z3 := blk_cell HBN1.out 3
        have z4 := blk_cell HBN1.out 4
        clear hi hm60 c1 hle4 hC4 hxl hnb hCC hfb hby hb1 hL1 hTw hnx1 hg1 hbz hx
        go_wp2_with fail
        refine HDo.out.mono ?_
        rintro e w6 ⟨rfl, A', B', S', C', vs1, vs1', hI', hT', hN', hx'⟩
        have HI' := Aside0.mk hI'
        have HL' : Aside0 (Ls b0 K p q p' q' t A' B' S' C' w5 w6) := ⟨⟨_, _, hT'⟩, HNX1.out.trans hN', hx'⟩
        clear hI' hT' hN' hx' HDo z0 z1 z2 z3 z4 q0 q1 q2 q3 q4
        go_wp2_with fail
        go_loopg [9, 42] 8 (fun gg v9 v42 w' => ∃ (j : Nat), gg = 8 - j ∧ v42 = .int .i64 j ∧ Aside0 (j ≤ 8) ∧ Aside0 (Ls b0 K p q p' q' t A' B' S' C' w5 w'))
        case atStart => exact ⟨0, rfl, rfl, ⟨by omega⟩, HL'⟩
        case round =>
          clear HL' HL HNX1 HBN1
          obtain ⟨j, rfl, rfl, HJ, HLj⟩ := hrel
          by_cases c2 : j < 8
          · have k1 : decide ((j : Int) < 8) = true := decide_eq_true (by omega)
            have hadd2 : wrap64 ((j : Int) + 1) = ((j + 1 : Nat) : Int) := by unfold wrap64; omega
            have C2 := Aside0.mk c2
            obtain ⟨f, g', hd⟩ := HI'.out.duo
            have hbA := hd.bounds j c2
            have hbB := hd.swap.bounds j c2
            have hwA := HI'.out.hwin
            have hwB := hd.win
            have hyA := hd.fa.way j c2
            have hyB := hd.fb.way j c2
            obtain ⟨nA, hnA⟩ : ∃ nA, (A'.held j).length = nA := ⟨_, rfl⟩
            obtain ⟨nB, hnB⟩ : ∃ nB, (B'.held j).length = nB := ⟨_, rfl⟩
            obtain ⟨rA, hrA⟩ : ∃ rA, A'.win - A'.way j = rA := ⟨_, rfl⟩
            obtain ⟨rB, hrB⟩ : ∃ rB, B'.win - B'.way j = rB := ⟨_, rfl⟩
            have j1 : decide ((nA : Int) > (win : Int)) = false := decide_eq_false (by omega)
            have j1' : decide ((win : Int) < (nA : Int)) = false := j1
            have j2 : decide ((nB : Int) > (win : Int)) = false := decide_eq_false (by omega)
            have j2' : decide ((win : Int) < (nB : Int)) = false := j2
            have j1n : decide (win < nA) = false := decide_eq_false (by omega)
            have j1p : (win < nA) = False := eq_false (by omega)
            have j2n : decide (win < nB) = false := decide_eq_false (by omega)
            have j2p : (win < nB) = False := eq_false (by omega)
            have j3 : decide (rA < 0) = false := decide_eq_false (by omega)
            have j4 : decide (rB < 0) = false := decide_eq_false (by omega)
            have hgj := (HLj.out.nx.kept g HKK.out.1).trans HG5.out
            have e0 := blk_cell hgj 0
            have H1 := Aside0.mk (ls_HeldA j c2 nA hnA wr HLj.out)
            have HH := Aside0.mk (And.intro hnB (And.intro hrA (And.intro hrB (And.intro hd.fa hd.fb))))
            clear hd hbA hbB hwA hwB hyA hyB hnA hnB hrA hrB c2 hgj
            go_wp2_with fail
            refine H1.out.mono ?_
            rintro e x1 ⟨rfl, hL1⟩
            have hgj := (hL1.nx.kept g HKK.out.1).trans HG5.out
            have H2 := Aside0.mk (ls_HeldB j C2.out nB HH.out.1 x1 hL1)
            clear e0 H1 hL1
            have e1 := blk_cell hgj 1
            clear hgj
            go_wp2_with fail
            refine H2.out.mono ?_
            rintro e x2 ⟨rfl, hL2⟩
            have hgj := (hL2.nx.kept g HKK.out.1).trans HG5.out
            have H3 := Aside0.mk (ls_RoomA j C2.out rA HH.out.2.2.2.1 HH.out.2.1 x2 hL2)
            clear e1 H2 hL2
            have e0 := blk_cell hgj 0
            clear hgj
            go_wp2_with fail
            refine H3.out.mono ?_
            rintro e x3 ⟨rfl, hL3⟩
            have hgj := (hL3.nx.kept g HKK.out.1).trans HG5.out
            have H4 := Aside0.mk (ls_RoomB j C2.out rB HH.out.2.2.2.2 HH.out.2.2.1 x3 hL3)
            clear e0 H3 hL3
            have e1 := blk_cell hgj 1
            clear hgj
            go_wp2_with fail
            refine H4.out.mono ?_
            rintro e x4 ⟨rfl, hL4⟩
            have HL4 := Aside0.mk hL4
            clear hL4 e1 H4
            go_wp2
            go_roundg (8 - (j + 1))
            case measure => have := C2.out; omega
            case rel => exact ⟨j + 1, rfl, by first | rfl | rw [hadd2], ⟨by have := C2.out; omega⟩, HL4⟩
          · have k1 : decide ((j : Int) < 8) = false := decide_eq_false (by omega)
            clear c2
            go_wp2
            go_roundg (m - (i + 1))
            case measure => have := C1.out; omega
            case rel => exact ⟨i + 1, A', B', S', C', rfl, by first | rfl | rw [hadd], ⟨by have := C1.out; omega, by rw [show 2000 * (i + 1) = 2000 * i + 2000 by omega]; exact HI'.out⟩, HLj⟩
      · have k1 : decide ((i : Int) < (m : Int)) = false := decide_eq_false (by omega)
        have k1' : decide (i < m) = false := decide_eq_false c1
        have k1n : (i < m) = False := eq_false c1
        have k1i : ((i : Int) < (m : Int)) = False := eq_false (by omega)
        clear c1 hi hm60
        go_wp2
        go_meet
        exact ⟨A, B, S, C, ⟨HI.out.2.more (by have h1 := HI.out.1; have h2 := HFF.out.2; omega)⟩, HL⟩
  clear HLs5
  obtain ⟨A, B, S, C, HI0, HL0⟩ := hcut
  have HLv0 : Aside0 (Lv 0 win 200000 A B S C) := ⟨⟨HI0.out, fun h => absurd h (by decide), fun h => absurd h (by decide)⟩⟩
  clear HI0
  go_upto_block 4 with (fail)
  go_cut [10, 12, 13] (fun s10 s12 s13 wx => ∃ A B S C, Aside0 (Lv 3 win 200000 A B S C) ∧ Aside0 (Ls b0 K p q p' q' t A B S C w5 wx))
  case first =>
    go_wp2_with fail
    go_loopg [10, 12, 13] 3 (fun gg v10 v12 v13 w' => ∃ (r : Nat) (A B : Mx) (S C : Nat → Nat → List Int), gg = 3 - r ∧ v10 = .int .i64 r ∧ Aside0 (r ≤ 3 ∧ Lv r win 200000 A B S C) ∧ Aside0 (Ls b0 K p q p' q' t A B S C w5 w'))
    case atStart => exact ⟨0, _, _, _, _, rfl, rfl, ⟨by omega, HLv0.out⟩, HL0⟩
    case round =>
      clear HLv0 HL0
      obtain ⟨r, A, B, S, C, rfl, rfl, HR, HL⟩ := hrel
      have hr3 := HR.out.1
      by_cases c1 : r < 3
      · have k1 : decide ((r : Int) < 3) = true := decide_eq_true (by omega)
        have hadd : wrap64 ((r : Int) + 1) = ((r + 1 : Nat) : Int) := by unfold wrap64; omega
        have C1 := Aside0.mk c1
        have hb1 := below_alloc (Below.refl _ wr) (.cells #[.bool false, .bool true] 4)
        obtain ⟨W, hW⟩ : ∃ W, W = wr.alloc (.cells #[.bool false, .bool true] 4) := ⟨_, rfl⟩
        rw [← hW] at hb1
        obtain ⟨bk, hbk⟩ : ∃ bk, wr.heap.size = bk := ⟨_, rfl⟩
        have hbkb : W.heap[bk]? = some (.cells #[.bool false, .bool true] 4 (0, 0)) := by rw [hW, ← hbk]; exact blk_new wr _
        have hL1 := HL.out.below hb1
        have hLK : Ls b0 (fun k => K k ∨ k = bk) p q p' q' t A B S C W W := by
          obtain ⟨vsr, vsr', hTr⟩ := HL.out.two
          refine ⟨⟨vsr, vsr', (hTr.below hb1).1.minds (fun k hk => ?_)⟩, Nx.refl _ _ _, hL1.tx⟩
          rcases hk with (hk | hk) | hk
          · exact .inl (.inl hk)
          · exact .inr ⟨by rw [hk]; exact blk_lt hbkb, fun h => by have := (hTr.a.foot k h).2; omega, fun h => by have := (hTr.b.foot k h).2; omega⟩
          · exact .inl (.inr hk)
        have HLK := Aside0.mk hLK
        have HL1 := Aside0.mk hL1
        have HBK := Aside0.mk hbkb
        have hKt2 : ¬ (K t ∨ t = bk) := by
          have h1 := HL.out.tx.lt
          rintro (h | h)
          · exact HKK.out.2.1 h
          · omega
        have HKt2 := Aside0.mk hKt2
        have hbz : Below w.heap.size w W := HB5.out.trans (hL1.nx.below.mono HB0.out)
        have HBZ := Aside0.mk hbz
        have hgW := (hL1.nx.kept g HKK.out.1).trans HG5.out
        have HGW := Aside0.mk hgW
        have HWe := Aside0.mk hW
        clear hr3 c1 hb1 hbkb hL1 hLK hKt2 hbz hgW hW HL
        have HKB := Aside0.mk hbk
        go_upto_block 6 with (fail)
        have hwe := HWe.out
        try rw [HKB.out]
        rw [← hwe]
        clear hwe hbk
        go_cut [12, 85] (fun s12 s85 wx => ∃ A B, Aside0 (Rv r 0 win 200000 A B S C) ∧ Aside0 (Ls b0 (fun k => K k ∨ k = bk) p q p' q' t A B S C W wx))
        case first =>
          go_wp2_with fail
          go_loopg [12, 85] 2 (fun gg v12 v85 w' => ∃ (i : Nat) (A' B' : Mx), gg = 2 - i ∧ v85 = .int .i64 i ∧ Aside0 (i ≤ 2 ∧ (i = 0 → Lv r win 200000 A' B' S C) ∧ (i = 1 → Md r win 200000 A' B' S C) ∧ (i = 2 → Rv r 0 win 200000 A' B' S C)) ∧ Aside0 (Ls b0 (fun k => K k ∨ k = bk) p q p' q' t A' B' S C W w'))
          case atStart => exact ⟨0, A, B, rfl, rfl, ⟨by omega, fun _ => HR.out.2, fun h => absurd h (by decide), fun h => absurd h (by decide)⟩, HLK⟩
          case round =>
            clear HLK HL1
            obtain ⟨i, A', B', rfl, rfl, HI, HLi⟩ := hrel
            have hi := HI.out.1
            have hgj := (HLi.out.nx.kept g (.inl HKK.out.1)).trans HGW.out
            have hbj := (HLi.out.nx.kept bk (.inr rfl)).trans HBK.out
            have hGj : GT wr := HG.out.past (HBZ.out.trans (HLi.out.nx.below.mono HB0.out)) H0.out
            have hpos : 0 < b0 := Nat.lt_of_lt_of_le H0.out HB0.out
            have h3 : i = 0 ∨ i = 1 ∨ i = 2 := by omega
            rcases h3 with rfl | rfl | rfl
            · have hLv := HI.out.2.1 rfl
              obtain ⟨f, f', hd⟩ := hLv.si.duo
              have HDo := Aside0.mk (ls_outA 1048576 wr HLi.out hgj (.inl HKK.out.1) HKt2.out HKK.out.2.2 hGj hpos hd)
              have HMd := Aside0.mk (hLv.out HX.out.2.1 1048576 (by decide))
              have e0 := blk_cell hbj 0
              clear hi hgj hbj hGj hpos hLv hd
              go_wp2_with fail
              refine HDo.out.mono ?_
              rintro e x1 ⟨rfl, hL1⟩
              have HL1 := Aside0.mk hL1
              clear e0 hL1 HDo
              go_wp2
              go_roundg 1
              case measure => omega
              case rel => exact ⟨1, _, _, rfl, rfl, ⟨by omega, fun h => absurd h (by decide), fun _ => HMd.out, fun h => absurd h (by decide)⟩, HL1⟩
            · have hMd := HI.out.2.2.1 rfl
              obtain ⟨f', hd⟩ := hMd.d
              have HDo := Aside0.mk (ls_outB 1048576 wr HLi.out hgj (.inl HKK.out.1) HKt2.out HKK.out.2.2 hGj hpos hd)
              have HRv := Aside0.mk (hMd.out HX.out.2.1 1048576 (by decide))
              have e1 := blk_cell hbj 1
              clear hi hgj hbj hGj hpos hMd hd
              go_wp2_with fail
              refine HDo.out.mono ?_
              rintro e x1 ⟨rfl, hL1⟩
              have HL1 := Aside0.mk hL1
              clear e1 hL1 HDo
              go_wp2
              go_roundg 0
              case measure => omega
              case rel => exact ⟨2, _, _, rfl, rfl, ⟨by omega, fun h => absurd h (by decide), fun h => absurd h (by decide), fun _ => HRv.out⟩, HL1⟩
            · have HRv := Aside0.mk (HI.out.2.2.2 rfl)
              clear hi hgj hbj hGj hpos
              go_wp2
              go_meet
              exact ⟨A', B', HRv, HLi⟩
        clear HLK
        obtain ⟨A1, B1, HRv, HLk⟩ := hcut
        go_wp2_with fail
        go_loopg [13, 95] 8 (fun gg v13 v95 w' => ∃ (i : Nat) (A' B' : Mx) (C' : Nat → Nat → List Int), gg = 8 - i ∧ v95 = .int .i64 i ∧ Aside0 (i ≤ 8 ∧ Rv r i win 200000 A' B' S C') ∧ Aside0 (Ls b0 (fun k => K k ∨ k = bk) p q p' q' t A' B' S C' W w'))
        case atStart => exact ⟨0, A1, B1, C, rfl, rfl, ⟨by omega, HRv.out⟩, HLk⟩
        case round =>
          clear HRv HLk
          obtain ⟨i, A', B', C', rfl, rfl, HI, HLi⟩ := hrel
          have hi := HI.out.1
          by_cases c2 : i < 8
          · have k1 : decide ((i : Int) < 8) = true := decide_eq_true (by omega)
            have hadd2 : wrap64 ((i : Int) + 1) = ((i + 1 : Nat) : Int) := by unfold wrap64; omega
            have C2 := Aside0.mk c2
            have hRi := HI.out.2
            have hgj := (HLi.out.nx.kept g (.inl HKK.out.1)).trans HGW.out
            have h1 := hRi.d.swap.small i c2 200000 (hRi.small 1 (by omega) i c2)
            have h2 := hRi.d.small i c2 200000 (hRi.small 0 (by omega) i c2)
            have HDo := Aside0.mk (ls_recvA i c2 wr HLi.out hgj (.inl HKK.out.1) HKt2.out HKK.out.2.2 (by omega))
            have HSM := Aside0.mk h2
            clear hi hRi hgj h1 h2 c2
            go_wp2_with fail
            refine HDo.out.mono ?_
            rintro e x1 ⟨rfl, hL1⟩
            have hgj := (hL1.nx.kept g (.inl HKK.out.1)).trans HGW.out
            have HDo2 := Aside0.mk (ls_recvB i C2.out x1 hL1 hgj (.inl HKK.out.1) HKt2.out HKK.out.2.2 (by rw [upd2_other _ _ _ _ _ (by omega)]; have := HSM.out; omega))
            clear hL1 hgj HDo
            go_wp2_with fail
            refine HDo2.out.mono ?_
            rintro e x2 ⟨rfl, hL2⟩
            have HL2 := Aside0.mk hL2
            clear hL2 HDo2
            go_wp2
            go_roundg (8 - (i + 1))
            case measure => have := C2.out; omega
            case rel => exact ⟨i + 1, _, _, _, rfl, by first | rfl | rw [hadd2], ⟨by have := C2.out; omega, HI.out.2.recv C2.out⟩, HL2⟩
          · have k1 : decide ((i : Int) < 8) = false := decide_eq_false (by omega)
            have HV : Aside0 (Lv (r + 1) win 200000 A' B' S C') := ⟨by
              have : i = 8 := by omega
              subst this
              exact HI.out.2.done⟩
            have HLe : Aside0 (Ls b0 K p q p' q' t A' B' S C' w5 wr) := ⟨by
              obtain ⟨vsr, vsr', hTr⟩ := HLi.out.two
              exact ⟨⟨vsr, vsr', hTr.forget (fun k hk => hk.elim (fun h => .inl (.inl h)) .inr)⟩, HL1.out.nx.trans (HLi.out.nx.forget (fun k hk => .inl hk)), HLi.out.tx⟩⟩
            clear c2 hi
            go_wp2
            go_roundg (3 - (r + 1))
            case measure => have := C1.out; omega
            case rel => exact ⟨r + 1, A', B', S, C', rfl, by first | rfl | rw [hadd], ⟨by have := C1.out; omega, HV.out⟩, HLe⟩
      · have k1 : decide ((r : Int) < 3) = false := decide_eq_false (by omega)
        have HR3 : Aside0 (Lv 3 win 200000 A B S C) := ⟨by
          have : r = 3 := by omega
          subst this
          exact HR.out.2⟩
        clear c1 hr3
        go_wp2
        go_meet
        exact ⟨A, B, S, C, HR3, HL⟩
  clear HLv0 HL0
  obtain ⟨A, B, S, C, HLv, HL0⟩ := hcut
  go_upto_block 10 with (fail)
  go_cut [14, 111] (fun s14 s111 wx => Aside0 (Ls b0 K p q p' q' t A B S C w5 wx))
  case first =>
    go_wp2_with fail
    go_loopg [14, 111] 8 (fun gg v14 v111 w' => ∃ (j : Nat), gg = 8 - j ∧ v111 = .int .i64 j ∧ Aside0 (j ≤ 8) ∧ Aside0 (Ls b0 K p q p' q' t A B S C w5 w'))
    case atStart => exact ⟨0, rfl, rfl, ⟨by omega⟩, HL0⟩
    case round =>
      clear HL0
      obtain ⟨j, rfl, rfl, HJ, HL⟩ := hrel
      by_cases c1 : j < 8
      · have k1 : decide ((j : Int) < 8) = true := decide_eq_true (by omega)
        have k2 : (0 ≤ (j : Int)) = True := eq_true (by omega)
        have k3 : (j < 8) = True := eq_true c1
        have k4 : ((j : Int) < 8) = True := eq_true (by omega)
        have hadd : wrap64 ((j : Int) + 1) = ((j + 1 : Nat) : Int) := by unfold wrap64; omega
        have C1 := Aside0.mk c1
        obtain ⟨e0, e1⟩ := HLv.out.all (by omega) j c1
        obtain ⟨r0, r1⟩ := HLv.out.room (by omega) j c1
        obtain ⟨d, _⟩ := HLv.out.p1 (by omega)
        have HV := Aside0.mk (And.intro d.fa (And.intro d.fb (And.intro r0 r1)))
        obtain ⟨a0, ha0⟩ : ∃ a0, strOfNums (S 0 j) = a0 := ⟨_, rfl⟩
        obtain ⟨a1, ha1⟩ : ∃ a1, strOfNums (S 1 j) = a1 := ⟨_, rfl⟩
        have hce : ∀ w', Ls b0 K p q p' q' t A B S C w5 w' → w'.cell? ⟨t, j, none⟩ = some (.string a0) ∧ w'.cell? ⟨t, 16 + j, none⟩ = some (.string a0) ∧ w'.cell? ⟨t, 8 + j, none⟩ = some (.string a1) ∧ w'.cell? ⟨t, 24 + j, none⟩ = some (.string a1) ∧ w'.cell? ⟨g, 0, none⟩ = some (.pointer (some ⟨p, 0, none⟩)) ∧ w'.cell? ⟨g, 1, none⟩ = some (.pointer (some ⟨p', 0, none⟩)) := fun w' hL => by
          have x0 := hL.tx.at_ 0 j (by omega) c1
          have x1 := hL.tx.at_ 1 j (by omega) c1
          rw [← e0, ha0] at x0
          rw [← e1, ha1] at x1
          have hg := (hL.nx.kept g HKK.out.1).trans HG5.out
          refine ⟨by simpa using x0.1, by simpa using x0.2.1, by simpa using x1.1, by simpa using x1.2.1, blk_cell hg 0, blk_cell hg 1⟩
        have HCE := Aside0.mk hce
        have HLd := Aside0.mk (HL.out.below (below_drew (Below.refl _ wr)))
        have hs0 : (a0.toList != a0.toList) = false := by simp
        have hs1 : (a1.toList != a1.toList) = false := by simp
        clear e0 e1 r0 r1 d ha0 ha1 hce c1
        go_wp2
        refine start_ (n := 42) (S := fun w' => w'.cell? ⟨t, j, none⟩ = some (.string a0) ∧ w'.cell? ⟨t, 16 + j, none⟩ = some (.string a0) ∧ w'.cell? ⟨t, 8 + j, none⟩ = some (.string a1) ∧ w'.cell? ⟨t, 24 + j, none⟩ = some (.string a1) ∧ w'.cell? ⟨g, 0, none⟩ = some (.pointer (some ⟨p, 0, none⟩)) ∧ w'.cell? ⟨g, 1, none⟩ = some (.pointer (some ⟨p', 0, none⟩))) (ds := []) #[false, false, false, false, false, false, false, false, false, false, false, false, false, false, false, false, false, false, false, false, false, false, false, false, false, false, false, false, false, false, false, false, false, false, false, false, false, false, false, false, false, false] (by kernel_rfl) rfl rfl ⟨(HCE.out _ HLd.out).1, (HCE.out _ HLd.out).2.1, (HCE.out _ HLd.out).2.2.1, (HCE.out _ HLd.out).2.2.2.1, (HCE.out _ HLd.out).2.2.2.2.1, (HCE.out _ HLd.out).2.2.2.2.2⟩ (fun hHeld => ?_)
        refine pure_ (i := 0) (N := some 114) (v := ?_) (a' := ?_) #[true, false, false, false, false, false, false, false, false, false, false, false, false, false, false, false, false, false, false, false, false, false, false, false, false, false, false, false, false, false, false, false, false, false, false, false, false, false, false, false, false, false] rfl rfl (by kernel_rfl) (fun _ _ _ h => h) (Or.inl ⟨by rfl, ?_⟩) ?_ ?_
        rotate_left
        · intro w'
          go_simp
          with_reducible rfl
        rotate_left
        · simp only [Act.put, List.setIfInBounds_toArray, List.set_cons_zero, List.set_cons_succ, i64_w, i32_w]
          rfl
        refine pure_ (i := 1) (N := some 115) (v := ?_) (a' := ?_) #[true, true, false, false, false, false, false, false, false, false, false, false, false, false, false, false, false, false, false, false, false, false, false, false, false, false, false, false, false, false, false, false, false, false, false, false, false, false, false, false, false, false] rfl rfl (by kernel_rfl) (fun _ _ _ h => h) (Or.inl ⟨by rfl, ?_⟩) ?_ ?_
        rotate_left
        · intro w'
          go_simp
          with_reducible rfl
        rotate_left
        · simp only [Act.put, List.setIfInBounds_toArray, List.set_cons_zero, List.set_cons_succ, i64_w, i32_w]
          rfl
        refine pure_ (i := 2) (N := some 116) (v := ?_) (a' := ?_) #[true, true, true, false, false, false, false, false, false, false, false, false, false, false, false, false, false, false, false, false, false, false, false, false, false, false, false, false, false, false, false, false, false, false, false, false, false, false, false, false, false, false] rfl rfl (by kernel_rfl) (fun _ _ _ h => h) (Or.inl ⟨by rfl, ?_⟩) ?_ ?_
        rotate_left
        · intro w'
          go_simp
          with_reducible rfl
        rotate_left
        · simp only [Act.put, List.setIfInBounds_toArray, List.set_cons_zero, List.set_cons_succ, i64_w, i32_w]
          rfl
        refine pure_ (i := 3) (N := some 117) (v := ?_) (a' := ?_) #[true, true, true, true, false, false, false, false, false, false, false, false, false, false, false, false, false, false, false, false, false, false, false, false, false, false, false, false, false, false, false, false, false, false, false, false, false, false, false, false, false, false] rfl rfl (by kernel_rfl) (fun _ _ _ h => h) (Or.inl ⟨by rfl, ?_⟩) ?_ ?_
        rotate_left
        · intro w'
          go_simp
          with_reducible rfl
        rotate_left
        · simp only [Act.put, List.setIfInBounds_toArray, List.set_cons_zero, List.set_cons_succ, i64_w, i32_w]
          rfl
        refine pure_ (i := 5) (N := some 119) (v := ?_) (a' := ?_) #[true, true, true, true, false, true, false, false, false, false, false, false, false, false, false, false, false, false, false, false, false, false, false, false, false, false, false, false, false, false, false, false, false, false, false, false, false, false, false, false, false, false] rfl rfl (by kernel_rfl) (fun _ _ _ h => h) (Or.inl ⟨by rfl, ?_⟩) ?_ ?_
        rotate_left
        · intro w'
          go_simp
          with_reducible rfl
        rotate_left
        · simp only [Act.put, List.setIfInBounds_toArray, List.set_cons_zero, List.set_cons_succ, i64_w, i32_w]
          rfl
        refine pure_ (i := 6) (N := some 120) (v := ?_) (a' := ?_) #[true, true, true, true, false, true, true, false, false, false, false, false, false, false, false, false, false, false, false, false, false, false, false, false, false, false, false, false, false, false, false, false, false, false, false, false, false, false, false, false, false, false] rfl rfl (by kernel_rfl) (fun _ _ _ h => h) (Or.inl ⟨by rfl, ?_⟩) ?_ ?_
        rotate_left
        · intro w'
          go_simp
          with_reducible rfl
        rotate_left
        · simp only [Act.put, List.setIfInBounds_toArray, List.set_cons_zero, List.set_cons_succ, i64_w, i32_w]
          rfl
        refine pure_ (i := 7) (N := some 121) (v := ?_) (a' := ?_) #[true, true, true, true, false, true, true, true, false, false, false, false, false, false, false, false, false, false, false, false, false, false, false, false, false, false, false, false, false, false, false, false, false, false, false, false, false, false, false, false, false, false] rfl rfl (by kernel_rfl) (fun _ _ _ h => h) (Or.inl ⟨by rfl, ?_⟩) ?_ ?_
        rotate_left
        · intro w'
          go_simp
          with_reducible rfl
        rotate_left
        · simp only [Act.put, List.setIfInBounds_toArray, List.set_cons_zero, List.set_cons_succ, i64_w, i32_w]
          rfl
        refine pure_ (i := 8) (N := some 122) (v := ?_) (a' := ?_) #[true, true, true, true, false, true, true, true, true, false, false, false, false, false, false, false, false, false, false, false, false, false, false, false, false, false, false, false, false, false, false, false, false, false, false, false, false, false, false, false, false, false] rfl rfl (by kernel_rfl) (fun _ _ _ h => h) (Or.inl ⟨by rfl, ?_⟩) ?_ ?_
        rotate_left
        · intro w'
          go_simp
          with_reducible rfl
        rotate_left
        · simp only [Act.put, List.setIfInBounds_toArray, List.set_cons_zero, List.set_cons_succ, i64_w, i32_w]
          rfl
        refine take_ (i := 4) (N := some 118) (v := ?_) (a' := ?_) #[true, true, true, true, true, true, true, true, true, false, false, false, false, false, false, false, false, false, false, false, false, false, false, false, false, false, false, false, false, false, false, false, false, false, false, false, false, false, false, false, false, false] rfl rfl (by kernel_rfl) (fun _ _ _ h => h) (Or.inl ⟨by rfl, ?_⟩) hHeld ?_ ?_
        rotate_left
        · rintro w' ⟨s0, s1, s2, s3, s4, s5⟩
          go_simp
          with_reducible rfl
        rotate_left
        · simp only [Act.put, List.setIfInBounds_toArray, List.set_cons_zero, List.set_cons_succ, i64_w, i32_w]
          rfl
        refine take_ (i := 9) (N := some 123) (v := ?_) (a' := ?_) #[true, true, true, true, true, true, true, true, true, true, false, false, false, false, false, false, false, false, false, false, false, false, false, false, false, false, false, false, false, false, false, false, false, false, false, false, false, false, false, false, false, false] rfl rfl (by kernel_rfl) (fun _ _ _ h => h) (Or.inl ⟨by rfl, ?_⟩) hHeld ?_ ?_
        rotate_left
        · rintro w' ⟨s0, s1, s2, s3, s4, s5⟩
          go_simp
          with_reducible rfl
        rotate_left
        · simp only [Act.put, List.setIfInBounds_toArray, List.set_cons_zero, List.set_cons_succ, i64_w, i32_w]
          rfl
        refine pure_ (i := 10) (N := some 124) (v := ?_) (a' := ?_) #[true, true, true, true, true, true, true, true, true, true, true, false, false, false, false, false, false, false, false, false, false, false, false, false, false, false, false, false, false, false, false, false, false, false, false, false, false, false, false, false, false, false] rfl rfl (by kernel_rfl) (fun _ _ _ h => h) (Or.inl ⟨by rfl, ?_⟩) ?_ ?_
        rotate_left
        · intro w'
          go_simp
          with_reducible rfl
        rotate_left
        · simp only [Act.put, List.setIfInBounds_toArray, List.set_cons_zero, List.set_cons_succ, i64_w, i32_w]
          rfl
        refine pure_ (i := 11) (N := some 125) (v := ?_) (a' := ?_) #[true, true, true, true, true, true, true, true, true, true, true, true, false, false, false, false, false, false, false, false, false, false, false, false, false, false, false, false, false, false, false, false, false, false, false, false, false, false, false, false, false, false] rfl rfl (by kernel_rfl) (fun _ _ _ h => h) (Or.inl ⟨by rfl, ?_⟩) ?_ ?_
        rotate_left
        · intro w'
          go_simp
          with_reducible rfl
        rotate_left
        · simp only [Act.put, List.setIfInBounds_toArray, List.set_cons_zero, List.set_cons_succ, i64_w, i32_w]
          rfl
        refine pure_ (i := 12) (N := some 126) (v := ?_) (a' := ?_) #[true, true, true, true, true, true, true, true, true, true, true, true, true, false, false, false, false, false, false, false, false, false, false, false, false, false, false, false, false, false, false, false, false, false, false, false, false, false, false, false, false, false] rfl rfl (by kernel_rfl) (fun _ _ _ h => h) (Or.inl ⟨by rfl, ?_⟩) ?_ ?_
        rotate_left
        · intro w'
          go_simp
          with_reducible rfl
        rotate_left
        · simp only [Act.put, List.setIfInBounds_toArray, List.set_cons_zero, List.set_cons_succ, i64_w, i32_w]
          rfl
        refine pure_ (i := 13) (N := some 127) (v := ?_) (a' := ?_) #[true, true, true, true, true, true, true, true, true, true, true, true, true, true, false, false, false, false, false, false, false, false, false, false, false, false, false, false, false, false, false, false, false, false, false, false, false, false, false, false, false, false] rfl rfl (by kernel_rfl) (fun _ _ _ h => h) (Or.inl ⟨by rfl, ?_⟩) ?_ ?_
        rotate_left
        · intro w'
          go_simp
          with_reducible rfl
        rotate_left
        · simp only [Act.put, List.setIfInBounds_toArray, List.set_cons_zero, List.set_cons_succ, i64_w, i32_w]
          rfl
        refine pure_ (i := 14) (N := some 128) (v := ?_) (a' := ?_) #[true, true, true, true, true, true, true, true, true, true, true, true, true, true, true, false, false, false, false, false, false, false, false, false, false, false, false, false, false, false, false, false, false, false, false, false, false, false, false, false, false, false] rfl rfl (by kernel_rfl) (fun _ _ _ h => h) (Or.inl ⟨by rfl, ?_⟩) ?_ ?_
        rotate_left
        · intro w'
          go_simp
          with_reducible rfl
        rotate_left
        · simp only [Act.put, List.setIfInBounds_toArray, List.set_cons_zero, List.set_cons_succ, i64_w, i32_w]
          rfl
        refine pure_ (i := 15) (N := some 129) (v := ?_) (a' := ?_) #[true, true, true, true, true, true, true, true, true, true, true, true, true, true, true, true, false, false, false, false, false, false, false, false, false, false, false, false, false, false, false, false, false, false, false, false, false, false, false, false, false, false] rfl rfl (by kernel_rfl) (fun _ _ _ h => h) (Or.inl ⟨by rfl, ?_⟩) ?_ ?_
        rotate_left
        · intro w'
          go_simp
          with_reducible rfl
        rotate_left
        · simp only [Act.put, List.setIfInBounds_toArray, List.set_cons_zero, List.set_cons_succ, i64_w, i32_w]
          rfl
        refine pure_ (i := 17) (N := some 131) (v := ?_) (a' := ?_) #[true, true, true, true, true, true, true, true, true, true, true, true, true, true, true, true, false, true, false, false, false, false, false, false, false, false, false, false, false, false, false, false, false, false, false, false, false, false, false, false, false, false] rfl rfl (by kernel_rfl) (fun _ _ _ h => h) (Or.inl ⟨by rfl, ?_⟩) ?_ ?_
        rotate_left
        · intro w'
          go_simp
          with_reducible rfl
        rotate_left
        · simp only [Act.put, List.setIfInBounds_toArray, List.set_cons_zero, List.set_cons_succ, i64_w, i32_w]
          rfl
        refine pure_ (i := 18) (N := some 132) (v := ?_) (a' := ?_) #[true, true, true, true, true, true, true, true, true, true, true, true, true, true, true, true, false, true, true, false, false, false, false, false, false, false, false, false, false, false, false, false, false, false, false, false, false, false, false, false, false, false] rfl rfl (by kernel_rfl) (fun _ _ _ h => h) (Or.inl ⟨by rfl, ?_⟩) ?_ ?_
        rotate_left
        · intro w'
          go_simp
          with_reducible rfl
        rotate_left
        · simp only [Act.put, List.setIfInBounds_toArray, List.set_cons_zero, List.set_cons_succ, i64_w, i32_w]
          rfl
        refine pure_ (i := 19) (N := some 133) (v := ?_) (a' := ?_) #[true, true, true, true, true, true, true, true, true, true, true, true, true, true, true, true, false, true, true, true, false, false, false, false, false, false, false, false, false, false, false, false, false, false, false, false, false, false, false, false, false, false] rfl rfl (by kernel_rfl) (fun _ _ _ h => h) (Or.inl ⟨by rfl, ?_⟩) ?_ ?_
        rotate_left
        · intro w'
          go_simp
          with_reducible rfl
        rotate_left
        · simp only [Act.put, List.setIfInBounds_toArray, List.set_cons_zero, List.set_cons_succ, i64_w, i32_w]
          rfl
        refine pure_ (i := 20) (N := some 134) (v := ?_) (a' := ?_) #[true, true, true, true, true, true, true, true, true, true, true, true, true, true, true, true, false, true, true, true, true, false, false, false, false, false, false, false, false, false, false, false, false, false, false, false, false, false, false, false, false, false] rfl rfl (by kernel_rfl) (fun _ _ _ h => h) (Or.inl ⟨by rfl, ?_⟩) ?_ ?_
        rotate_left
        · intro w'
          go_simp
          with_reducible rfl
        rotate_left
        · simp only [Act.put, List.setIfInBounds_toArray, List.set_cons_zero, List.set_cons_succ, i64_w, i32_w]
          rfl
        refine take_ (i := 16) (N := some 130) (v := ?_) (a' := ?_) #[true, true, true, true, true, true, true, true, true, true, true, true, true, true, true, true, true, true, true, true, true, false, false, false, false, false, false, false, false, false, false, false, false, false, false, false, false, false, false, false, false, false] rfl rfl (by kernel_rfl) (fun _ _ _ h => h) (Or.inl ⟨by rfl, ?_⟩) hHeld ?_ ?_
        rotate_left
        · rintro w' ⟨s0, s1, s2, s3, s4, s5⟩
          go_simp
          with_reducible rfl
        rotate_left
        · simp only [Act.put, List.setIfInBounds_toArray, List.set_cons_zero, List.set_cons_succ, i64_w, i32_w]
          rfl
        refine take_ (i := 21) (N := some 135) (v := ?_) (a' := ?_) #[true, true, true, true, true, true, true, true, true, true, true, true, true, true, true, true, true, true, true, true, true, true, false, false, false, false, false, false, false, false, false, false, false, false, false, false, false, false, false, false, false, false] rfl rfl (by kernel_rfl) (fun _ _ _ h => h) (Or.inl ⟨by rfl, ?_⟩) hHeld ?_ ?_
        rotate_left
        · rintro w' ⟨s0, s1, s2, s3, s4, s5⟩
          go_simp
          with_reducible rfl
        rotate_left
        · simp only [Act.put, List.setIfInBounds_toArray, List.set_cons_zero, List.set_cons_succ, i64_w, i32_w]
          rfl
        refine pure_ (i := 22) (N := some 136) (v := ?_) (a' := ?_) #[true, true, true, true, true, true, true, true, true, true, true, true, true, true, true, true, true, true, true, true, true, true, true, false, false, false, false, false, false, false, false, false, false, false, false, false, false, false, false, false, false, false] rfl rfl (by kernel_rfl) (fun _ _ _ h => h) (Or.inl ⟨by rfl, ?_⟩) ?_ ?_
        rotate_left
        · intro w'
          go_simp
          with_reducible rfl
        rotate_left
        · simp only [Act.put, List.setIfInBounds_toArray, List.set_cons_zero, List.set_cons_succ, i64_w, i32_w]
          rfl
        refine pure_ (i := 23) (N := some 137) (v := ?_) (a' := ?_) #[true, true, true, true, true, true, true, true, true, true, true, true, true, true, true, true, true, true, true, true, true, true, true, true, false, false, false, false, false, false, false, false, false, false, false, false, false, false, false, false, false, false] rfl rfl (by kernel_rfl) (fun _ _ _ h => h) (Or.inl ⟨by rfl, ?_⟩) ?_ ?_
        rotate_left
        · intro w'
          go_simp
          with_reducible rfl
        rotate_left
        · simp only [Act.put, List.setIfInBounds_toArray, List.set_cons_zero, List.set_cons_succ, i64_w, i32_w]
          rfl
        refine pure_ (i := 24) (N := some 138) (v := ?_) (a' := ?_) #[true, true, true, true, true, true, true, true, true, true, true, true, true, true, true, true, true, true, true, true, true, true, true, true, true, false, false, false, false, false, false, false, false, false, false, false, false, false, false, false, false, false] rfl rfl (by kernel_rfl) (fun _ _ _ h => h) (Or.inl ⟨by rfl, ?_⟩) ?_ ?_
        rotate_left
        · intro w'
          go_simp
          with_reducible rfl
        rotate_left
        · simp only [Act.put, List.setIfInBounds_toArray, List.set_cons_zero, List.set_cons_succ, i64_w, i32_w]
          rfl
        refine pure_ (i := 25) (N := some 139) (v := ?_) (a' := ?_) #[true, true, true, true, true, true, true, true, true, true, true, true, true, true, true, true, true, true, true, true, true, true, true, true, true, true, false, false, false, false, false, false, false, false, false, false, false, false, false, false, false, false] rfl rfl (by kernel_rfl) (fun _ _ _ h => h) (Or.inl ⟨by rfl, ?_⟩) ?_ ?_
        rotate_left
        · intro w'
          go_simp
          with_reducible rfl
        rotate_left
        · simp only [Act.put, List.setIfInBounds_toArray, List.set_cons_zero, List.set_cons_succ, i64_w, i32_w]
          rfl
        refine pure_ (i := 26) (N := some 140) (v := ?_) (a' := ?_) #[true, true, true, true, true, true, true, true, true, true, true, true, true, true, true, true, true, true, true, true, true, true, true, true, true, true, true, false, false, false, false, false, false, false, false, false, false, false, false, false, false, false] rfl rfl (by kernel_rfl) (fun _ _ _ h => h) (Or.inl ⟨by rfl, ?_⟩) ?_ ?_
        rotate_left
        · intro w'
          go_simp
          with_reducible rfl
        rotate_left
        · simp only [Act.put, List.setIfInBounds_toArray, List.set_cons_zero, List.set_cons_succ, i64_w, i32_w]
          rfl
        refine pure_ (i := 28) (N := some 142) (v := ?_) (a' := ?_) #[true, true, true, true, true, true, true, true, true, true, true, true, true, true, true, true, true, true, true, true, true, true, true, true, true, true, true, false, true, false, false, false, false, false, false, false, false, false, false, false, false, false] rfl rfl (by kernel_rfl) (fun _ _ _ h => h) (Or.inl ⟨by rfl, ?_⟩) ?_ ?_
        rotate_left
        · intro w'
          go_simp
          with_reducible rfl
        rotate_left
        · simp only [Act.put, List.setIfInBounds_toArray, List.set_cons_zero, List.set_cons_succ, i64_w, i32_w]
          rfl
        refine pure_ (i := 30) (N := some 144) (v := ?_) (a' := ?_) #[true, true, true, true, true, true, true, true, true, true, true, true, true, true, true, true, true, true, true, true, true, true, true, true, true, true, true, false, true, false, true, false, false, false, false, false, false, false, false, false, false, false] rfl rfl (by kernel_rfl) (fun _ _ _ h => h) (Or.inl ⟨by rfl, ?_⟩) ?_ ?_
        rotate_left
        · intro w'
          go_simp
          with_reducible rfl
        rotate_left
        · simp only [Act.put, List.setIfInBounds_toArray, List.set_cons_zero, List.set_cons_succ, i64_w, i32_w]
          rfl
        refine take_ (i := 27) (N := some 141) (v := ?_) (a' := ?_) #[true, true, true, true, true, true, true, true, true, true, true, true, true, true, true, true, true, true, true, true, true, true, true, true, true, true, true, true, true, false, true, false, false, false, false, false, false, false, false, false, false, false] rfl rfl (by kernel_rfl) (fun _ _ _ h => h) (Or.inl ⟨by rfl, ?_⟩) hHeld ?_ ?_
        rotate_left
        · rintro w' ⟨s0, s1, s2, s3, s4, s5⟩
          go_simp
          with_reducible rfl
        rotate_left
        · simp only [Act.put, List.setIfInBounds_toArray, List.set_cons_zero, List.set_cons_succ, i64_w, i32_w]
          rfl
        refine one_ (i := 29) (N := some 143) #[true, true, true, true, true, true, true, true, true, true, true, true, true, true, true, true, true, true, true, true, true, true, true, true, true, true, true, true, true, true, true, false, false, false, false, false, false, false, false, false, false, false] rfl rfl (by kernel_rfl) (by decide) (fun K hK => ?_)
        have HRa := Aside0.mk (ls_RoomA j C1.out win HV.out.1 HV.out.2.2.1 wr.drew HLd.out)
        refine goes_ Tryd.func19 (by kernel_rfl) rfl #[.pointer (some ⟨p, 0, none⟩), .int .i64 j] (by rfl) rfl rfl (by simp only [List.map_toArray, List.map_cons, List.map_nil]; rfl) ?_
        with_reducible refine (HRa.out).mono ?_
        rintro e w6 ⟨rfl, hL6⟩
        refine ⟨_, rfl, ?_⟩
        have HL6 := Aside0.mk hL6
        clear hL6 HRa
        refine hK.out _ _ ⟨(HCE.out _ HL6.out).1, (HCE.out _ HL6.out).2.1, (HCE.out _ HL6.out).2.2.1, (HCE.out _ HL6.out).2.2.2.1, (HCE.out _ HL6.out).2.2.2.2.1, (HCE.out _ HL6.out).2.2.2.2.2⟩ (fun hHeld => ?_)
        clear hK K
        refine norm_ (a' := ?_) ?_ ?_
        rotate_left
        · show Act.put _ (some 143) _ = _
          simp only [Act.put, List.setIfInBounds_toArray, List.set_cons_zero, List.set_cons_succ, i64_w, i32_w]
          rfl
        refine pure_ (i := 31) (N := some 145) (v := ?_) (a' := ?_) #[true, true, true, true, true, true, true, true, true, true, true, true, true, true, true, true, true, true, true, true, true, true, true, true, true, true, true, true, true, true, true, true, false, false, false, false, false, false, false, false, false, false] rfl rfl (by kernel_rfl) (fun _ _ _ h => h) (Or.inl ⟨by rfl, ?_⟩) ?_ ?_
        rotate_left
        · intro w'
          go_simp
          with_reducible rfl
        rotate_left
        · simp only [Act.put, List.setIfInBounds_toArray, List.set_cons_zero, List.set_cons_succ, i64_w, i32_w]
          rfl
        refine pure_ (i := 32) (N := some 146) (v := ?_) (a' := ?_) #[true, true, true, true, true, true, true, true, true, true, true, true, true, true, true, true, true, true, true, true, true, true, true, true, true, true, true, true, true, true, true, true, true, false, false, false, false, false, false, false, false, false] rfl rfl (by kernel_rfl) (fun _ _ _ h => h) (Or.inl ⟨by rfl, ?_⟩) ?_ ?_
        rotate_left
        · intro w'
          go_simp
          with_reducible rfl
        rotate_left
        · simp only [Act.put, List.setIfInBounds_toArray, List.set_cons_zero, List.set_cons_succ, i64_w, i32_w]
          rfl
        refine pure_ (i := 33) (N := some 147) (v := ?_) (a' := ?_) #[true, true, true, true, true, true, true, true, true, true, true, true, true, true, true, true, true, true, true, true, true, true, true, true, true, true, true, true, true, true, true, true, true, true, false, false, false, false, false, false, false, false] rfl rfl (by kernel_rfl) (fun _ _ _ h => h) (Or.inl ⟨by rfl, ?_⟩) ?_ ?_
        rotate_left
        · intro w'
          go_simp
          with_reducible rfl
        rotate_left
        · simp only [Act.put, List.setIfInBounds_toArray, List.set_cons_zero, List.set_cons_succ, i64_w, i32_w]
          rfl
        refine pure_ (i := 34) (N := some 148) (v := ?_) (a' := ?_) #[true, true, true, true, true, true, true, true, true, true, true, true, true, true, true, true, true, true, true, true, true, true, true, true, true, true, true, true, true, true, true, true, true, true, true, false, false, false, false, false, false, false] rfl rfl (by kernel_rfl) (fun _ _ _ h => h) (Or.inl ⟨by rfl, ?_⟩) ?_ ?_
        rotate_left
        · intro w'
          go_simp
          with_reducible rfl
        rotate_left
        · simp only [Act.put, List.setIfInBounds_toArray, List.set_cons_zero, List.set_cons_succ, i64_w, i32_w]
          rfl
        refine pure_ (i := 35) (N := some 149) (v := ?_) (a' := ?_) #[true, true, true, true, true, true, true, true, true, true, true, true, true, true, true, true, true, true, true, true, true, true, true, true, true, true, true, true, true, true, true, true, true, true, true, true, false, false, false, false, false, false] rfl rfl (by kernel_rfl) (fun _ _ _ h => h) (Or.inl ⟨by rfl, ?_⟩) ?_ ?_
        rotate_left
        · intro w'
          go_simp
          with_reducible rfl
        rotate_left
        · simp only [Act.put, List.setIfInBounds_toArray, List.set_cons_zero, List.set_cons_succ, i64_w, i32_w]
          rfl
        refine pure_ (i := 37) (N := some 151) (v := ?_) (a' := ?_) #[true, true, true, true, true, true, true, true, true, true, true, true, true, true, true, true, true, true, true, true, true, true, true, true, true, true, true, true, true, true, true, true, true, true, true, true, false, true, false, false, false, false] rfl rfl (by kernel_rfl) (fun _ _ _ h => h) (Or.inl ⟨by rfl, ?_⟩) ?_ ?_
        rotate_left
        · intro w'
          go_simp
          with_reducible rfl
        rotate_left
        · simp only [Act.put, List.setIfInBounds_toArray, List.set_cons_zero, List.set_cons_succ, i64_w, i32_w]
          rfl
        refine pure_ (i := 39) (N := some 153) (v := ?_) (a' := ?_) #[true, true, true, true, true, true, true, true, true, true, true, true, true, true, true, true, true, true, true, true, true, true, true, true, true, true, true, true, true, true, true, true, true, true, true, true, false, true, false, true, false, false] rfl rfl (by kernel_rfl) (fun _ _ _ h => h) (Or.inl ⟨by rfl, ?_⟩) ?_ ?_
        rotate_left
        · intro w'
          go_simp
          with_reducible rfl
        rotate_left
        · simp only [Act.put, List.setIfInBounds_toArray, List.set_cons_zero, List.set_cons_succ, i64_w, i32_w]
          rfl
        refine take_ (i := 36) (N := some 150) (v := ?_) (a' := ?_) #[true, true, true, true, true, true, true, true, true, true, true, true, true, true, true, true, true, true, true, true, true, true, true, true, true, true, true, true, true, true, true, true, true, true, true, true, true, true, false, true, false, false] rfl rfl (by kernel_rfl) (fun _ _ _ h => h) (Or.inl ⟨by rfl, ?_⟩) hHeld ?_ ?_
        rotate_left
        · rintro w' ⟨s0, s1, s2, s3, s4, s5⟩
          go_simp
          with_reducible rfl
        rotate_left
        · simp only [Act.put, List.setIfInBounds_toArray, List.set_cons_zero, List.set_cons_succ, i64_w, i32_w]
          rfl
        refine one_ (i := 38) (N := some 152) #[true, true, true, true, true, true, true, true, true, true, true, true, true, true, true, true, true, true, true, true, true, true, true, true, true, true, true, true, true, true, true, true, true, true, true, true, true, true, true, true, false, false] rfl rfl (by kernel_rfl) (by decide) (fun K hK => ?_)
        have HRb := Aside0.mk (ls_RoomB j C1.out win HV.out.2.1 HV.out.2.2.2 w6 HL6.out)
        refine goes_ Tryd.func19 (by kernel_rfl) rfl #[.pointer (some ⟨p', 0, none⟩), .int .i64 j] (by rfl) rfl rfl (by simp only [List.map_toArray, List.map_cons, List.map_nil]; rfl) ?_
        with_reducible refine (HRb.out).mono ?_
        rintro e w7 ⟨rfl, hL7⟩
        refine ⟨_, rfl, ?_⟩
        have HL7 := Aside0.mk hL7
        clear hL7 HRb
        refine hK.out _ _ ⟨(HCE.out _ HL7.out).1, (HCE.out _ HL7.out).2.1, (HCE.out _ HL7.out).2.2.1, (HCE.out _ HL7.out).2.2.2.1, (HCE.out _ HL7.out).2.2.2.2.1, (HCE.out _ HL7.out).2.2.2.2.2⟩ (fun hHeld => ?_)
        clear hK K
        refine norm_ (a' := ?_) ?_ ?_
        rotate_left
        · show Act.put _ (some 152) _ = _
          simp only [Act.put, List.setIfInBounds_toArray, List.set_cons_zero, List.set_cons_succ, i64_w, i32_w]
          rfl
        refine pure_ (i := 40) (N := some 154) (v := ?_) (a' := ?_) #[true, true, true, true, true, true, true, true, true, true, true, true, true, true, true, true, true, true, true, true, true, true, true, true, true, true, true, true, true, true, true, true, true, true, true, true, true, true, true, true, true, false] rfl rfl (by kernel_rfl) (fun _ _ _ h => h) (Or.inl ⟨by rfl, ?_⟩) ?_ ?_
        rotate_left
        · intro w'
          go_simp
          with_reducible rfl
        rotate_left
        · simp only [Act.put, List.setIfInBounds_toArray, List.set_cons_zero, List.set_cons_succ, i64_w, i32_w]
          rfl
        refine pure_ (i := 41) (N := some 155) (v := ?_) (a' := ?_) #[true, true, true, true, true, true, true, true, true, true, true, true, true, true, true, true, true, true, true, true, true, true, true, true, true, true, true, true, true, true, true, true, true, true, true, true, true, true, true, true, true, true] rfl rfl (by kernel_rfl) (fun _ _ _ h => h) (Or.inl ⟨by rfl, ?_⟩) ?_ ?_
        rotate_left
        · intro w'
          go_simp
          with_reducible rfl
        rotate_left
        · simp only [Act.put, List.setIfInBounds_toArray, List.set_cons_zero, List.set_cons_succ, i64_w, i32_w]
          rfl
        refine done_ (by kernel_rfl) ?_
        go_wp2
        go_roundg (8 - (j + 1))
        case measure => have := C1.out; omega
        case rel => exact ⟨j + 1, rfl, by first | rfl | rw [hadd], ⟨by have := C1.out; omega⟩, HL7⟩
      · have k1 : decide ((j : Int) < 8) = false := decide_eq_false (by omega)
        clear c1
        go_wp2
        go_meet
        exact HL
  clear HL0
  have HL := hcut
  have HA := Aside0.mk (fun w' (hb : Below w.heap.size w w') => law_awake w' (HG.out.past hb H0.out) (Nat.lt_of_lt_of_le H0.out hb.size))
  obtain ⟨d, _⟩ := HLv.out.p1 (by omega)
  obtain ⟨vs, vs', hT⟩ := HL.out.two
  have hea := d.ea
  have heb := d.eb
  have hE1 := mux_Err.at_ wc hT.a
  have hE2 := mux_Err.at_ wc hT.b
  rw [hea] at hE1
  rw [heb] at hE2
  have HE1 := Aside0.mk hE1
  have HE2 := Aside0.mk hE2
  have hg := (HL.out.nx.kept g HKK.out.1).trans HG5.out
  have e0 := blk_cell hg 0
  have e1 := blk_cell hg 1
  have HBc := Aside0.mk (HB5.out.trans (HL.out.nx.below.mono HB0.out))
  clear d hT hea heb hE1 hE2 hg hcut
  go_wp2_with fail
  refine HE1.out.mono ?_
  rintro e W ⟨rfl, rfl⟩
  go_wp2_with fail
  refine HE2.out.mono ?_
  rintro e wd ⟨rfl, rfl⟩
  go_wp2_with fail
  refine (HA.out _ HBc.out).mono ?_
  rintro e w9 ⟨rfl, hb9⟩
  have HB9 := Aside0.mk (HBc.out.trans (hb9.mono HBc.out.size))
  clear hb9
  go_wp2
  go_ret
  exact ⟨rfl, HB9.out⟩
open Go.Proofs.YthehhbfiaaadgaaDoor.Num Go.Proofs.YthehhbfiaaadgaaDoor.Pure
def remoralaw31_MuxSent.f (a0 : Int) (l1 : List S34) : Option Bool := some true
def remoralaw31_MuxSent.Pure : Prop := True
set_option maxHeartbeats 8000000 in
set_option maxRecDepth 100000 in
theorem sent_off (win : Int) (D : Option Addr) (cl : Nat) (l : List S34) (w : World) (hG : GT w) (hC : Kd.C k34 w D l.length l) (hcl : l.length ≤ cl) (hoff : lightB l = false ∨ win < 1 ∨ win > 3000) :
    Calls Tryd.prog 6 #[.int .i64 win, .slice D l.length cl] w fun e w' => e = .returned (.bool true) ∧ Below w.heap.size w w' := by
  obtain ⟨r, hr⟩ : ∃ r, lightB l = r := ⟨_, rfl⟩
  have hLi := remoralaw31_light.calls 200 D cl l r w hC hcl (by rw [light_f, hr])
  have HLi := Aside0.mk hLi
  have HA := Aside0.mk (fun w' (hb : Below w.heap.size w w') => law_awake w' (hG.past hb (gt_pos hG)) (Nat.lt_of_lt_of_le (gt_pos hG) hb.size))
  rw [hr] at hoff
  clear hG hC hcl hLi hr
  generalize l.length = m0 at *
  cases r with
  | false =>
    clear hoff
    go_enter Tryd.func6, Tryd.ntmps6
    go_wp2_with fail
    refine HLi.out.mono ?_
    rintro e w1 ⟨rfl, hb1⟩
    have HB1 := Aside0.mk hb1
    clear hb1
    go_wp2_with fail
    refine (HA.out w1 HB1.out).mono ?_
    rintro e w2 ⟨rfl, hb2⟩
    have HB2 := Aside0.mk (HB1.out.trans (hb2.mono HB1.out.size))
    clear hb2
    go_wp2
    go_ret
    exact ⟨rfl, HB2.out⟩
  | true =>
    by_cases h1 : win < 1
    · have k1 : decide (win < 1) = true := decide_eq_true h1
      clear hoff h1
      go_enter Tryd.func6, Tryd.ntmps6
      go_wp2_with fail
      refine HLi.out.mono ?_
      rintro e w1 ⟨rfl, hb1⟩
      have HB1 := Aside0.mk hb1
      clear hb1
      go_wp2_with fail
      refine (HA.out w1 HB1.out).mono ?_
      rintro e w2 ⟨rfl, hb2⟩
      have HB2 := Aside0.mk (HB1.out.trans (hb2.mono HB1.out.size))
      clear hb2
      go_wp2
      go_ret
      exact ⟨rfl, HB2.out⟩
    · have h2 : win > 3000 := by
        rcases hoff with h | h | h
        · cases h
        · exact absurd h h1
        · exact h
      have k1 : decide (win < 1) = false := decide_eq_false h1
      have k2 : decide (win > 3000) = true := decide_eq_true h2
      have k2' : decide (3000 < win) = true := k2
      clear hoff h1 h2
      go_enter Tryd.func6, Tryd.ntmps6
      go_wp2_with fail
      refine HLi.out.mono ?_
      rintro e w1 ⟨rfl, hb1⟩
      have HB1 := Aside0.mk hb1
      clear hb1
      go_wp2_with fail
      refine (HA.out w1 HB1.out).mono ?_
      rintro e w2 ⟨rfl, hb2⟩
      have HB2 := Aside0.mk (HB1.out.trans (hb2.mono HB1.out.size))
      clear hb2
      go_wp2
      go_ret
      exact ⟨rfl, HB2.out⟩
theorem remoralaw31_MuxSent.walk (P : remoralaw31_MuxSent.Pure) (a0 : Int) (a1 : Option Addr) (cap1 : Nat) (l1 : List S34) (w : World) (hG : GT w) (w0 : (Lit.int .i64 a0).wf = true) (hr1 : Kd.C k34 w a1 l1.length l1) (hc1 : l1.length ≤ cap1) (hm1 : l1.length ≤ maxLen) (y1 : l1.length * (Tryd.prog).bytesOf 34 ≤ 140737488351232) (hw1 : ∀ x ∈ l1, (((Lit.int .i64 x.f0).wf = true) ∧ True ∧ ((Lit.int .i64 x.f2).wf = true) ∧ ((Lit.int .i64 x.f3).wf = true) ∧ (x.f4.length ≤ maxLen ∧ x.f4.length * (Tryd.prog).bytesOf 5 ≤ 140737488351232 ∧ ∀ y ∈ x.f4, (Lit.int .u8 y).wf = true))) :
    Calls Tryd.prog 6 #[.int .i64 a0, .slice a1 l1.length cap1] w fun e w' => e = .returned (.bool true) ∧ Below w.heap.size w w' := by
  by_cases hoff : lightB l1 = false ∨ a0 < 1 ∨ a0 > 3000
  · exact sent_off a0 a1 cap1 l1 w hG hr1 hc1 hoff
  · obtain ⟨win, rfl⟩ : ∃ win : Nat, a0 = win := ⟨a0.toNat, by omega⟩
    have hlt : lightB l1 = true := by
      cases h : lightB l1
      · exact absurd (.inl h) hoff
      · rfl
    exact sent_main win (by omega) (by omega) a1 cap1 l1 w hG hlt hr1 hc1 (fun x hx => byt_of (hw1 x hx).2.2.2.2.2.2)
end Go.Proofs.YthehhbfiaaadgaaDoor.P
