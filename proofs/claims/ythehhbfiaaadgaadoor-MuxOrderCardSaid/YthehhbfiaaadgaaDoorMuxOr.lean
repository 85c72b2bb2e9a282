/- Chapter 31, MuxOr. -/
import Derived.Test.YthehhbfiaaadgaaDoorMuxSt
import Derived.Test.YthehhbfiaaadgaaDoorPx0
import Derived.Deep.CutBlock
namespace Go.Proofs.YthehhbfiaaadgaaDoor.P
open Go.RowKit Go.Proofs.YthehhbfiaaadgaaDoorW.PrintWords Go.Proofs.YthehhbfiaaadgaaDoorW.PrintLast Go.Proofs.YthehhbfiaaadgaaDoorW.PrintMore
attribute [local go_sem] max2_int min2_int max_two min_two max_three min_three max_four min_four
set_option linter.unusedVariables false
set_option linter.unusedSimpArgs false
open Go.Proofs.YthehhbfiaaadgaaDoor.Num Go.Proofs.YthehhbfiaaadgaaDoor.Pure
theorem Mx.fill_fit (n : Int) : ∀ (fu : Nat) (M : Mx), M.Fit → (Mx.fill n fu M).Fit
  | 0, M, h => h
  | fu + 1, M, h => by
    rw [Mx.fill_eq]
    split
    · cases hn : M.next with
      | none => exact h
      | some y =>
        obtain ⟨b, M1⟩ := y
        obtain ⟨_, _, _, _, _, h2⟩ := Mx.next_fr h hn
        exact Mx.fill_fit n fu _ h2
    · exact h
theorem Mx.outs_fit {M : Mx} (h : M.Fit) (n : Int) : (M.outs n).Fit := by
  have h1 := Mx.fill_fit n (M.mu + 1) M h
  exact ⟨h1.win, h1.way, h1.owed, h1.back, h1.last, h1.sent, h1.held, h1.out.drop _, h1.L, h1.x⟩
theorem Mx.outs_pot {M : Mx} (h : M.Fit) (n : Int) : (M.outs n).pot ≤ M.pot := by
  have h1 := (Mx.fill_good n M.pot (M.mu + 1) M ⟨h.last, h.sent, h.out, Nat.le_refl _⟩).1.pot
  refine Nat.le_trans ?_ h1
  unfold Mx.pot Mx.outs
  dsimp only
  rw [List.length_drop]
  omega
theorem Mx.send_pot (M : Mx) (ch : Nat) (hch : ch < 8) (N : List Int) : (M.send ch N).pot = M.pot + 8 * N.length := by
  have h := sum8_upd (fun i => 8 * (M.sent i).length + if M.back i > 0 then 15 else 0) (fun i => 8 * ((M.send ch N).sent i).length + if (M.send ch N).back i > 0 then 15 else 0) ch hch (fun j hj => by
    show 8 * (upd M.sent ch (M.sent ch ++ N) j).length + _ = _
    unfold upd
    rw [if_neg hj]
    rfl)
  have e : (8 * ((M.send ch N).sent ch).length + if (M.send ch N).back ch > 0 then 15 else 0) = (8 * (M.sent ch).length + if M.back ch > 0 then 15 else 0) + 8 * N.length := by
    show (8 * (upd M.sent ch (M.sent ch ++ N) ch).length + if M.back ch > 0 then 15 else 0) = _
    unfold upd
    rw [if_pos rfl, List.length_append]
    omega
  unfold Mx.pot
  have ho : (M.send ch N).out = M.out := rfl
  rw [ho]
  omega
theorem Mx.recv_pot (M : Mx) (ch : Nat) (hch : ch < 8) : (M.recv ch).pot ≤ M.pot + 15 := by
  have h := sum8_upd (fun i => 8 * (M.sent i).length + if M.back i > 0 then 15 else 0) (fun i => 8 * ((M.recv ch).sent i).length + if (M.recv ch).back i > 0 then 15 else 0) ch hch (fun j hj => by
    show 8 * (M.sent j).length + (if upd M.back ch _ j > 0 then 15 else 0) = _
    unfold upd
    rw [if_neg hj])
  have e : (8 * ((M.recv ch).sent ch).length + if (M.recv ch).back ch > 0 then 15 else 0) ≤ 8 * (M.sent ch).length + 15 := by
    show (8 * (M.sent ch).length + if _ > 0 then 15 else 0) ≤ _
    split <;> omega
  unfold Mx.pot
  have ho : (M.recv ch).out = M.out := rfl
  rw [ho]
  omega
theorem Duo.pot {A B : Mx} {f g : List Fr} {o o' : List Int} {SA CB SB CA : Nat → List Int} (h : Duo A B f g o o' SA CB SB CA) : A.pot ≤ 248 * A.win.toNat + 120 := by
  have h1 := h.len
  have h2 := congrArg List.length h.ab.bytes
  rw [List.length_append, List.length_append] at h2
  have h3 : sum8 (fun i => 8 * (A.sent i).length + if A.back i > 0 then 15 else 0) ≤ sum8 (fun _ => 8 * A.win.toNat + 15) := sum8_mono (fun i hi => by have := h.bounds i hi; split <;> omega)
  have h4 : sum8 (fun _ => 8 * A.win.toNat + 15) = 64 * A.win.toNat + 120 := by simp only [sum8]; omega
  have h5 := h.bounds 0 (by omega)
  unfold Mx.pot
  omega
theorem Mx.sent_pot (M : Mx) (c : Nat) (hc : c < 8) : (M.sent c).length ≤ M.pot := by
  have h := sum8_le (f := fun i => 8 * (M.sent i).length + if M.back i > 0 then 15 else 0) c hc
  unfold Mx.pot
  omega
/-- What holds when bytes that went out were lost. -/
structure SO (n : Nat) (A B : Mx) (S C : Nat → Nat → List Int) : Prop where
  fa : A.Fit
  fb : B.Fit
  ea : A.e = 0
  eb : B.e = 0
  pa : A.pot ≤ 1000000 + 10 * n
  pb : B.pot ≤ 1000000 + 10 * n
  small : ∀ i, i < 2 → ∀ ch, ch < 8 → (S i ch).length ≤ n
  pre0 : ∀ ch, ch < 8 → ∃ r, S 0 ch = C 0 ch ++ (B.held ch ++ r)
  pre1 : ∀ ch, ch < 8 → ∃ r, S 1 ch = C 1 ch ++ (A.held ch ++ r)
theorem SI.so {win n : Nat} {A B : Mx} {S C : Nat → Nat → List Int} (h : SI win n A B S C) (hw : win ≤ 3000) : SO n A B S C := by
  obtain ⟨f, g, hd⟩ := h.duo
  have h1 := hd.pot
  have h2 := hd.swap.pot
  have h3 := h.hwin
  have h4 := hd.win
  exact ⟨hd.fa, hd.fb, hd.ea, hd.eb, by omega, by omega, h.small, fun ch hch => ⟨_, hd.ab.text ch hch⟩, fun ch hch => ⟨_, hd.ba.text ch hch⟩⟩
theorem SO.flip {n : Nat} {A B : Mx} {S C : Nat → Nat → List Int} (h : SO n A B S C) : SO n B A (flipS S) (flipS C) := by
  refine ⟨h.fb, h.fa, h.eb, h.ea, h.pb, h.pa, fun i hi ch hch => ?_, h.pre1, h.pre0⟩
  unfold flipS
  split
  · exact h.small 1 (by omega) ch hch
  · exact h.small 0 (by omega) ch hch
theorem SO.unflip {n : Nat} {A B : Mx} {S C S' C' : Nat → Nat → List Int} (h : SO n B A S' C') (e0 : S 0 = S' 1) (e1 : S 1 = S' 0) (e2 : C 0 = C' 1) (e3 : C 1 = C' 0) : SO n A B S C := by
  refine ⟨h.fb, h.fa, h.eb, h.ea, h.pb, h.pa, fun i hi ch hch => ?_, by rw [e0, e2]; exact h.pre1, by rw [e1, e3]; exact h.pre0⟩
  have : i = 0 ∨ i = 1 := by omega
  rcases this with rfl | rfl
  · rw [e0]; exact h.small 1 (by omega) ch hch
  · rw [e1]; exact h.small 0 (by omega) ch hch
theorem SO.more {n m : Nat} {A B : Mx} {S C : Nat → Nat → List Int} (h : SO n A B S C) (hm : n ≤ m) : SO m A B S C := ⟨h.fa, h.fb, h.ea, h.eb, by have := h.pa; omega, by have := h.pb; omega, fun i hi c hc => Nat.le_trans (h.small i hi c hc) hm, h.pre0, h.pre1⟩
theorem SO.send {n : Nat} {A B : Mx} {S C : Nat → Nat → List Int} (h : SO n A B S C) (ch : Nat) (hch : ch < 8) (N : List Int) (hN : Byt N) (hl : N.length ≤ 2000) (hf : (N.length : Int) ≤ A.win - A.way ch) : SO (n + 2000) (A.send ch N) B (upd2 S 0 ch (S 0 ch ++ N)) C := by
  have hp := A.send_pot ch hch N
  refine ⟨Mx.send_fit h.fa ch hch N hN hf, h.fb, h.ea, h.eb, by have := h.pa; omega, by have := h.pb; omega, fun i hi c hc => ?_, fun c hc => ?_, fun c hc => ?_⟩
  · unfold upd2
    have := h.small i hi c hc
    split
    · have := h.small 0 (by omega) ch hch
      rw [List.length_append]; omega
    · omega
  · obtain ⟨r, hr⟩ := h.pre0 c hc
    rw [upd2_same]
    unfold upd
    split
    · rename_i e
      rw [← e, hr]
      exact ⟨r ++ N, by simp only [List.append_assoc]⟩
    · exact ⟨r, hr⟩
  · obtain ⟨r, hr⟩ := h.pre1 c hc
    rw [upd2_other _ _ _ _ _ (by omega)]
    exact ⟨r, hr⟩
theorem SO.out {n : Nat} {A B : Mx} {S C : Nat → Nat → List Int} (h : SO n A B S C) (nv : Int) : SO n (A.outs nv) B S C := by
  obtain ⟨_, _, s1, _, _, s2⟩ := Mx.outs_same h.fa nv
  exact ⟨Mx.outs_fit h.fa nv, h.fb, s2.trans h.ea, h.eb, Nat.le_trans (Mx.outs_pot h.fa nv) h.pa, h.pb, h.small, h.pre0, by rw [s1]; exact h.pre1⟩
theorem SO.recv {n : Nat} {A B : Mx} {S C : Nat → Nat → List Int} (h : SO n A B S C) (ch : Nat) (hch : ch < 8) : SO (n + 2000) (A.recv ch) B S (upd2 C 1 ch (C 1 ch ++ A.held ch)) := by
  have hp := A.recv_pot ch hch
  refine ⟨Mx.recv_fit h.fa ch hch, h.fb, h.ea, h.eb, by have := h.pa; omega, by have := h.pb; omega, fun i hi c hc => Nat.le_trans (h.small i hi c hc) (by omega), fun c hc => ?_, fun c hc => ?_⟩
  · rw [upd2_other _ _ _ _ _ (by omega)]; exact h.pre0 c hc
  · obtain ⟨r, hr⟩ := h.pre1 c hc
    rw [upd2_same]
    show ∃ r, S 1 c = upd (C 1) ch (C 1 ch ++ A.held ch) c ++ (upd A.held ch [] c ++ r)
    unfold upd
    split
    · rename_i e
      rw [← e, hr]
      exact ⟨r, by simp only [List.append_assoc, List.nil_append]⟩
    · exact ⟨r, hr⟩
theorem SO.came {n : Nat} {A B : Mx} {S C : Nat → Nat → List Int} (h : SO n A B S C) (ch : Nat) (hch : ch < 8) : (C 1 ch).length + (A.held ch).length ≤ n := by
  obtain ⟨r, hr⟩ := h.pre1 ch hch
  have h1 := congrArg List.length hr
  simp only [List.length_append] at h1
  have := h.small 1 (by omega) ch hch
  omega
theorem SO.good {n : Nat} {A B : Mx} {S C : Nat → Nat → List Int} (h : SO n A B S C) (hn : n ≤ 200000) : A.Good 20000000 := ⟨h.fa.last, h.fa.sent, h.fa.out, by have := h.pa; omega⟩
/-- What has come is the beginning of what was sent. -/
theorem SO.pre {n : Nat} {A B : Mx} {S C : Nat → Nat → List Int} (h : SO n A B S C) (i : Nat) (hi : i < 2) (ch : Nat) (hch : ch < 8) : ∃ r, S i ch = C i ch ++ r := by
  have : i = 0 ∨ i = 1 := by omega
  rcases this with rfl | rfl
  · exact ⟨_, (h.pre0 ch hch).choose_spec⟩
  · exact ⟨_, (h.pre1 ch hch).choose_spec⟩
/-- One act after a loss: no bytes are handed over. -/
theorem do_act_o {b0 : Nat} {K : Nat → Prop} {p q p' q' g t : Nat} {vs vs' : Nat → Value} {A B : Mx} {S C : Nat → Nat → List Int} {n : Nat} (far : Bool) (d chv nv : Int) (Ab : Option Addr) (nb cb : Nat) (N : List Int) (hok : ActOk far d chv nv nb) (hd1 : d ≠ 1) (w : World) (hT : Two b0 (fun k => K k ∨ k = t) p q vs A p' q' vs' B w) (hg : w.heap[g]? = some (pairB p p')) (hKg : K g) (hKt : ¬ K t) (htb : b0 ≤ t) (hx : Tx t S C w)
    (hI : SO n A B S C) (hn : n ≤ 200000) (hCC : ∀ w', Nx b0 K w w' → Kd.C (Kd.int .u8) w' Ab nb N) (hN : Byt N) :
    Calls Tryd.prog 15 #[.pointer (some ⟨t, 0, none⟩), .slice (some ⟨g, 0, none⟩) 2 2, actV d far chv nv Ab nb cb] w fun e w' => e = .returned (.bool true) ∧ ∃ A' B' S' C' vs1 vs1', SO (n + 2000) A' B' S' C' ∧ Two b0 (fun k => K k ∨ k = t) p q vs1 A' p' q' vs1' B' w' ∧ Nx b0 K w w' ∧ Tx t S' C' w' := by
  have hnl : N.length = nb := (hCC w (Nx.refl _ _ _)).1
  have hnb := hok.hn
  obtain ⟨h1, h2⟩ := hok.hc hd1
  obtain ⟨ch, rfl⟩ : ∃ ch : Nat, chv = ch := ⟨chv.toNat, by omega⟩
  have hch : ch < 8 := by omega
  have hpa := hI.pa
  have hpb := hI.pb
  have hsa := fun c hc => A.sent_pot c hc
  have hsb := fun c hc => B.sent_pot c hc
  have hd02 : d = 0 ∨ d = 2 := by rcases hok.hd with h | h | h; exact .inl h; exact absurd h hd1; exact .inr h
  cases far with
  | false =>
    rcases hd02 with rfl | rfl
    · have hS := hI.small 0 (by omega) ch hch
      by_cases hro : (nb : Int) ≤ A.win - A.way ch
      · refine (do_send_false ch hch nv Ab nb cb w hT hg hKg hKt htb hx N hI.fa hro hI.ea hCC (fun c hc => by have := hsa c hc; omega) (by omega)).mono ?_
        rintro e w' ⟨rfl, vs1, hT1, hN1, hx1⟩
        exact ⟨rfl, _, _, _, _, vs1, vs', hI.send ch hch N hN (by omega) (by rw [hnl]; exact hro), hT1, hN1, hx1⟩
      · refine (do_full_false ch hch nv Ab nb cb w hT hg hKg hKt htb hx N hI.fa hro hI.ea hCC (fun c hc => by have := hsa c hc; omega) (by omega)).mono ?_
        rintro e w' ⟨rfl, vs1, hT1, hN1, hx1⟩
        exact ⟨rfl, _, _, _, _, vs1, vs', hI.more (by omega), hT1, hN1, hx1⟩
    · refine (do_recv_false ch hch nv Ab nb cb w hT hg hKg hKt htb hx (by have := hI.came ch hch; omega)).mono ?_
      rintro e w' ⟨rfl, vs1, hT1, hN1, hx1⟩
      exact ⟨rfl, _, _, _, _, vs1, vs', hI.recv ch hch, hT1, hN1, hx1⟩
  | true =>
    have hF := hI.flip
    rcases hd02 with rfl | rfl
    · have hS := hI.small 1 (by omega) ch hch
      by_cases hro : (nb : Int) ≤ B.win - B.way ch
      · refine (do_send_true ch hch nv Ab nb cb w hT.swap hg hKg hKt htb hx N hI.fb hro hI.eb hCC (fun c hc => by have := hsb c hc; omega) (by omega)).mono ?_
        rintro e w' ⟨rfl, vs1, hT1, hN1, hx1⟩
        have h3 := hF.send ch hch N hN (by omega) (by rw [hnl]; exact hro)
        have h4 : SO (n + 2000) A (B.send ch N) (upd2 S 1 ch (S 1 ch ++ N)) C := h3.unflip (by rw [upd2_other _ _ _ _ _ (by omega), upd2_other _ _ _ _ _ (by omega)]; rfl) (by rw [upd2_same, upd2_same]; rfl) rfl rfl
        exact ⟨rfl, _, _, _, _, vs, vs1, h4, hT1.swap, hN1, hx1⟩
      · refine (do_full_true ch hch nv Ab nb cb w hT.swap hg hKg hKt htb hx N hI.fb hro hI.eb hCC (fun c hc => by have := hsb c hc; omega) (by omega)).mono ?_
        rintro e w' ⟨rfl, vs1, hT1, hN1, hx1⟩
        exact ⟨rfl, _, _, _, _, vs, vs1, hI.more (by omega), hT1.swap, hN1, hx1⟩
    · have hcm : (C 0 ch).length + (B.held ch).length ≤ n := hF.came ch hch
      refine (do_recv_true ch hch nv Ab nb cb w hT.swap hg hKg hKt htb hx (by omega)).mono ?_
      rintro e w' ⟨rfl, vs1, hT1, hN1, hx1⟩
      have h3 := hF.recv ch hch
      have h4 : SO (n + 2000) A (B.recv ch) S (upd2 C 0 ch (C 0 ch ++ B.held ch)) := h3.unflip rfl rfl (by rw [upd2_same, upd2_same]; rfl) (by rw [upd2_other _ _ _ _ _ (by omega), upd2_other _ _ _ _ _ (by omega)]; rfl)
      exact ⟨rfl, _, _, _, _, vs, vs1, h4, hT1.swap, hN1, hx1⟩
/-- What is so after i acts: nothing was lost, or from i on everything is. -/
def OrdI (win i : Nat) (lost : Int) (A B : Mx) (S C : Nat → Nat → List Int) : Prop := SI win (2000 * i) A B S C ∨ ((i : Int) ≥ lost ∧ SO (2000 * i) A B S C)
theorem OrdI.so {win i : Nat} {lost : Int} {A B : Mx} {S C : Nat → Nat → List Int} (h : OrdI win i lost A B S C) (hw : win ≤ 3000) : SO (2000 * i) A B S C := by
  rcases h with h | h
  · exact h.so hw
  · exact h.2
theorem ord_act {b0 : Nat} {K : Nat → Prop} {p q p' q' g t : Nat} {A B : Mx} {S C : Nat → Nat → List Int} {win i : Nat} {lost : Int} {w0 : World} (far : Bool) (d chv nv : Int) (Ab : Option Addr) (nb cb : Nat) (N : List Int) (hok : ActOk far d chv nv nb) (hnl : ¬ (d = 1 ∧ (i : Int) ≥ lost)) (w : World) (hG : GT w) (hb0 : 0 < b0) (hL : Ls b0 K p q p' q' t A B S C w0 w) (hg : w.heap[g]? = some (pairB p p')) (hKg : K g) (hKt : ¬ K t) (htb : b0 ≤ t)
    (hI : OrdI win i lost A B S C) (hi : i ≤ 60) (hw : win ≤ 3000) (hCC : ∀ w', Nx b0 K w w' → Kd.C (Kd.int .u8) w' Ab nb N) (hN : Byt N) :
    Calls Tryd.prog 15 #[.pointer (some ⟨t, 0, none⟩), .slice (some ⟨g, 0, none⟩) 2 2, actV d far chv nv Ab nb cb] w fun e w' => e = .returned (.bool true) ∧ ∃ A' B' S' C', OrdI win (i + 1) lost A' B' S' C' ∧ Ls b0 K p q p' q' t A' B' S' C' w0 w' := by
  obtain ⟨vs, vs', hT⟩ := hL.two
  rcases hI with hI | ⟨hli, hI⟩
  · refine (do_act far d chv nv Ab nb cb N hok w hG hb0 hT hg hKg hKt htb hL.tx hI (by omega) hCC hN).mono ?_
    rintro e w' ⟨rfl, A', B', S', C', vs1, vs1', hI', hT', hN', hx'⟩
    exact ⟨rfl, A', B', S', C', .inl hI', ⟨_, _, hT'⟩, hL.nx.trans hN', hx'⟩
  · refine (do_act_o far d chv nv Ab nb cb N hok (fun h => hnl ⟨h, hli⟩) w hT hg hKg hKt htb hL.tx hI (by omega) hCC hN).mono ?_
    rintro e w' ⟨rfl, A', B', S', C', vs1, vs1', hI', hT', hN', hx'⟩
    exact ⟨rfl, A', B', S', C', .inr ⟨by omega, hI'⟩, ⟨_, _, hT'⟩, hL.nx.trans hN', hx'⟩
/-- Bytes that go out and are lost. -/
theorem ord_lost {b0 : Nat} {K : Nat → Prop} {p q p' q' t : Nat} {A B : Mx} {S C : Nat → Nat → List Int} {win i : Nat} {lost : Int} {w0 : World} (far : Bool) (nv : Int) (hli : (i : Int) ≥ lost) (w : World) (hG : GT w) (hb0 : 0 < b0) (hL : Ls b0 K p q p' q' t A B S C w0 w)
    (hI : OrdI win i lost A B S C) (hi : i ≤ 60) (hw : win ≤ 3000) :
    Calls Tryd.prog 14 #[.pointer (some ⟨if far then p' else p, 0, none⟩), .int .i64 nv] w fun e w' => ∃ v A' B', e = .returned v ∧ OrdI win (i + 1) lost A' B' S C ∧ Ls b0 K p q p' q' t A' B' S C w0 w' := by
  obtain ⟨vs, vs', hT⟩ := hL.two
  have hO := hI.so hw
  cases far with
  | false =>
    rw [if_neg (by decide)]
    refine (two_OutAny nv w hT hG hb0 (hO.good (by omega)) hO.ea).mono ?_
    rintro e w' ⟨D, nd, cd, vs1, rfl, _, _, hT1, hN1⟩
    exact ⟨_, _, _, rfl, .inr ⟨by omega, (hO.out nv).more (by omega)⟩, ⟨_, _, hT1⟩, hL.nx.trans (hN1.forget (fun k hk => .inl hk)), hL.tx.kept (hN1.kept t (.inr rfl))⟩
  | true =>
    rw [if_pos rfl]
    refine (two_OutAny nv w hT.swap hG hb0 (hO.flip.good (by omega)) hO.eb).mono ?_
    rintro e w' ⟨D, nd, cd, vs1, rfl, _, _, hT1, hN1⟩
    exact ⟨_, _, _, rfl, .inr ⟨by omega, ((hO.flip.out nv).unflip (A := A) (S := S) (C := C) rfl rfl rfl rfl).more (by omega)⟩, ⟨_, _, hT1.swap⟩, hL.nx.trans (hN1.forget (fun k hk => .inl hk)), hL.tx.kept (hN1.kept t (.inr rfl))⟩
open Go.Proofs.YthehhbfiaaadgaaDoor.Num Go.Proofs.YthehhbfiaaadgaaDoor.Pure
theorem extract_left (a b : ByteArray) : (a ++ b).extract 0 a.size = a := by
  apply ByteArray.ext
  rw [ByteArray.data_extract, ByteArray.data_append]
  show (a.data ++ b.data).extract 0 a.data.size = a.data
  simp
theorem pre_str {S C r : List Int} (h : S = C ++ r) : (strOfNums S).extract 0 (strOfNums C).size = strOfNums C ∧ (strOfNums C).size ≤ (strOfNums S).size := by
  subst h
  rw [strOfNums_append]
  refine ⟨extract_left _ _, ?_⟩
  rw [ByteArray.size_append]
  omega
set_option maxHeartbeats 16000000 in
set_option maxRecDepth 100000 in
theorem order_main (win : Nat) (hw1 : 1 ≤ win) (hw : win ≤ 3000) (D : Option Addr) (cl : Nat) (lost : Int) (l : List S34) (w : World) (hG : GT w) (hlt : lightB l = true) (hC : Kd.C k34 w D l.length l) (hcl : l.length ≤ cl) (hB : ∀ x ∈ l, Byt x.f4) :
    Calls Tryd.prog 3 #[.int .i64 win, .slice D l.length cl, .int .i64 lost] w fun e w' => e = .returned (.bool true) ∧ Below w.heap.size w w' := by
  have k1 : decide ((win : Int) < 1) = false := decide_eq_false (by omega)
  have k2 : decide ((win : Int) > 3000) = false := decide_eq_false (by omega)
  have k2' : decide (3000 < (win : Int)) = false := k2
  have hl60 : l.length ≤ 60 ∧ ∀ x ∈ l, x.f4.length ≤ 2000 := by
    unfold lightB at hlt
    rw [Bool.and_eq_true, decide_eq_true_eq, List.all_eq_true] at hlt
    exact ⟨hlt.1, fun x hx => of_decide_eq_true (hlt.2 x hx)⟩
  have hLi := remoralaw31_light.calls 200 D cl l true w hC hcl (by rw [light_f, hlt])
  have HLi := Aside0.mk hLi
  have HX := Aside0.mk (And.intro hw1 (And.intro hw (And.intro hl60.1 (And.intro hl60.2 hB))))
  have HC := Aside0.mk hC
  have HCL := Aside0.mk hcl
  obtain ⟨m0, hm0⟩ : ∃ m0, l.length = m0 := ⟨_, rfl⟩
  have HM0 := Aside0.mk hm0
  have hFa : ∀ W, Below w.heap.size w W → Calls Tryd.prog 12 #[.slice D m0 cl] W fun e w' => ∃ v0_ : Value, e = .returned v0_ ∧ Kd.N k34 34 w' W.heap.size (fun k => k < w.heap.size ∨ W.heap.size ≤ k) v0_ (l.filter fairB) ∧ Below W.heap.size W w' := fun W hb => by
    have h1 : Kd.F k34 W (fun k => k < w.heap.size) D l.length l := Kd.F_below (Kd.C_F heap_act hC) hb
    have h2 := remoralaw31_fair.calls 2000 (fun k => k < w.heap.size) D cl l (l.filter fairB) W (Kd.V_mk hcl h1) (fair_f l (by omega))
    rwa [hm0] at h2
  have HFa := Aside0.mk hFa
  have HG := Aside0.mk hG
  have H0 := Aside0.mk (gt_pos hG)
  rw [hm0] at HLi ⊢
  clear hLi hw1 hw hl60 hB hC hcl hm0 hFa hG hlt
  go_enter Tryd.func3, Tryd.ntmps3
  go_wp2_with fail
  refine HLi.out.mono ?_
  rintro e w1 ⟨rfl, hd1⟩
  have HB1 := Aside0.mk hd1
  clear hd1 HLi
  go_wp2_with fail
  refine (law_pair (win : Int) (by have := HX.out.1; have := HX.out.2.1; omega) w1).mono ?_
  rintro e w2 ⟨g, p, q, p', q', rfl, hg2, hgw, hT2, hb2⟩
  have kn := run_eql_pair ⟨g, 0, none⟩ 2 2
  have HK2 := Aside0.mk (And.intro hg2 hgw)
  have HT2 := Aside0.mk hT2
  have HB2 := Aside0.mk (HB1.out.trans (hb2.mono HB1.out.size))
  clear hg2 hgw hT2 hb2 k1 k2 k2'
  have hz : ∀ i : Nat, i = i := fun _ => rfl
  obtain ⟨w3, hw3⟩ : ∃ w3, w3 = w2.alloc (.cells (List.replicate 32 (Value.string ⟨#[]⟩)).toArray 30) := ⟨_, rfl⟩
  have hb3 : Below w2.heap.size w2 w3 := by rw [hw3]; exact below_alloc (Below.refl _ _) _
  have htx3 : Tx w2.heap.size (fun _ _ => []) (fun _ _ => []) w3 := by rw [hw3]; exact Tx.new (blk_new _ _) rfl
  have hs3 : w3.heap.size = w2.heap.size + 1 := by rw [hw3]; simp
  have hB03 : Below w.heap.size w w3 := HB2.out.trans (hb3.mono HB2.out.size)
  have hfa := HFa.out w3 hB03
  have HFA := Aside0.mk hfa
  have HT3 := Aside0.mk (HT2.out.below hb3)
  have HTX3 := Aside0.mk htx3
  have HS3 := Aside0.mk (And.intro hs3 hB03)
  have HK3 := Aside0.mk (blk_below HK2.out.1 hb3)
  have HB3 := Aside0.mk hb3
  have HW3 := Aside0.mk hw3
  clear hz hb3 htx3 hs3 hB03 hfa HFa hw3
  go_wp2_with fail
  have hw3' := HW3.out
  simp only [List.replicate] at hw3'
  rw [← hw3']
  clear hw3'
  refine HFA.out.mono ?_
  rintro e w5 ⟨v5, rfl, hN5, hb5⟩
  obtain ⟨F, hF⟩ : ∃ F, l.filter fairB = F := ⟨_, rfl⟩
  rw [hF] at hN5
  have HFF : Aside0 ((∀ x ∈ F, x ∈ l ∧ fairB x = true) ∧ F.length ≤ 60) := ⟨by
    rw [← hF]
    exact ⟨fun x hx => List.mem_filter.1 hx, Nat.le_trans (List.length_filter_le _ _) HX.out.2.2.1⟩⟩
  obtain ⟨A5, c5, rfl⟩ := Kd.N_slice hN5
  obtain ⟨b0, hb0⟩ : ∃ b0, w1.heap.size = b0 := ⟨_, rfl⟩
  obtain ⟨t, ht⟩ : ∃ t, w2.heap.size = t := ⟨_, rfl⟩
  obtain ⟨K, hK⟩ : ∃ K : Nat → Prop, K = fun k => k = g ∨ (w3.heap.size ≤ k ∧ k < w5.heap.size) := ⟨_, rfl⟩
  have hs3 := HS3.out.1
  have hNN : ∀ w', Nx b0 K w5 w' → Kd.C k34 w' A5 F.length F := fun w' hn => by
    have h1 := Kd.N_step (w1 := w') (Kd.N_bound hN5) (fun k hk _ => by
      rcases hk.1 with h2 | h2
      · exact hn.below.block k (by have := HB1.out.size; omega)
      · exact hn.kept k (by rw [hK]; exact .inr ⟨h2, hk.2⟩))
    exact (Kd.N_reads' h1).2.2
  have hAD : ∀ ad, A5 = some ad → K ad.block := fun ad e => by
    subst e
    rw [hK]
    exact .inr ⟨Kd.N_base hN5 _ rfl, Kd.N_lt hN5 _ rfl⟩
  have HAD := Aside0.mk hAD
  have hLs5 : Ls b0 K p q p' q' t (Mx.new win) (Mx.new win) (fun _ _ => []) (fun _ _ => []) w5 w5 := by
    have hT5 : Two b0 (fun k => K k ∨ k = t) p q (fun _ => .slice none 0 0) (Mx.new win) p' q' (fun _ => .slice none 0 0) (Mx.new win) w5 := by
      have h1 := (HT3.out.1.below hb5).1
      rw [hb0] at h1
      have hsz := hb5.size
      have fa := fun k (hk : Mf p q (fun _ => .slice none 0 0) k) => (HT2.out.a.foot k hk).2
      have fb := fun k (hk : Mf p' q' (fun _ => .slice none 0 0) k) => (HT2.out.b.foot k hk).2
      refine h1.minds (fun k hk => ?_)
      rw [hK] at hk
      rcases hk with (hk | hk) | hk
      · exact .inl hk
      · exact .inr ⟨hk.2, fun h => by have := fa k h; omega, fun h => by have := fb k h; omega⟩
      · exact .inr ⟨by omega, fun h => by have := fa k h; omega, fun h => by have := fb k h; omega⟩
    exact ⟨⟨_, _, hT5⟩, Nx.refl _ _ _, by rw [← ht]; exact HTX3.out.kept (hb5.block _ (by omega))⟩
  have hKg : K g := by rw [hK]; exact .inl rfl
  have hKt : ¬ K t := by
    rw [hK]
    rintro (h | h)
    · have h1 := HK2.out.1
      have := blk_lt h1
      omega
    · omega
  have htb : b0 ≤ t := by have := HT2.out.bs; omega
  have HLs5 := Aside0.mk hLs5
  have HNN := Aside0.mk hNN
  have HKK := Aside0.mk (And.intro hKg (And.intro hKt htb))
  have HG5 := Aside0.mk (blk_below HK3.out hb5)
  have HB5 := Aside0.mk (HS3.out.2.trans (hb5.mono HS3.out.2.size))
  have HB0 : Aside0 (w.heap.size ≤ b0) := ⟨by have := HB1.out.size; omega⟩
  obtain ⟨m, hm⟩ : ∃ m, F.length = m := ⟨_, rfl⟩
  rw [hm] at HNN HFF ⊢
  have HM := Aside0.mk hm
  rw [ht]
  clear hF hN5 hb5 hs3 hNN hAD hLs5 hKg hKt htb hm HT3 HT2 HTX3 HK3 HK2 HS3 HB3 HW3 HFA HB2 ht hb0 HB1
  go_upto_block 0 with (fail)
  go_cut [10, 35] (fun s10 s35 wx => ∃ A B S C, Aside0 (Ls b0 K p q p' q' t A B S C w5 wx))
  case first =>
    go_wp2_with fail
    go_loopg [10, 35] m (fun gg v10 v35 w' => ∃ (i : Nat) (A B : Mx) (S C : Nat → Nat → List Int), gg = m - i ∧ v35 = .int .i64 i ∧ Aside0 (i ≤ m ∧ OrdI win i lost A B S C) ∧ Aside0 (Ls b0 K p q p' q' t A B S C w5 w'))
    case atStart => exact ⟨0, _, _, _, _, rfl, rfl, ⟨by omega, .inl ⟨⟨_, _, Duo.new (by have := HX.out.1; have := HX.out.2.1; omega)⟩, rfl, fun _ _ _ _ => Nat.zero_le _⟩⟩, HLs5⟩
    case round =>
      clear HLs5
      obtain ⟨i, A, B, S, C, rfl, rfl, HI, HL⟩ := hrel
      have hi := HI.out.1
      have hm60 := HFF.out.2
      by_cases c1 : i < m
      · have k1 : decide ((i : Int) < (m : Int)) = true := decide_eq_true (by omega)
        have k1' : decide (i < m) = true := decide_eq_true c1
        have k1n : (i < m) = True := eq_true c1
        have k1i : ((i : Int) < (m : Int)) = True := eq_true (by omega)
        have k10 : (0 ≤ (i : Int)) = True := eq_true (by omega)
        have hadd : wrap64 ((i : Int) + 1) = ((i + 1 : Nat) : Int) := by unfold wrap64; omega
        have C1 := Aside0.mk c1
        obtain ⟨ad, A4, c4, hD, q0, q1, q2, q3, q4, hle4, hC4⟩ := at_T34 (HNN.out wr HL.out.nx) (i : Int) (by omega) (by omega)
        subst hD
        obtain ⟨x, hx⟩ : ∃ x, rd_T34 F (i : Int) = x := ⟨_, rfl⟩
        have hxl : x ∈ l ∧ fairB x = true := by
          rw [← hx, rd_lt F i (by rw [HM.out]; exact c1)]
          exact HFF.out.1 _ (List.getElem_mem _)
        obtain ⟨d, hd⟩ : ∃ d, x.f0 = d := ⟨_, rfl⟩
        rw [hx] at q0 q1 q2 q3 q4 hle4 hC4
        rw [Int.toNat_natCast] at q0 q1 q2 q3 q4
        rw [hd] at q0
        obtain ⟨nb, hnb⟩ : ∃ nb, x.f4.length = nb := ⟨_, rfl⟩
        rw [hnb] at q4 hle4 hC4
        have HQ4 := Aside0.mk q4
        have hCC : ∀ w', Nx b0 K wr w' → Kd.C (Kd.int .u8) w' A4 nb x.f4 := fun w' hn => by
          obtain ⟨ad2, A42, c42, hD2, _, _, _, _, q42, _, hC42⟩ := at_T34 (HNN.out w' (HL.out.nx.trans hn)) (i : Int) (by omega) (by omega)
          cases hD2
          rw [hx, Int.toNat_natCast, hnb] at q42
          rw [hx, hnb] at hC42
          have hsame : w'.cell? ⟨(ad.add (i * 5)).block, (ad.add (i * 5)).off + 4, none⟩ = wr.cell? ⟨(ad.add (i * 5)).block, (ad.add (i * 5)).off + 4, none⟩ := World.cell?_of_block (by show w'.heap[(ad.add (i * 5)).block]? = _; rw [add_block]; exact hn.kept _ (HAD.out ad rfl))
          rw [hsame, HQ4.out] at q42
          injection q42 with q42
          injection q42 with ha _ _
          rw [ha]
          exact hC42
        have hfb : ActOk x.f1 d x.f2 x.f3 nb := by
          have h1 := of_decide_eq_true (show decide (0 ≤ x.f0 ∧ x.f0 ≤ 2 ∧ (x.f0 = 1 ∨ (0 ≤ x.f2 ∧ x.f2 < 8))) = true from hxl.2)
          have h2 := HX.out.2.2.2.1 x hxl.1
          rw [hd] at h1
          exact ⟨by omega, fun h => by omega, by omega⟩
        have hby := HX.out.2.2.2.2 x hxl.1
        have hb1 := below_alloc (Below.refl _ wr) (actB d x.f1 x.f2 x.f3 A4 nb c4)
        have hL1 := HL.out.below hb1
        have hnx1 : Nx b0 K wr (wr.alloc (actB d x.f1 x.f2 x.f3 A4 nb c4)) := by
          obtain ⟨vsr, vsr', hTr⟩ := HL.out.two
          exact (hTr.below hb1).2.forget (fun k hk => .inl hk)
        have hg1 := (hL1.nx.kept g HKK.out.1).trans HG5.out
        have hbz : Below w.heap.size w (wr.alloc (actB d x.f1 x.f2 x.f3 A4 nb c4)) := HB5.out.trans (hL1.nx.below.mono HB0.out)
        have hpos : 0 < b0 := Nat.lt_of_lt_of_le H0.out HB0.out
        have hgt1 : GT (wr.alloc (actB d x.f1 x.f2 x.f3 A4 nb c4)) := HG.out.past hbz H0.out
        have hbn1 := blk_new wr (actB d x.f1 x.f2 x.f3 A4 nb c4)
        have z0 := blk_cell hbn1 0
        have z1 := blk_cell hbn1 1
        have z2 := blk_cell hbn1 2
        have z3 := blk_cell hbn1 3
        have z4 := blk_cell hbn1 4
        have HDo0 : Aside0 (¬ (d = 1 ∧ (i : Int) ≥ lost) → _) := Aside0.mk (fun hnl => ord_act (lost := lost) x.f1 d x.f2 x.f3 A4 nb c4 x.f4 hfb hnl _ hgt1 hpos hL1 hg1 HKK.out.1 HKK.out.2.1 HKK.out.2.2 HI.out.2 (by omega) HX.out.2.1 (fun w' hn => hCC w' (hnx1.trans hn)) hby)
        have h3 : (d = 1 ∧ (i : Int) ≥ lost) ∨ (¬ d = 1 ∨ d = 1 ∧ ¬ (i : Int) ≥ lost) := by omega
        have HGT1 := Aside0.mk hgt1
        have HG1 := Aside0.mk hg1
        have HL1 := Aside0.mk hL1
        have HBN1 := Aside0.mk hbn1
        have HPOS := Aside0.mk hpos
        have HI60 : Aside0 (i ≤ 60) := ⟨by omega⟩
        clear hi hm60 c1 hle4 hC4 hxl hnb hCC hfb hby hb1 hL1 hnx1 hg1 hbz hx hd hpos hgt1 hbn1
        rcases h3 with ⟨rfl, hlo⟩ | h3
        · have kl : decide ((i : Int) ≥ lost) = true := decide_eq_true hlo
          have kl' : decide (lost ≤ (i : Int)) = true := kl
          have HLO := Aside0.mk hlo
          clear hlo HDo0
          go_wp2_with fail
          generalize hW : wr.alloc (actB 1 x.f1 x.f2 x.f3 A4 nb c4) = W at *
          clear hW
          refine (law_side g p p' x.f1 W HG1.out).mono ?_
          rintro e w1 ⟨rfl, hb1⟩
          have HL2 := Aside0.mk (HL1.out.below hb1)
          have HGT2 := Aside0.mk (HGT1.out.past (hb1.mono HL1.out.two.choose_spec.choose_spec.bs) HPOS.out)
          have hbn2 := blk_below HBN1.out hb1
          clear z0 z1 z2 z3 z4
          have z0 := blk_cell hbn2 0
          have z1 := blk_cell hbn2 1
          have z2 := blk_cell hbn2 2
          have z3 := blk_cell hbn2 3
          have z4 := blk_cell hbn2 4
          clear hbn2 hb1 q0 q1 q2 q3 q4
          have HO := Aside0.mk (ord_lost x.f1 x.f3 HLO.out w1 HGT2.out HPOS.out HL2.out HI.out.2 HI60.out HX.out.2.1)
          generalize (if x.f1 = true then p' else p) = px at *
          generalize (if x.f1 = true then p else p') = py at *
          go_wp2_with fail
          refine HO.out.mono ?_
          rintro e w6 ⟨v6, A', B', rfl, hI', hL'⟩
          have HI' := Aside0.mk hI'
          have HL' := Aside0.mk hL'
          clear hI' hL' HO z0 z1 z2 z3 z4
          go_wp2
          go_roundg (m - (i + 1))
          case measure => have := C1.out; omega
          case rel => exact ⟨i + 1, A', B', S, C, rfl, by first | rfl | rw [hadd], ⟨by have := C1.out; omega, HI'.out⟩, HL'⟩
        · have HDo := Aside0.mk (HDo0.out (by omega))
          clear HDo0
          rcases h3 with h3 | ⟨rfl, h3⟩
          · have k0 : decide (d = 1) = false := decide_eq_false h3
            have k0b : (d == 1) = false := beq_eq_false_iff_ne.2 h3
            clear h3
            go_wp2_with fail
            refine HDo.out.mono ?_
            rintro e w6 ⟨rfl, A', B', S', C', hI', hL'⟩
            have HI' := Aside0.mk hI'
            have HL' := Aside0.mk hL'
            clear hI' hL' HDo z0 z1 z2 z3 z4 q0 q1 q2 q3 q4
            try clear k0 k0b
            try clear kl kl'
            go_wp2_with fail
            go_loopg [13, 63] 2 (fun gg v13 v63 w' => ∃ (s : Nat), gg = 2 - s ∧ ((s = 0 ∧ v63 = .int .i64 0) ∨ (s = 1 ∧ v63 = .int .i64 1) ∨ (s = 2 ∧ v63 = .int .i64 2)) ∧ Aside0 (Ls b0 K p q p' q' t A' B' S' C' w5 w'))
            case atStart => exact ⟨0, rfl, .inl ⟨rfl, rfl⟩, HL'⟩
            case round =>
              clear HL' HL HL1 HBN1 HGT1 HG1
              obtain ⟨s, rfl, hs, HLs⟩ := hrel
              rcases hs with ⟨rfl, rfl⟩ | ⟨rfl, rfl⟩ | ⟨rfl, rfl⟩
              · go_wp2_with fail
                go_loopg [14, 66] 8 (fun gg v14 v66 w' => ∃ (j : Nat), gg = 8 - j ∧ v66 = .int .i64 j ∧ Aside0 (j ≤ 8) ∧ Aside0 (Ls b0 K p q p' q' t A' B' S' C' w5 w'))
                case atStart => exact ⟨0, rfl, rfl, ⟨by omega⟩, HLs⟩
                case round =>
                  clear HLs
                  obtain ⟨j, rfl, rfl, HJ, HLj⟩ := hrel
                  by_cases c2 : j < 8
                  · have k1 : decide ((j : Int) < 8) = true := decide_eq_true (by omega)
                    have k2 : (0 ≤ (j : Int)) = True := eq_true (by omega)
                    have k3 : (j < 8) = True := eq_true c2
                    have k4 : ((j : Int) < 8) = True := eq_true (by omega)
                    have hadd2 : wrap64 ((j : Int) + 1) = ((j + 1 : Nat) : Int) := by unfold wrap64; omega
                    have C2 := Aside0.mk c2
                    obtain ⟨r, hr⟩ := (HI'.out.so HX.out.2.1).pre 0 (by omega) j c2
                    obtain ⟨hex, hle⟩ := pre_str hr
                    have hat := HLj.out.tx.at_ 0 j (by omega) c2
                    obtain ⟨aS, haS⟩ : ∃ aS, strOfNums (S' 0 j) = aS := ⟨_, rfl⟩
                    obtain ⟨aC, haC⟩ : ∃ aC, strOfNums (C' 0 j) = aC := ⟨_, rfl⟩
                    rw [haS, haC] at hat hex hle
                    obtain ⟨n, hn⟩ : ∃ n, aC.size = n := ⟨_, rfl⟩
                    obtain ⟨n2, hn2⟩ : ∃ n, aS.size = n := ⟨_, rfl⟩
                    rw [hn] at hex hle
                    rw [hn2] at hle
                    have e0 : wr.cell? ⟨t, j, none⟩ = some (.string aS) := by simpa using hat.1
                    have e1 : wr.cell? ⟨t, 16 + j, none⟩ = some (.string aC) := by simpa using hat.2.1
                    have g1 : decide ((n : Int) > (n2 : Int)) = false := decide_eq_false (by omega)
                    have g1' : decide ((n2 : Int) < (n : Int)) = false := g1
                    have g1n : decide (n2 < n) = false := decide_eq_false (by omega)
                    have g1p : (n2 < n) = False := eq_false (by omega)
                    have g2 : (0 ≤ (n : Int)) = True := eq_true (by omega)
                    have g3 : (n ≤ n2) = True := eq_true hle
                    have g4 : ((n : Int) ≤ (n2 : Int)) = True := eq_true (by omega)
                    have g5 : (aC.toList != aC.toList) = false := by simp
                    clear hr hat haS haC c2 hle
                    go_wp2
                    go_quiet (fail)
                    go_wp2
                    go_roundg (8 - (j + 1))
                    case measure => have := C2.out; omega
                    case rel => exact ⟨j + 1, rfl, by first | rfl | rw [hadd2], ⟨by have := C2.out; omega⟩, ⟨HLj.out.below (pw_below_drewN (Below.refl _ _) _)⟩⟩
                  · have k1 : decide ((j : Int) < 8) = false := decide_eq_false (by omega)
                    clear c2
                    go_wp2
                    go_roundg (2 - (0 + 1))
                    case measure => omega
                    case rel => exact ⟨0 + 1, rfl, .inr <| .inl ⟨rfl, rfl⟩, HLj⟩
              · go_wp2_with fail
                go_loopg [14, 66] 8 (fun gg v14 v66 w' => ∃ (j : Nat), gg = 8 - j ∧ v66 = .int .i64 j ∧ Aside0 (j ≤ 8) ∧ Aside0 (Ls b0 K p q p' q' t A' B' S' C' w5 w'))
                case atStart => exact ⟨0, rfl, rfl, ⟨by omega⟩, HLs⟩
                case round =>
                  clear HLs
                  obtain ⟨j, rfl, rfl, HJ, HLj⟩ := hrel
                  by_cases c2 : j < 8
                  · have k1 : decide ((j : Int) < 8) = true := decide_eq_true (by omega)
                    have k2 : (0 ≤ (j : Int)) = True := eq_true (by omega)
                    have k3 : (j < 8) = True := eq_true c2
                    have k4 : ((j : Int) < 8) = True := eq_true (by omega)
                    have hadd2 : wrap64 ((j : Int) + 1) = ((j + 1 : Nat) : Int) := by unfold wrap64; omega
                    have C2 := Aside0.mk c2
                    obtain ⟨r, hr⟩ := (HI'.out.so HX.out.2.1).pre 1 (by omega) j c2
                    obtain ⟨hex, hle⟩ := pre_str hr
                    have hat := HLj.out.tx.at_ 1 j (by omega) c2
                    obtain ⟨aS, haS⟩ : ∃ aS, strOfNums (S' 1 j) = aS := ⟨_, rfl⟩
                    obtain ⟨aC, haC⟩ : ∃ aC, strOfNums (C' 1 j) = aC := ⟨_, rfl⟩
                    rw [haS, haC] at hat hex hle
                    obtain ⟨n, hn⟩ : ∃ n, aC.size = n := ⟨_, rfl⟩
                    obtain ⟨n2, hn2⟩ : ∃ n, aS.size = n := ⟨_, rfl⟩
                    rw [hn] at hex hle
                    rw [hn2] at hle
                    have e0 : wr.cell? ⟨t, 8 + j, none⟩ = some (.string aS) := by simpa using hat.1
                    have e1 : wr.cell? ⟨t, 24 + j, none⟩ = some (.string aC) := by simpa using hat.2.1
                    have g1 : decide ((n : Int) > (n2 : Int)) = false := decide_eq_false (by omega)
                    have g1' : decide ((n2 : Int) < (n : Int)) = false := g1
                    have g1n : decide (n2 < n) = false := decide_eq_false (by omega)
                    have g1p : (n2 < n) = False := eq_false (by omega)
                    have g2 : (0 ≤ (n : Int)) = True := eq_true (by omega)
                    have g3 : (n ≤ n2) = True := eq_true hle
                    have g4 : ((n : Int) ≤ (n2 : Int)) = True := eq_true (by omega)
                    have g5 : (aC.toList != aC.toList) = false := by simp
                    clear hr hat haS haC c2 hle
                    go_wp2
                    go_quiet (fail)
                    go_wp2
                    go_roundg (8 - (j + 1))
                    case measure => have := C2.out; omega
                    case rel => exact ⟨j + 1, rfl, by first | rfl | rw [hadd2], ⟨by have := C2.out; omega⟩, ⟨HLj.out.below (pw_below_drewN (Below.refl _ _) _)⟩⟩
                  · have k1 : decide ((j : Int) < 8) = false := decide_eq_false (by omega)
                    clear c2
                    go_wp2
                    go_roundg (2 - (1 + 1))
                    case measure => omega
                    case rel => exact ⟨1 + 1, rfl, .inr <| .inr ⟨rfl, rfl⟩, HLj⟩
              · go_wp2
                go_roundg (m - (i + 1))
                case measure => have := C1.out; omega
                case rel => exact ⟨i + 1, A', B', S', C', rfl, by first | rfl | rw [hadd], ⟨by have := C1.out; omega, HI'.out⟩, HLs⟩
          · have kl : decide ((i : Int) ≥ lost) = false := decide_eq_false h3
            have kl' : decide (lost ≤ (i : Int)) = false := kl
            clear h3
            go_wp2_with fail
            refine HDo.out.mono ?_
            rintro e w6 ⟨rfl, A', B', S', C', hI', hL'⟩
            have HI' := Aside0.mk hI'
            have HL' := Aside0.mk hL'
            clear hI' hL' HDo z0 z1 z2 z3 z4 q0 q1 q2 q3 q4
            try clear k0 k0b
            try clear kl kl'
            go_wp2_with fail
            go_loopg [13, 63] 2 (fun gg v13 v63 w' => ∃ (s : Nat), gg = 2 - s ∧ ((s = 0 ∧ v63 = .int .i64 0) ∨ (s = 1 ∧ v63 = .int .i64 1) ∨ (s = 2 ∧ v63 = .int .i64 2)) ∧ Aside0 (Ls b0 K p q p' q' t A' B' S' C' w5 w'))
            case atStart => exact ⟨0, rfl, .inl ⟨rfl, rfl⟩, HL'⟩
            case round =>
              clear HL' HL HL1 HBN1 HGT1 HG1
              obtain ⟨s, rfl, hs, HLs⟩ := hrel
              rcases hs with ⟨rfl, rfl⟩ | ⟨rfl, rfl⟩ | ⟨rfl, rfl⟩
              · go_wp2_with fail
                go_loopg [14, 66] 8 (fun gg v14 v66 w' => ∃ (j : Nat), gg = 8 - j ∧ v66 = .int .i64 j ∧ Aside0 (j ≤ 8) ∧ Aside0 (Ls b0 K p q p' q' t A' B' S' C' w5 w'))
                case atStart => exact ⟨0, rfl, rfl, ⟨by omega⟩, HLs⟩
                case round =>
                  clear HLs
                  obtain ⟨j, rfl, rfl, HJ, HLj⟩ := hrel
                  by_cases c2 : j < 8
                  · have k1 : decide ((j : Int) < 8) = true := decide_eq_true (by omega)
                    have k2 : (0 ≤ (j : Int)) = True := eq_true (by omega)
                    have k3 : (j < 8) = True := eq_true c2
                    have k4 : ((j : Int) < 8) = True := eq_true (by omega)
                    have hadd2 : wrap64 ((j : Int) + 1) = ((j + 1 : Nat) : Int) := by unfold wrap64; omega
                    have C2 := Aside0.mk c2
                    obtain ⟨r, hr⟩ := (HI'.out.so HX.out.2.1).pre 0 (by omega) j c2
                    obtain ⟨hex, hle⟩ := pre_str hr
                    have hat := HLj.out.tx.at_ 0 j (by omega) c2
                    obtain ⟨aS, haS⟩ : ∃ aS, strOfNums (S' 0 j) = aS := ⟨_, rfl⟩
                    obtain ⟨aC, haC⟩ : ∃ aC, strOfNums (C' 0 j) = aC := ⟨_, rfl⟩
                    rw [haS, haC] at hat hex hle
                    obtain ⟨n, hn⟩ : ∃ n, aC.size = n := ⟨_, rfl⟩
                    obtain ⟨n2, hn2⟩ : ∃ n, aS.size = n := ⟨_, rfl⟩
                    rw [hn] at hex hle
                    rw [hn2] at hle
                    have e0 : wr.cell? ⟨t, j, none⟩ = some (.string aS) := by simpa using hat.1
                    have e1 : wr.cell? ⟨t, 16 + j, none⟩ = some (.string aC) := by simpa using hat.2.1
                    have g1 : decide ((n : Int) > (n2 : Int)) = false := decide_eq_false (by omega)
                    have g1' : decide ((n2 : Int) < (n : Int)) = false := g1
                    have g1n : decide (n2 < n) = false := decide_eq_false (by omega)
                    have g1p : (n2 < n) = False := eq_false (by omega)
                    have g2 : (0 ≤ (n : Int)) = True := eq_true (by omega)
                    have g3 : (n ≤ n2) = True := eq_true hle
                    have g4 : ((n : Int) ≤ (n2 : Int)) = True := eq_true (by omega)
                    have g5 : (aC.toList != aC.toList) = false := by simp
                    clear hr hat haS haC c2 hle
                    go_wp2
                    go_quiet (fail)
                    go_wp2
                    go_roundg (8 - (j + 1))
                    case measure => have := C2.out; omega
                    case rel => exact ⟨j + 1, rfl, by first | rfl | rw [hadd2], ⟨by have := C2.out; omega⟩, ⟨HLj.out.below (pw_below_drewN (Below.refl _ _) _)⟩⟩
                  · have k1 : decide ((j : Int) < 8) = false := decide_eq_false (by omega)
                    clear c2
                    go_wp2
                    go_roundg (2 - (0 + 1))
                    case measure => omega
                    case rel => exact ⟨0 + 1, rfl, .inr <| .inl ⟨rfl, rfl⟩, HLj⟩
              · go_wp2_with fail
                go_loopg [14, 66] 8 (fun gg v14 v66 w' => ∃ (j : Nat), gg = 8 - j ∧ v66 = .int .i64 j ∧ Aside0 (j ≤ 8) ∧ Aside0 (Ls b0 K p q p' q' t A' B' S' C' w5 w'))
                case atStart => exact ⟨0, rfl, rfl, ⟨by omega⟩, HLs⟩
                case round =>
                  clear HLs
                  obtain ⟨j, rfl, rfl, HJ, HLj⟩ := hrel
                  by_cases c2 : j < 8
                  · have k1 : decide ((j : Int) < 8) = true := decide_eq_true (by omega)
                    have k2 : (0 ≤ (j : Int)) = True := eq_true (by omega)
                    have k3 : (j < 8) = True := eq_true c2
                    have k4 : ((j : Int) < 8) = True := eq_true (by omega)
                    have hadd2 : wrap64 ((j : Int) + 1) = ((j + 1 : Nat) : Int) := by unfold wrap64; omega
                    have C2 := Aside0.mk c2
                    obtain ⟨r, hr⟩ := (HI'.out.so HX.out.2.1).pre 1 (by omega) j c2
                    obtain ⟨hex, hle⟩ := pre_str hr
                    have hat := HLj.out.tx.at_ 1 j (by omega) c2
                    obtain ⟨aS, haS⟩ : ∃ aS, strOfNums (S' 1 j) = aS := ⟨_, rfl⟩
                    obtain ⟨aC, haC⟩ : ∃ aC, strOfNums (C' 1 j) = aC := ⟨_, rfl⟩
                    rw [haS, haC] at hat hex hle
                    obtain ⟨n, hn⟩ : ∃ n, aC.size = n := ⟨_, rfl⟩
                    obtain ⟨n2, hn2⟩ : ∃ n, aS.size = n := ⟨_, rfl⟩
                    rw [hn] at hex hle
                    rw [hn2] at hle
                    have e0 : wr.cell? ⟨t, 8 + j, none⟩ = some (.string aS) := by simpa using hat.1
                    have e1 : wr.cell? ⟨t, 24 + j, none⟩ = some (.string aC) := by simpa using hat.2.1
                    have g1 : decide ((n : Int) > (n2 : Int)) = false := decide_eq_false (by omega)
                    have g1' : decide ((n2 : Int) < (n : Int)) = false := g1
                    have g1n : decide (n2 < n) = false := decide_eq_false (by omega)
                    have g1p : (n2 < n) = False := eq_false (by omega)
                    have g2 : (0 ≤ (n : Int)) = True := eq_true (by omega)
                    have g3 : (n ≤ n2) = True := eq_true hle
                    have g4 : ((n : Int) ≤ (n2 : Int)) = True := eq_true (by omega)
                    have g5 : (aC.toList != aC.toList) = false := by simp
                    clear hr hat haS haC c2 hle
                    go_wp2
                    go_quiet (fail)
                    go_wp2
                    go_roundg (8 - (j + 1))
                    case measure => have := C2.out; omega
                    case rel => exact ⟨j + 1, rfl, by first | rfl | rw [hadd2], ⟨by have := C2.out; omega⟩, ⟨HLj.out.below (pw_below_drewN (Below.refl _ _) _)⟩⟩
                  · have k1 : decide ((j : Int) < 8) = false := decide_eq_false (by omega)
                    clear c2
                    go_wp2
                    go_roundg (2 - (1 + 1))
                    case measure => omega
                    case rel => exact ⟨1 + 1, rfl, .inr <| .inr ⟨rfl, rfl⟩, HLj⟩
              · go_wp2
                go_roundg (m - (i + 1))
                case measure => have := C1.out; omega
                case rel => exact ⟨i + 1, A', B', S', C', rfl, by first | rfl | rw [hadd], ⟨by have := C1.out; omega, HI'.out⟩, HLs⟩
      · have k1 : decide ((i : Int) < (m : Int)) = false := decide_eq_false (by omega)
        have k1' : decide (i < m) = false := decide_eq_false c1
        have k1n : (i < m) = False := eq_false c1
        have k1i : ((i : Int) < (m : Int)) = False := eq_false (by omega)
        clear c1 hi hm60
        go_wp2
        go_meet
        exact ⟨A, B, S, C, HL⟩
  clear HLs5
  obtain ⟨A, B, S, C, HL⟩ := hcut
  have HA := Aside0.mk (fun w' (hb : Below w.heap.size w w') => law_awake w' (HG.out.past hb H0.out) (Nat.lt_of_lt_of_le H0.out hb.size))
  have HBc := Aside0.mk (HB5.out.trans (HL.out.nx.below.mono HB0.out))
  go_wp2_with fail
  refine (HA.out _ HBc.out).mono ?_
  rintro e w9 ⟨rfl, hb9⟩
  have HB9 := Aside0.mk (HBc.out.trans (hb9.mono HBc.out.size))
  clear hb9
  go_wp2
  go_ret
  exact ⟨rfl, HB9.out⟩
open Go.Proofs.YthehhbfiaaadgaaDoor.Num Go.Proofs.YthehhbfiaaadgaaDoor.Pure
def remoralaw31_MuxOrder.f (a0 : Int) (l1 : List S34) (a2 : Int) : Option Bool := some true
def remoralaw31_MuxOrder.Pure : Prop := True
set_option maxHeartbeats 8000000 in
set_option maxRecDepth 100000 in
theorem order_off (win : Int) (D : Option Addr) (cl : Nat) (lost : Int) (l : List S34) (w : World) (hG : GT w) (hC : Kd.C k34 w D l.length l) (hcl : l.length ≤ cl) (hoff : lightB l = false ∨ win < 1 ∨ win > 3000) :
    Calls Tryd.prog 3 #[.int .i64 win, .slice D l.length cl, .int .i64 lost] w fun e w' => e = .returned (.bool true) ∧ Below w.heap.size w w' := by
  obtain ⟨r, hr⟩ : ∃ r, lightB l = r := ⟨_, rfl⟩
  have hLi := remoralaw31_light.calls 200 D cl l r w hC hcl (by rw [light_f, hr])
  have HLi := Aside0.mk hLi
  have HA := Aside0.mk (fun w' (hb : Below w.heap.size w w') => law_awake w' (hG.past hb (gt_pos hG)) (Nat.lt_of_lt_of_le (gt_pos hG) hb.size))
  rw [hr] at hoff
  clear hG hC hcl hLi hr
  generalize l.length = m0 at *
  cases r with
  | false =>
    clear hoff
    go_enter Tryd.func3, Tryd.ntmps3
    go_wp2_with fail
    refine HLi.out.mono ?_
    rintro e w1 ⟨rfl, hb1⟩
    have HB1 := Aside0.mk hb1
    clear hb1
    go_wp2_with fail
    refine (HA.out w1 HB1.out).mono ?_
    rintro e w2 ⟨rfl, hb2⟩
    have HB2 := Aside0.mk (HB1.out.trans (hb2.mono HB1.out.size))
    clear hb2
    go_wp2
    go_ret
    exact ⟨rfl, HB2.out⟩
  | true =>
    by_cases h1 : win < 1
    · have k1 : decide (win < 1) = true := decide_eq_true h1
      clear hoff h1
      go_enter Tryd.func3, Tryd.ntmps3
      go_wp2_with fail
      refine HLi.out.mono ?_
      rintro e w1 ⟨rfl, hb1⟩
      have HB1 := Aside0.mk hb1
      clear hb1
      go_wp2_with fail
      refine (HA.out w1 HB1.out).mono ?_
      rintro e w2 ⟨rfl, hb2⟩
      have HB2 := Aside0.mk (HB1.out.trans (hb2.mono HB1.out.size))
      clear hb2
      go_wp2
      go_ret
      exact ⟨rfl, HB2.out⟩
    · have h2 : win > 3000 := by
        rcases hoff with h | h | h
        · cases h
        · exact absurd h h1
        · exact h
      have k1 : decide (win < 1) = false := decide_eq_false h1
      have k2 : decide (win > 3000) = true := decide_eq_true h2
      have k2' : decide (3000 < win) = true := k2
      clear hoff h1 h2
      go_enter Tryd.func3, Tryd.ntmps3
      go_wp2_with fail
      refine HLi.out.mono ?_
      rintro e w1 ⟨rfl, hb1⟩
      have HB1 := Aside0.mk hb1
      clear hb1
      go_wp2_with fail
      refine (HA.out w1 HB1.out).mono ?_
      rintro e w2 ⟨rfl, hb2⟩
      have HB2 := Aside0.mk (HB1.out.trans (hb2.mono HB1.out.size))
      clear hb2
      go_wp2
      go_ret
      exact ⟨rfl, HB2.out⟩
theorem remoralaw31_MuxOrder.walk (P : remoralaw31_MuxOrder.Pure) (a0 : Int) (a1 : Option Addr) (cap1 : Nat) (l1 : List S34) (a2 : Int) (w : World) (hG : GT w) (w0 : (Lit.int .i64 a0).wf = true) (hr1 : Kd.C k34 w a1 l1.length l1) (hc1 : l1.length ≤ cap1) (hm1 : l1.length ≤ maxLen) (y1 : l1.length * (Tryd.prog).bytesOf 34 ≤ 140737488351232) (hw1 : ∀ x ∈ l1, (((Lit.int .i64 x.f0).wf = true) ∧ True ∧ ((Lit.int .i64 x.f2).wf = true) ∧ ((Lit.int .i64 x.f3).wf = true) ∧ (x.f4.length ≤ maxLen ∧ x.f4.length * (Tryd.prog).bytesOf 5 ≤ 140737488351232 ∧ ∀ y ∈ x.f4, (Lit.int .u8 y).wf = true))) (w2 : (Lit.int .i64 a2).wf = true) :
    Calls Tryd.prog 3 #[.int .i64 a0, .slice a1 l1.length cap1, .int .i64 a2] w fun e w' => e = .returned (.bool true) ∧ Below w.heap.size w w' := by
  by_cases hoff : lightB l1 = false ∨ a0 < 1 ∨ a0 > 3000
  · exact order_off a0 a1 cap1 a2 l1 w hG hr1 hc1 hoff
  · obtain ⟨win, rfl⟩ : ∃ win : Nat, a0 = win := ⟨a0.toNat, by omega⟩
    have hlt : lightB l1 = true := by
      cases h : lightB l1
      · exact absurd (.inl h) hoff
      · rfl
    exact order_main win (by omega) (by omega) a1 cap1 a2 l1 w hG hlt hr1 hc1 (fun x hx => byt_of (hw1 x hx).2.2.2.2.2.2)
end Go.Proofs.YthehhbfiaaadgaaDoor.P
