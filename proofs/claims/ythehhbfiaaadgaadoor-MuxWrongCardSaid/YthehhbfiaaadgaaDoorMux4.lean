/- two muxes that hand frames to each other, and awake. -/
import Derived.Test.YthehhbfiaaadgaaDoorMux3
import Derived.Test.YthehhbfiaaadgaaDoorPx0
import Derived.Lib.SliceRun
namespace Go.Proofs.YthehhbfiaaadgaaDoor.P
open Go.RowKit Go.Proofs.YthehhbfiaaadgaaDoorW.PrintWords Go.Proofs.YthehhbfiaaadgaaDoorW.PrintLast Go.Proofs.YthehhbfiaaadgaaDoorW.PrintMore
attribute [local go_sem] max2_int min2_int max_two min_two max_three min_three max_four min_four
set_option linter.unusedVariables false
set_option linter.unusedSimpArgs false
open Go.Proofs.YthehhbfiaaadgaaDoor.Num Go.Proofs.YthehhbfiaaadgaaDoor.Pure
/-- A frame that a mux makes: bytes of a channel, or what is given back of one. -/
inductive Fr where
  | dat (ch : Nat) (b : List Int)
  | giv (ch n : Nat)
def Fr.enc : Fr → List Int
  | .dat ch b => encF (ch : Int) b
  | .giv ch n => encF ((8 + ch : Nat) : Int) (Num.enc n)
def Fr.ok : Fr → Prop
  | .dat ch b => ch < 8 ∧ Byt b ∧ 0 < b.length ∧ b.length ≤ 512
  | .giv ch n => ch < 8 ∧ 0 < n ∧ n ≤ 65536
def bytesF (fs : List Fr) : List Int := (fs.map Fr.enc).flatten
theorem bytesF_cons (x : Fr) (t : List Fr) : bytesF (x :: t) = x.enc ++ bytesF t := rfl
theorem bytesF_snoc (f : List Fr) (x : Fr) : bytesF (f ++ [x]) = bytesF f ++ x.enc := by unfold bytesF; simp
def Fr.bytes (ch : Nat) : Fr → List Int
  | .dat c b => if c = ch then b else []
  | .giv _ _ => []
def Fr.back (ch : Nat) : Fr → Nat
  | .dat _ _ => 0
  | .giv c n => if c = ch then n else 0
def dat (ch : Nat) (fs : List Fr) : List Int := (fs.map (Fr.bytes ch)).flatten
def gif (ch : Nat) (fs : List Fr) : Nat := (fs.map (Fr.back ch)).sum
theorem dat_cons (ch : Nat) (x : Fr) (t : List Fr) : dat ch (x :: t) = x.bytes ch ++ dat ch t := rfl
theorem dat_snoc (ch : Nat) (f : List Fr) (x : Fr) : dat ch (f ++ [x]) = dat ch f ++ x.bytes ch := by unfold dat; simp
theorem gif_cons (ch : Nat) (x : Fr) (t : List Fr) : gif ch (x :: t) = x.back ch + gif ch t := rfl
theorem gif_snoc (ch : Nat) (f : List Fr) (x : Fr) : gif ch (f ++ [x]) = gif ch f + x.back ch := by unfold gif; simp
theorem Fr.byt {x : Fr} (h : x.ok) : Byt x.enc := by
  cases x with
  | dat ch b => exact encF_byte (by omega) (by have := h.1; omega) h.2.1
  | giv ch n => exact encF_byte (by omega) (by have := h.1; omega) (enc_byt _)
theorem Fr.len {x : Fr} (h : x.ok) : 0 < x.enc.length ∧ x.enc.length ≤ sum8 (fun ch => 8 * (x.bytes ch).length + 15 * x.back ch) := by
  cases x with
  | dat c b =>
    have h8 := h.1
    have h1 := sum8_le (f := fun ch => 8 * ((Fr.dat c b).bytes ch).length + 15 * (Fr.dat c b).back ch) c h8
    have e1 : (Fr.dat c b).bytes c = b := if_pos rfl
    rw [show (Fr.dat c b).enc = encF (c : Int) b from rfl, encF_len]
    have h2 := enc_len2 (n := b.length) (by have := h.2.2.2; omega)
    have := h.2.2.1
    rw [e1] at h1
    have e2 : (Fr.dat c b).back c = 0 := rfl
    omega
  | giv c n =>
    have h8 := h.1
    have h1 := sum8_le (f := fun ch => 8 * ((Fr.giv c n).bytes ch).length + 15 * (Fr.giv c n).back ch) c h8
    have e1 : (Fr.giv c n).back c = n := if_pos rfl
    rw [show (Fr.giv c n).enc = encF ((8 + c : Nat) : Int) (Num.enc n) from rfl, encF_len]
    have h9 := enc_len9 (n := n) (by have := h.2.2; omega)
    have h2 : (Num.enc (Num.enc n).length).length = 1 := by rw [enc_small (by omega)]; rfl
    have := h.2.1
    rw [e1] at h1
    omega
theorem sum8_add (f g : Nat → Nat) : sum8 (fun i => f i + g i) = sum8 f + sum8 g := by simp only [sum8]; omega
theorem sum8_mono {f g : Nat → Nat} (h : ∀ i, i < 8 → f i ≤ g i) : sum8 f ≤ sum8 g := by
  unfold sum8
  have h0 := h 0 (by omega); have h1 := h 1 (by omega); have h2 := h 2 (by omega); have h3 := h 3 (by omega); have h4 := h 4 (by omega); have h5 := h 5 (by omega); have h6 := h 6 (by omega); have h7 := h 7 (by omega)
  omega
theorem bytesF_len : ∀ (f : List Fr), (∀ x ∈ f, x.ok) → (bytesF f).length ≤ sum8 (fun ch => 8 * (dat ch f).length + 15 * gif ch f)
  | [], _ => Nat.zero_le _
  | x :: t, h => by
    have h1 := (Fr.len (h x (by simp))).2
    have h2 := bytesF_len t (fun y hy => h y (by simp [hy]))
    rw [bytesF_cons, List.length_append]
    have e : (fun ch => 8 * (dat ch (x :: t)).length + 15 * gif ch (x :: t)) = fun ch => (8 * (x.bytes ch).length + 15 * x.back ch) + (8 * (dat ch t).length + 15 * gif ch t) := by
      funext ch
      rw [dat_cons, gif_cons, List.length_append]
      omega
    rw [e, sum8_add]
    omega
theorem bytesF_byt : ∀ (f : List Fr), (∀ x ∈ f, x.ok) → Byt (bytesF f)
  | [], _ => byt_nil
  | x :: t, h => by
    rw [bytesF_cons]
    exact (Fr.byt (h x (by simp))).append (bytesF_byt t (fun y hy => h y (by simp [hy])))
/-- One direction: f is on the way from A to B, g from B to A; S was sent, C was received; o has left A and did not come to B yet. -/
structure Dir (A B : Mx) (f g : List Fr) (o : List Int) (S C : Nat → List Int) : Prop where
  bytes : bytesF f = B.L ++ (o ++ A.out)
  ok : ∀ x ∈ f, x.ok
  text : ∀ ch, ch < 8 → S ch = C ch ++ (B.held ch ++ (dat ch f ++ A.sent ch))
  room : ∀ ch, ch < 8 → A.way ch = (A.sent ch).length + (dat ch f).length + B.owed ch + gif ch g
structure Duo (A B : Mx) (f g : List Fr) (o o' : List Int) (SA CB SB CA : Nat → List Int) : Prop where
  ab : Dir A B f g o SA CB
  ba : Dir B A g f o' SB CA
  fa : A.Fit
  fb : B.Fit
  ea : A.e = 0
  eb : B.e = 0
  win : A.win = B.win
theorem Duo.swap {A B : Mx} {f g : List Fr} {o o' : List Int} {SA CB SB CA : Nat → List Int} (h : Duo A B f g o o' SA CB SB CA) : Duo B A g f o' o SB CA SA CB := ⟨h.ba, h.ab, h.fb, h.fa, h.eb, h.ea, h.win.symm⟩
theorem Duo.bounds {A B : Mx} {f g : List Fr} {o o' : List Int} {SA CB SB CA : Nat → List Int} (h : Duo A B f g o o' SA CB SB CA) (ch : Nat) (hch : ch < 8) : (A.sent ch).length + (dat ch f).length + (B.held ch).length + gif ch g ≤ A.win.toNat ∧ gif ch f ≤ A.win.toNat ∧ A.win.toNat ≤ 65536 := by
  have h1 := h.ab.room ch hch
  have h2 := h.ba.room ch hch
  have h3 := h.fa.way ch hch
  have h4 := h.fb.way ch hch
  have h5 := h.fb.owed ch hch
  have h6 := h.fb.back ch hch
  have h7 := h.fa.win
  have h8 := h.win
  have h9 := h.fa.owed ch hch
  have h10 := h.fa.back ch hch
  omega
theorem Duo.len {A B : Mx} {f g : List Fr} {o o' : List Int} {SA CB SB CA : Nat → List Int} (h : Duo A B f g o o' SA CB SB CA) : (bytesF f).length ≤ 184 * A.win.toNat := by
  have h1 := bytesF_len f h.ab.ok
  have h2 : sum8 (fun ch => 8 * (dat ch f).length + 15 * gif ch f) ≤ sum8 (fun _ => 23 * A.win.toNat) := sum8_mono (fun i hi => by have := h.bounds i hi; omega)
  have h3 : sum8 (fun _ => 23 * A.win.toNat) = 184 * A.win.toNat := by simp only [sum8]; omega
  omega
theorem Duo.good {A B : Mx} {f g : List Fr} {o o' : List Int} {SA CB SB CA : Nat → List Int} (h : Duo A B f g o o' SA CB SB CA) : A.Good 20000000 := by
  refine ⟨h.fa.last, h.fa.sent, h.fa.out, ?_⟩
  have h1 := h.len
  have h2 := congrArg List.length h.ab.bytes
  rw [List.length_append, List.length_append] at h2
  have h3 : sum8 (fun i => 8 * (A.sent i).length + if A.back i > 0 then 15 else 0) ≤ sum8 (fun _ => 8 * A.win.toNat + 15) := sum8_mono (fun i hi => by have := h.bounds i hi; split <;> omega)
  have h4 : sum8 (fun _ => 8 * A.win.toNat + 15) = 64 * A.win.toNat + 120 := by simp only [sum8]; omega
  have h5 := h.bounds 0 (by omega)
  unfold Mx.pot
  omega
theorem Mx.next_fr {M : Mx} {b : List Int} {M1 : Mx} (hf : M.Fit) (h : M.next = some (b, M1)) : ∃ x : Fr, x.ok ∧ b = x.enc ∧ (∀ ch, ch < 8 → M.sent ch = x.bytes ch ++ M1.sent ch) ∧ (∀ ch, ch < 8 → M.owed ch = M1.owed ch + x.back ch) ∧ Mx.Fit { M1 with out := M.out ++ b } := by
  have hg := Mx.next_good (N := M.pot) h ⟨hf.last, hf.sent, hf.out, Nat.le_refl _⟩
  obtain ⟨a1, a2, a3, a4, a5, a6, a7⟩ := Mx.next_out h
  unfold Mx.next at h
  split at h
  · rename_i ch hgv
    obtain ⟨h8, hb, _⟩ := Mx.gives_some hgv
    have hb' := of_decide_eq_true hb
    have ho := hf.owed ch h8
    have hw := hf.win
    obtain ⟨n, hn⟩ : ∃ n : Nat, M.back ch = n := ⟨(M.back ch).toNat, by omega⟩
    have hcl : cl (M.back ch) = n := by rw [hn]; exact cl_nat n (by omega)
    have hwr : wrap64 (M.owed ch - M.back ch) = M.owed ch - M.back ch := by unfold wrap64; omega
    cases h
    refine ⟨.giv ch n, ⟨h8, by omega, by omega⟩, by rw [hcl]; rfl, fun c _ => rfl, fun c hc => ?_, ⟨hf.win, hf.way, fun i hi => ?_, fun i hi => ?_, hf.last, hf.sent, hf.held, hg.1.out, hf.L, hf.x⟩⟩
    · show M.owed c = upd M.owed ch (wrap64 (M.owed ch - M.back ch)) c + ((if ch = c then n else 0 : Nat) : Int)
      rw [hwr]
      unfold upd
      by_cases e : c = ch
      · subst e; rw [if_pos rfl, if_pos rfl]; omega
      · rw [if_neg e, if_neg (Ne.symm e)]; omega
    · show upd M.owed ch (wrap64 (M.owed ch - M.back ch)) i = ((M.held i).length : Int) + upd M.back ch 0 i ∧ upd M.owed ch (wrap64 (M.owed ch - M.back ch)) i ≤ M.win
      rw [hwr]
      unfold upd
      by_cases e : i = ch
      · subst e; rw [if_pos rfl, if_pos rfl]; omega
      · rw [if_neg e, if_neg e]; exact hf.owed i hi
    · show 0 ≤ upd M.back ch 0 i
      unfold upd
      split
      · omega
      · exact hf.back i hi
  · obtain ⟨k, hk, he⟩ := Option.map_eq_some_iff.1 h
    obtain ⟨k8, hl, _⟩ := Mx.turns_some hk
    obtain ⟨ch, hch⟩ : ∃ ch, ch = (M.last.toNat + 1 + k) % 8 := ⟨_, rfl⟩
    rw [← hch] at he hl
    have h8 : ch < 8 := by omega
    cases he
    refine ⟨.dat ch ((M.sent ch).take (min (M.sent ch).length 512)), ⟨h8, (hf.sent ch h8).take _, by rw [List.length_take]; omega, by rw [List.length_take]; omega⟩, rfl, fun c hc => ?_, fun c hc => ?_, ⟨hf.win, hf.way, hf.owed, hf.back, hg.1.last, hg.1.sent, hf.held, hg.1.out, hf.L, hf.x⟩⟩
    · show M.sent c = (if ch = c then (M.sent ch).take (min (M.sent ch).length 512) else []) ++ upd M.sent ch ((M.sent ch).drop (min (M.sent ch).length 512)) c
      unfold upd
      by_cases e : c = ch
      · subst e; rw [if_pos rfl, if_pos rfl, List.take_append_drop]
      · rw [if_neg e, if_neg (Ne.symm e), List.nil_append]
    · show M.owed c = M.owed c + ((0 : Nat) : Int)
      omega
theorem Duo.next {A B : Mx} {f g : List Fr} {o' : List Int} {SA CB SB CA : Nat → List Int} (h : Duo A B f g [] o' SA CB SB CA) {b : List Int} {M1 : Mx} (hn : A.next = some (b, M1)) : ∃ x : Fr, b = x.enc ∧ Duo { M1 with out := A.out ++ b } B (f ++ [x]) g [] o' SA CB SB CA := by
  obtain ⟨x, hx, rfl, hs, ho, hfit⟩ := Mx.next_fr h.fa hn
  obtain ⟨a1, a2, a3, a4, a5, a6, a7⟩ := Mx.next_out hn
  refine ⟨x, rfl, ⟨?_, fun y hy => ?_, fun ch hch => ?_, fun ch hch => ?_⟩, ⟨?_, h.ba.ok, fun ch hch => ?_, fun ch hch => ?_⟩, hfit, h.fb, a7.trans h.ea, h.eb, a2.trans h.win⟩
  · rw [bytesF_snoc, h.ab.bytes]
    simp only [List.nil_append, List.append_assoc]
  · rcases List.mem_append.1 hy with hy | hy
    · exact h.ab.ok y hy
    · rw [List.mem_singleton.1 hy]; exact hx
  · rw [h.ab.text ch hch, hs ch hch, dat_snoc]
    simp only [List.append_assoc]
  · have h1 := h.ab.room ch hch
    show M1.way ch = ((M1.sent ch).length : Int) + ((dat ch (f ++ [x])).length : Int) + B.owed ch + gif ch g
    rw [a3, h1, hs ch hch, dat_snoc, List.length_append, List.length_append]
    omega
  · show bytesF g = M1.L ++ (o' ++ B.out)
    rw [a5]; exact h.ba.bytes
  · show SB ch = CA ch ++ (M1.held ch ++ _)
    rw [a4]; exact h.ba.text ch hch
  · have h1 := h.ba.room ch hch
    have h2 := ho ch hch
    show B.way ch = ((B.sent ch).length : Int) + ((dat ch g).length : Int) + M1.owed ch + gif ch (f ++ [x])
    rw [gif_snoc]
    omega
theorem Duo.fill {B : Mx} {g : List Fr} {o' : List Int} {SA CB SB CA : Nat → List Int} (n : Int) : ∀ (fu : Nat) (A : Mx) (f : List Fr), Duo A B f g [] o' SA CB SB CA → ∃ f', Duo (Mx.fill n fu A) B (f ++ f') g [] o' SA CB SB CA
  | 0, A, f, h => ⟨[], by rw [List.append_nil]; exact h⟩
  | fu + 1, A, f, h => by
    rw [Mx.fill_eq]
    split
    · cases hn : A.next with
      | none => exact ⟨[], by rw [List.append_nil]; exact h⟩
      | some y =>
        obtain ⟨b, M1⟩ := y
        obtain ⟨x, rfl, h1⟩ := h.next hn
        obtain ⟨f', h2⟩ := Duo.fill n fu _ _ h1
        exact ⟨x :: f', by rw [show f ++ x :: f' = f ++ [x] ++ f' by simp]; exact h2⟩
    · exact ⟨[], by rw [List.append_nil]; exact h⟩
/-- n bytes go out. -/
theorem Duo.out {A B : Mx} {f g : List Fr} {o' : List Int} {SA CB SB CA : Nat → List Int} (h : Duo A B f g [] o' SA CB SB CA) (n : Int) : ∃ f', Duo { A.fill n (A.mu + 1) with out := (A.fill n (A.mu + 1)).out.drop n.toNat } B (f ++ f') g ((A.fill n (A.mu + 1)).out.take n.toNat) o' SA CB SB CA := by
  obtain ⟨f', h1⟩ := Duo.fill n (A.mu + 1) A f h
  refine ⟨f', ⟨?_, h1.ab.ok, h1.ab.text, h1.ab.room⟩, ⟨h1.ba.bytes, h1.ba.ok, h1.ba.text, h1.ba.room⟩, ⟨h1.fa.win, h1.fa.way, h1.fa.owed, h1.fa.back, h1.fa.last, h1.fa.sent, h1.fa.held, h1.fa.out.drop _, h1.fa.L, h1.fa.x⟩, h1.fb, h1.ea, h1.eb, h1.win⟩
  rw [h1.ab.bytes]
  show B.L ++ ([] ++ (A.fill n (A.mu + 1)).out) = B.L ++ ((A.fill n (A.mu + 1)).out.take n.toNat ++ (A.fill n (A.mu + 1)).out.drop n.toNat)
  rw [List.take_append_drop]
  rfl
/-- Less than a frame. -/
def Short (L : List Int) : List Fr → Prop
  | [] => L = []
  | x :: _ => L.length < x.enc.length
theorem getH_nil : getH [] = (0, [], 0, 4) := by
  have h : frame_Get.f 2000001 [] 0 = some (0, [], 0, 4) := by unfold frame_Get.f; rfl
  unfold getH; rw [h]; rfl
def Fr.kind : Fr → Int
  | .dat ch _ => (ch : Int)
  | .giv ch _ => ((8 + ch : Nat) : Int)
def Fr.body : Fr → List Int
  | .dat _ b => b
  | .giv _ n => Num.enc n
theorem Fr.enc_eq (x : Fr) : x.enc = encF x.kind x.body := by cases x <;> rfl
theorem Fr.parts {x : Fr} (hx : x.ok) : 0 ≤ x.kind ∧ x.kind ≤ 255 ∧ Byt x.body ∧ x.body.length ≤ 512 := by
  cases x with
  | dat ch b => exact ⟨Int.natCast_nonneg _, by have := hx.1; show (ch : Int) ≤ 255; omega, hx.2.1, hx.2.2.2⟩
  | giv ch n => exact ⟨Int.natCast_nonneg _, by have := hx.1; show ((8 + ch : Nat) : Int) ≤ 255; omega, enc_byt _, by have := enc_len9 (n := n) (by have := hx.2.2; omega); show (Num.enc n).length ≤ 512; omega⟩
theorem getH_whole {x : Fr} (hx : x.ok) (q : List Int) (hq : Byt q) (hl : q.length ≤ 1000000000) : getH (x.enc ++ q) = (x.kind, x.body, ((x.enc.length : Nat) : Int), 0) := by
  obtain ⟨h1, h2, h3, h4⟩ := Fr.parts hx
  have := get_encF 2000001 [] q x.kind x.body (by omega) byt_nil hq h1 h2 h3 (by omega) (by simp only [List.length_nil]; omega)
  rw [← Fr.enc_eq] at this
  have h5 : frame_Get.f 2000001 (x.enc ++ q) 0 = some (x.kind, x.body, ((x.enc.length : Nat) : Int), 0) := by
    simp only [List.nil_append, List.length_nil, Nat.zero_add] at this
    exact this
  unfold getH
  rw [h5]
  rfl
theorem getH_part {x : Fr} (hx : x.ok) (m : Nat) (hm : m < x.enc.length) : getH (x.enc.take m) = (0, [], 0, 4) := by
  obtain ⟨h1, h2, h3, h4⟩ := Fr.parts hx
  rw [Fr.enc_eq] at hm ⊢
  have := get_short 2000001 x.kind x.body m (by omega) h1 h2 h3 (by omega) hm
  unfold getH
  rw [this]
  rfl
theorem Duo.step {A B : Mx} {x : Fr} {t g : List Fr} {o' : List Int} {SA CB SB CA : Nat → List Int} (h : Duo A B (x :: t) g [] o' SA CB SB CA) (hw : x.enc.length ≤ B.L.length) : (getH B.L).2.2.2 = 0 ∧ Duo A B.step t g [] o' SA CB SB CA := by
  have hx := h.ab.ok x (by simp)
  have hb := h.ab.bytes
  rw [bytesF_cons, List.nil_append] at hb
  have hlen := h.len
  have hbo := h.bounds 0 (by omega)
  have hL : B.L = x.enc ++ B.L.drop x.enc.length := by
    have : B.L.take x.enc.length = x.enc := by
      have := congrArg (List.take x.enc.length) hb
      rwa [List.take_left, List.take_append_of_le_length hw, eq_comm] at this
    rw [← this, List.length_take, Nat.min_eq_left hw, this]
    have h2 := List.take_append_drop x.enc.length B.L
    rw [this] at h2
    exact h2.symm
  have hLl : B.L.length ≤ 184 * A.win.toNat := by
    rw [h.ab.bytes, List.length_append] at hlen; omega
  have hg := getH_whole hx (B.L.drop x.enc.length) (h.fb.L.drop _) (by rw [List.length_drop]; omega)
  rw [← hL] at hg
  have hstep : B.step = { (Mx.come { B with L := B.L.drop x.enc.length } x.kind x.body).1 with e := (Mx.come { B with L := B.L.drop x.enc.length } x.kind x.body).2 } := by
    unfold Mx.step
    rw [hg]
    dsimp only
    rw [Int.toNat_natCast]
  have hfit := (Mx.step_fit h.fb h.eb (by omega) (by rw [hg])).1
  have hb2 : bytesF t = B.L.drop x.enc.length ++ A.out := by
    have := congrArg (List.drop x.enc.length) hb
    rwa [List.drop_left, List.drop_append_of_le_length hw] at this
  refine ⟨by rw [hg], ?_⟩
  cases x with
  | dat ch b =>
    have hc8 := hx.1
    have hbd := h.bounds ch hc8
    have hro := h.ab.room ch hc8
    have ho := h.fb.owed ch hc8
    have hwin := h.win
    have hbk := h.fb.back ch hc8
    have hwa := h.fa.way ch hc8
    have hd : dat ch (Fr.dat ch b :: t) = b ++ dat ch t := by rw [dat_cons]; rw [show (Fr.dat ch b).bytes ch = b from if_pos rfl]
    rw [hd, List.length_append] at hro hbd
    have hw1 : wrap64 (B.win - B.owed ch) = B.win - B.owed ch := by unfold wrap64; omega
    have hw2 : wrap64 (B.owed ch + (b.length : Nat)) = B.owed ch + (b.length : Nat) := by unfold wrap64; omega
    have hcome : Mx.come { B with L := B.L.drop (Fr.dat ch b).enc.length } (Fr.dat ch b).kind (Fr.dat ch b).body = ({ B with L := B.L.drop (Fr.dat ch b).enc.length, held := upd B.held ch (B.held ch ++ b), owed := upd B.owed ch (B.owed ch + (b.length : Nat)) }, 0) := by
      unfold Mx.come
      rw [show (Fr.dat ch b).kind = (ch : Int) from rfl, show (Fr.dat ch b).body = b from rfl, if_pos (by omega), Int.toNat_natCast]
      dsimp only
      rw [hw1, hw2, if_neg (by omega)]
    rw [hcome] at hstep
    rw [hstep] at hfit ⊢
    refine ⟨⟨by rw [hb2]; rfl, fun y hy => h.ab.ok y (by simp [hy]), fun c hc => ?_, fun c hc => ?_⟩, ⟨h.ba.bytes, h.ba.ok, h.ba.text, fun c hc => ?_⟩, h.fa, hfit, h.ea, rfl, h.win⟩
    · rw [h.ab.text c hc]
      show _ = CB c ++ (upd B.held ch (B.held ch ++ b) c ++ (dat c t ++ A.sent c))
      unfold upd
      by_cases e : c = ch
      · subst e; rw [if_pos rfl, hd]; simp only [List.append_assoc]
      · rw [if_neg e, dat_cons, show (Fr.dat ch b).bytes c = [] from if_neg (Ne.symm e), List.nil_append]
    · have h1 := h.ab.room c hc
      show A.way c = ((A.sent c).length : Int) + ((dat c t).length : Int) + upd B.owed ch (B.owed ch + (b.length : Nat)) c + gif c g
      unfold upd
      by_cases e : c = ch
      · subst e; rw [if_pos rfl]; omega
      · rw [if_neg e]
        rw [dat_cons, show (Fr.dat ch b).bytes c = [] from if_neg (Ne.symm e), List.nil_append] at h1
        exact h1
    · have h1 := h.ba.room c hc
      rw [gif_cons, show (Fr.dat ch b).back c = 0 from rfl, Nat.zero_add] at h1
      exact h1
  | giv ch n =>
    have hc8 := hx.1
    have hro := h.ba.room ch hc8
    have hoA := h.fa.owed ch hc8
    have hbA := h.fa.back ch hc8
    have hwa := h.fb.way ch hc8
    have hwin := h.fb.win
    have hd : gif ch (Fr.giv ch n :: t) = n + gif ch t := by rw [gif_cons]; rw [show (Fr.giv ch n).back ch = n from if_pos rfl]
    rw [hd] at hro
    have hw1 : wrap64 (B.way ch - (n : Int)) = B.way ch - (n : Int) := by unfold wrap64; omega
    have hs : getS (Num.enc n) 0 = ((n : Int), ((Num.enc n).length : Int), 0) := by
      have := getS_enc [] [] n (by have := hx.2.2; omega) 0 rfl
      simpa using this
    have hcome : Mx.come { B with L := B.L.drop (Fr.giv ch n).enc.length } (Fr.giv ch n).kind (Fr.giv ch n).body = ({ B with L := B.L.drop (Fr.giv ch n).enc.length, way := upd B.way ch (B.way ch - (n : Int)) }, 0) := by
      unfold Mx.come
      rw [show (Fr.giv ch n).kind = ((8 + ch : Nat) : Int) from rfl, show (Fr.giv ch n).body = Num.enc n from rfl, if_neg (by omega), if_pos (by omega), Int.toNat_natCast, show 8 + ch - 8 = ch by omega, hs]
      unfold Mx.backS
      dsimp only
      rw [if_neg (by decide), if_neg (by omega), if_neg (by omega), hw1]
    rw [hcome] at hstep
    rw [hstep] at hfit ⊢
    refine ⟨⟨by rw [hb2]; rfl, fun y hy => h.ab.ok y (by simp [hy]), fun c hc => ?_, fun c hc => ?_⟩, ⟨h.ba.bytes, h.ba.ok, h.ba.text, fun c hc => ?_⟩, h.fa, hfit, h.ea, rfl, h.win⟩
    · have h1 := h.ab.text c hc
      rw [dat_cons, show (Fr.giv ch n).bytes c = [] from rfl, List.nil_append] at h1
      exact h1
    · have h1 := h.ab.room c hc
      rw [dat_cons, show (Fr.giv ch n).bytes c = [] from rfl, List.nil_append] at h1
      exact h1
    · have h1 := h.ba.room c hc
      show upd B.way ch (B.way ch - (n : Int)) c = ((B.sent c).length : Int) + ((dat c g).length : Int) + A.owed c + gif c t
      unfold upd
      by_cases e : c = ch
      · subst e; rw [if_pos rfl]; omega
      · rw [if_neg e]
        rw [gif_cons, show (Fr.giv ch n).back c = 0 from if_neg (Ne.symm e), Nat.zero_add] at h1
        exact h1
theorem Duo.takes {A : Mx} {g : List Fr} {o' : List Int} {SA CB SB CA : Nat → List Int} : ∀ (fu : Nat) (B : Mx) (f : List Fr), Duo A B f g [] o' SA CB SB CA → B.L.length < fu → ∃ f1 f2, f = f1 ++ f2 ∧ Duo A (Mx.takes fu B) f2 g [] o' SA CB SB CA ∧ Short (Mx.takes fu B).L f2
  | 0, B, f, h, hl => absurd hl (Nat.not_lt_zero _)
  | fu + 1, B, [], h, hl => by
    have hb := h.ab.bytes
    have hL : B.L = [] := by
      have := congrArg List.length hb
      simp only [List.nil_append, List.length_append, show (bytesF []).length = 0 from rfl] at this
      exact List.eq_nil_of_length_eq_zero (by omega)
    have hst := Mx.takes_stop (fu + 1) B (.inr (by rw [hL, getH_nil]))
    exact ⟨[], [], rfl, by rw [hst]; exact h, by rw [hst]; exact hL⟩
  | fu + 1, B, x :: t, h, hl => by
    by_cases hw : x.enc.length ≤ B.L.length
    · obtain ⟨h1, h2⟩ := h.step hw
      have hlt := (Mx.step_fit h.fb h.eb (by have := h.len; rw [h.ab.bytes, List.length_append] at this; have := h.bounds 0 (by omega); omega) h1).2
      obtain ⟨f1, f2, e, h3, h4⟩ := Duo.takes fu B.step t h2 (by omega)
      have hst : Mx.takes (fu + 1) B = Mx.takes fu B.step := by rw [Mx.takes_eq, if_pos h.eb, if_pos h1]
      exact ⟨x :: f1, f2, by rw [e]; rfl, by rw [hst]; exact h3, by rw [hst]; exact h4⟩
    · have hx := h.ab.ok x (by simp)
      have hb := h.ab.bytes
      rw [bytesF_cons, List.nil_append] at hb
      have hL : B.L = x.enc.take B.L.length := by
        have := congrArg (List.take B.L.length) hb
        rwa [List.take_left, List.take_append_of_le_length (by omega), eq_comm] at this
      have hst := Mx.takes_stop (fu + 1) B (.inr (by rw [hL, getH_part hx _ (by omega)]))
      exact ⟨[], x :: t, rfl, by rw [hst]; exact h, by rw [hst]; show B.L.length < _; omega⟩
/-- What is on the way comes. -/
theorem Duo.take {A B : Mx} {f g : List Fr} {o o' : List Int} {SA CB SB CA : Nat → List Int} (h : Duo A B f g o o' SA CB SB CA) (ho : Byt o) (fu : Nat) (hfu : (B.L ++ o).length < fu) : ∃ f1 f2, f = f1 ++ f2 ∧ Duo A (Mx.takes fu { B with L := B.L ++ o }) f2 g [] o' SA CB SB CA ∧ Short (Mx.takes fu { B with L := B.L ++ o }).L f2 := by
  refine Duo.takes fu { B with L := B.L ++ o } f ⟨⟨?_, h.ab.ok, h.ab.text, h.ab.room⟩, ⟨h.ba.bytes, h.ba.ok, h.ba.text, h.ba.room⟩, h.fa, ⟨h.fb.win, h.fb.way, h.fb.owed, h.fb.back, h.fb.last, h.fb.sent, h.fb.held, h.fb.out, h.fb.L.append ho, h.fb.x⟩, h.ea, h.eb, h.win⟩ hfu
  rw [h.ab.bytes]
  simp only [List.nil_append, List.append_assoc]
/-- What comes into a channel is received. -/
theorem Duo.recv {A B : Mx} {f g : List Fr} {o o' : List Int} {SA CB SB CA : Nat → List Int} (h : Duo A B f g o o' SA CB SB CA) (ch : Nat) (hch : ch < 8) : Duo A (B.recv ch) f g o o' SA (upd CB ch (CB ch ++ B.held ch)) SB CA := by
  refine ⟨⟨h.ab.bytes, h.ab.ok, fun c hc => ?_, h.ab.room⟩, ⟨h.ba.bytes, h.ba.ok, h.ba.text, h.ba.room⟩, h.fa, Mx.recv_fit h.fb ch hch, h.ea, h.eb, h.win⟩
  rw [h.ab.text c hc]
  show _ = upd CB ch (CB ch ++ B.held ch) c ++ (upd B.held ch [] c ++ (dat c f ++ A.sent c))
  unfold upd
  by_cases e : c = ch
  · subst e; rw [if_pos rfl, if_pos rfl]; simp only [List.append_assoc, List.nil_append]
  · rw [if_neg e, if_neg e]
theorem Duo.send {A B : Mx} {f g : List Fr} {o o' : List Int} {SA CB SB CA : Nat → List Int} (h : Duo A B f g o o' SA CB SB CA) (ch : Nat) (hch : ch < 8) (N : List Int) (hN : Byt N) (hf : (N.length : Int) ≤ A.win - A.way ch) : Duo (A.send ch N) B f g o o' (upd SA ch (SA ch ++ N)) CB SB CA := by
  have hw := h.fa.way ch hch
  have hwin := h.fa.win
  have e1 : wrap64 (A.way ch + (N.length : Nat)) = A.way ch + (N.length : Nat) := by unfold wrap64; omega
  refine ⟨⟨h.ab.bytes, h.ab.ok, fun c hc => ?_, fun c hc => ?_⟩, ⟨h.ba.bytes, h.ba.ok, h.ba.text, h.ba.room⟩, Mx.send_fit h.fa ch hch N hN hf, h.fb, h.ea, h.eb, h.win⟩
  · have h1 := h.ab.text c hc
    show upd SA ch (SA ch ++ N) c = CB c ++ (B.held c ++ (dat c f ++ upd A.sent ch (A.sent ch ++ N) c))
    unfold upd
    by_cases e : c = ch
    · subst e; rw [if_pos rfl, if_pos rfl, h1]; simp only [List.append_assoc]
    · rw [if_neg e, if_neg e]; exact h1
  · have h1 := h.ab.room c hc
    show upd A.way ch (wrap64 (A.way ch + (N.length : Nat))) c = ((upd A.sent ch (A.sent ch ++ N) c).length : Int) + ((dat c f).length : Int) + B.owed c + gif c g
    rw [e1]
    unfold upd
    by_cases e : c = ch
    · subst e; rw [if_pos rfl, if_pos rfl, List.length_append]; omega
    · rw [if_neg e, if_neg e]; exact h1
theorem Duo.new {win : Int} (h : 1 ≤ win ∧ win ≤ 65536) : Duo (Mx.new win) (Mx.new win) [] [] [] [] (fun _ => []) (fun _ => []) (fun _ => []) (fun _ => []) :=
  ⟨⟨rfl, fun _ hx => (by cases hx), fun _ _ => rfl, fun _ _ => rfl⟩, ⟨rfl, fun _ hx => (by cases hx), fun _ _ => rfl, fun _ _ => rfl⟩, .new h, .new h, rfl, rfl, rfl⟩
open Go.Proofs.YthehhbfiaaadgaaDoor.Num Go.Proofs.YthehhbfiaaadgaaDoor.Pure
theorem Mx.fill_end (n : Int) : ∀ (fu : Nat) (M : Mx), M.mu < fu → n ≤ ((Mx.fill n fu M).out.length : Int) ∨ (Mx.fill n fu M).next = none
  | 0, M, h => absurd h (Nat.not_lt_zero _)
  | fu + 1, M, h => by
    rw [Mx.fill_eq]
    split
    · cases hn : M.next with
      | none => exact .inr hn
      | some y =>
        obtain ⟨b, M1⟩ := y
        exact Mx.fill_end n fu _ (by have := Mx.next_mu hn; rw [Mx.mu_out]; dsimp only; omega)
    · rename_i hlt
      exact .inl (by omega)
theorem Mx.next_none {M : Mx} (h : M.next = none) : (∀ i, i < 8 → M.sent i = []) ∧ ∀ i, i < 8 → M.back i ≤ 0 := by
  unfold Mx.next at h
  split at h
  · cases h
  · rename_i hg
    have ht : M.turns = none := by
      cases ht : M.turns with
      | none => rfl
      | some k => rw [ht] at h; cases h
    exact ⟨Mx.turns_none ht, fun i hi => by have := of_decide_eq_false (Mx.gives_none hg i hi); omega⟩
def Mx.outs (M : Mx) (n : Int) : Mx := { M.fill n (M.mu + 1) with out := (M.fill n (M.mu + 1)).out.drop n.toNat }
def Mx.outB (M : Mx) (n : Int) : List Int := (M.fill n (M.mu + 1)).out.take n.toNat
def Mx.took (M : Mx) (N : List Int) : Mx := Mx.takes (M.L.length + N.length + 1) { M with L := M.L ++ N }
theorem Duo.outs {A B : Mx} {f g : List Fr} {o' : List Int} {SA CB SB CA : Nat → List Int} (h : Duo A B f g [] o' SA CB SB CA) (n : Int) : ∃ f', Duo (A.outs n) B (f ++ f') g (A.outB n) o' SA CB SB CA := h.out n
theorem Duo.took {A B : Mx} {f g : List Fr} {o o' : List Int} {SA CB SB CA : Nat → List Int} (h : Duo A B f g o o' SA CB SB CA) (ho : Byt o) : ∃ f1 f2, f = f1 ++ f2 ∧ Duo A (B.took o) f2 g [] o' SA CB SB CA ∧ Short (B.took o).L f2 := h.take ho _ (by rw [List.length_append]; omega)
theorem Mx.outB_byt {M : Mx} (h : M.Fit) (n : Int) : Byt (M.outB n) ∧ (M.outB n).length ≤ (M.fill n (M.mu + 1)).out.length := by
  have hg := (Mx.fill_good n M.pot (M.mu + 1) M ⟨h.last, h.sent, h.out, Nat.le_refl _⟩).1
  unfold Mx.outB
  exact ⟨hg.out.take _, by rw [List.length_take]; omega⟩
theorem Mx.outs_same {M : Mx} (h : M.Fit) (n : Int) : (M.outs n).win = M.win ∧ (M.outs n).way = M.way ∧ (M.outs n).held = M.held ∧ (M.outs n).L = M.L ∧ (M.outs n).x = M.x ∧ (M.outs n).e = M.e :=
  (Mx.fill_good n M.pot (M.mu + 1) M ⟨h.last, h.sent, h.out, Nat.le_refl _⟩).2
/-- All that A has goes over to B. -/
theorem Duo.pass {A B : Mx} {f g : List Fr} {o' : List Int} {SA CB SB CA : Nat → List Int} (h : Duo A B f g [] o' SA CB SB CA) (n : Int) (hn : (sum8 (fun ch => 8 * (A.way ch).toNat + 15 * (B.way ch).toNat) : Int) < n) :
    Duo (A.outs n) (B.took (A.outB n)) [] g [] o' SA CB SB CA ∧ (∀ i, i < 8 → (A.outs n).sent i = []) ∧ (∀ i, i < 8 → (A.outs n).back i = 0) ∧ (A.outs n).out = [] ∧ (B.took (A.outB n)).L = [] := by
  obtain ⟨f', h1⟩ := h.outs n
  obtain ⟨f'', h0⟩ := Duo.fill n (A.mu + 1) A f h
  have hby := (Mx.outB_byt h.fa n).1
  obtain ⟨f1, f2, e, h2, h3⟩ := h1.took hby
  have hw : (A.fill n (A.mu + 1)).way = A.way := (Mx.fill_good n A.pot (A.mu + 1) A ⟨h.fa.last, h.fa.sent, h.fa.out, Nat.le_refl _⟩).2.2.1
  have hlen : (A.fill n (A.mu + 1)).out.length ≤ sum8 (fun ch => 8 * (A.way ch).toNat + 15 * (B.way ch).toNat) := by
    have e1 := congrArg List.length h0.ab.bytes
    rw [List.length_append, List.length_append] at e1
    have e2 := bytesF_len _ h0.ab.ok
    refine Nat.le_trans (by omega) (Nat.le_trans e2 (sum8_mono (fun ch hch => ?_)))
    have r1 := h0.ab.room ch hch
    have r2 := h0.ba.room ch hch
    rw [hw] at r1
    have r3 := h0.fb.owed ch hch
    have r4 := h0.fb.back ch hch
    have r5 := h0.fa.owed ch hch
    have r6 := h0.fa.back ch hch
    omega
  have hnone : (A.fill n (A.mu + 1)).next = none := (Mx.fill_end n (A.mu + 1) A (Nat.lt_succ_self _)).resolve_left (by omega)
  obtain ⟨hs, hb⟩ := Mx.next_none hnone
  have hout : (A.outs n).out = [] := List.drop_of_length_le (by omega)
  have hf2 : f2 = [] := by
    cases f2 with
    | nil => rfl
    | cons x t =>
      exfalso
      have h4 : (B.took (A.outB n)).L.length < x.enc.length := h3
      have h5 := congrArg List.length h2.ab.bytes
      rw [bytesF_cons, List.length_append, hout] at h5
      simp only [List.nil_append, List.append_nil] at h5
      omega
  subst hf2
  exact ⟨h2, hs, fun i hi => by have h6 := h1.fa.back i hi; have h7 := hb i hi; have h8 : (A.outs n).back i = (A.fill n (A.mu + 1)).back i := rfl; omega, hout, h3⟩
/-! Two muxes in memory, and blocks of others. -/
theorem Tb.lower {w : World} {b0 b1 : Nat} {v : Value} {L : List Int} (h : Tb w b1 v L) (hb : b0 ≤ b1) : Tb w b0 v L := ⟨h.1.lower hb, h.2⟩
theorem Mm.lower {b0 b1 p q : Nat} {vs : Nat → Value} {M : Mx} {w : World} (h : Mm b1 p q vs M w) (hb : b0 ≤ b1) : Mm b0 p q vs M w :=
  ⟨h.hP, h.hQ, fun j hj => (h.hT j hj).lower hb, Kd.R_lower h.hS hb, h.apart, Nat.le_trans hb h.hp0, Nat.le_trans hb h.hq0⟩
structure Two (b0 : Nat) (K : Nat → Prop) (p q : Nat) (vs : Nat → Value) (A : Mx) (p' q' : Nat) (vs' : Nat → Value) (B : Mx) (w : World) : Prop where
  a : Mm b0 p q vs A w
  b : Mm b0 p' q' vs' B w
  ne : ∀ k, Mf p q vs k → ¬ Mf p' q' vs' k
  kk : ∀ k, K k → k < w.heap.size ∧ ¬ Mf p q vs k ∧ ¬ Mf p' q' vs' k
  bs : b0 ≤ w.heap.size
theorem Two.swap {b0 : Nat} {K : Nat → Prop} {p q p' q' : Nat} {vs vs' : Nat → Value} {A B : Mx} {w : World} (h : Two b0 K p q vs A p' q' vs' B w) : Two b0 K p' q' vs' B p q vs A w := ⟨h.b, h.a, fun k h1 h2 => h.ne k h2 h1, fun k hk => ⟨(h.kk k hk).1, (h.kk k hk).2.2, (h.kk k hk).2.1⟩, h.bs⟩
/-- From w to w1: nothing below b0, and nothing of K, has changed. -/
structure Nx (b0 : Nat) (K : Nat → Prop) (w w1 : World) : Prop where
  below : Below b0 w w1
  kept : ∀ k, K k → w1.heap[k]? = w.heap[k]?
theorem Nx.trans {b0 : Nat} {K : Nat → Prop} {a b c : World} (h : Nx b0 K a b) (k : Nx b0 K b c) : Nx b0 K a c := ⟨h.below.trans k.below, fun i hi => (k.kept i hi).trans (h.kept i hi)⟩
theorem Nx.refl (b0 : Nat) (K : Nat → Prop) (w : World) : Nx b0 K w w := ⟨Below.refl _ _, fun _ _ => rfl⟩
theorem Two.left {b0 : Nat} {K : Nat → Prop} {p q p' q' : Nat} {vs vs' vs1 : Nat → Value} {A B A1 : Mx} {w w1 : World} (h : Two b0 K p q vs A p' q' vs' B w) (hM : Mm b0 p q vs1 A1 w1) (hS : Stp (Mf p q vs) (Mf p q vs1) w w1) : Two b0 K p q vs1 A1 p' q' vs' B w1 ∧ Nx b0 K w w1 := by
  refine ⟨⟨hM, h.b.past hS (fun k hk hk2 => h.ne k hk2 hk), fun k hk hk2 => ?_, fun k hk => ⟨Nat.lt_of_lt_of_le (h.kk k hk).1 hS.size, fun hk2 => ?_, (h.kk k hk).2.2⟩, Nat.le_trans h.bs hS.size⟩, hS.below b0 (fun k hk => (h.a.foot k hk).1) h.bs, fun k hk => hS.block k (h.kk k hk).1 (h.kk k hk).2.1⟩
  · rcases hS.foot k hk with hk3 | hk3
    · exact h.ne k hk3 hk2
    · have := (h.b.foot k hk2).2
      omega
  · rcases hS.foot k hk2 with hk3 | hk3
    · exact (h.kk k hk).2.1 hk3
    · have := (h.kk k hk).1
      omega
theorem Two.right {b0 : Nat} {K : Nat → Prop} {p q p' q' : Nat} {vs vs' vs1 : Nat → Value} {A B B1 : Mx} {w w1 : World} (h : Two b0 K p q vs A p' q' vs' B w) (hM : Mm b0 p' q' vs1 B1 w1) (hS : Stp (Mf p' q' vs') (Mf p' q' vs1) w w1) : Two b0 K p q vs A p' q' vs1 B1 w1 ∧ Nx b0 K w w1 := by
  obtain ⟨h1, h2⟩ := h.swap.left hM hS
  exact ⟨h1.swap, h2⟩
theorem Two.below {b0 : Nat} {K : Nat → Prop} {p q p' q' : Nat} {vs vs' : Nat → Value} {A B : Mx} {w w1 : World} (h : Two b0 K p q vs A p' q' vs' B w) (hb : Below w.heap.size w w1) : Two b0 K p q vs A p' q' vs' B w1 ∧ Nx b0 K w w1 := h.left (h.a.below hb) (.of_below hb)
theorem Two.new {b0 : Nat} {p q p' q' : Nat} {vs vs' : Nat → Value} {A B : Mx} {w w1 : World} (hb : b0 ≤ w.heap.size) (h : Mm b0 p q vs A w) (h' : Mm w.heap.size p' q' vs' B w1) (hB : Below w.heap.size w w1) : Two b0 (fun _ => False) p q vs A p' q' vs' B w1 :=
  ⟨h.below hB, h'.lower hb, fun k hk hk2 => by have := (h.foot k hk).2; have := (h'.foot k hk2).1; omega, fun k hk => hk.elim, Nat.le_trans hb hB.size⟩
/-- A block of another's is minded, too. -/
theorem Two.mind {b0 : Nat} {K : Nat → Prop} {p q p' q' : Nat} {vs vs' : Nat → Value} {A B : Mx} {w : World} (h : Two b0 K p q vs A p' q' vs' B w) (g : Nat) (hg : g < w.heap.size) (h1 : ¬ Mf p q vs g) (h2 : ¬ Mf p' q' vs' g) : Two b0 (fun k => K k ∨ k = g) p q vs A p' q' vs' B w :=
  ⟨h.a, h.b, h.ne, fun k hk => hk.elim (h.kk k) (fun e => e ▸ ⟨hg, h1, h2⟩), h.bs⟩
/-- A store into a minded block. -/
theorem Two.put {b0 : Nat} {K : Nat → Prop} {p q p' q' : Nat} {vs vs' : Nat → Value} {A B : Mx} {w : World} (h : Two b0 K p q vs A p' q' vs' B w) (a : Addr) (u : Value) (h1 : ¬ Mf p q vs a.block) (h2 : ¬ Mf p' q' vs' a.block) : Two b0 K p q vs A p' q' vs' B (w.setCell a u) :=
  ⟨h.a.kept (fun k hk => Below.heap_setCell w a u k (fun e => h1 (e ▸ hk))), h.b.kept (fun k hk => Below.heap_setCell w a u k (fun e => h2 (e ▸ hk))), h.ne, fun k hk => ⟨by have := (h.kk k hk).1; simpa [World.setCell] using this, (h.kk k hk).2⟩, by have := h.bs; simpa [World.setCell] using this⟩
theorem C_block {w : World} {g : Nat} {t : TypeId} {L : List Int} (h : w.heap[g]? = some (.cells (L.map (Value.int .u8)).toArray t (0, 0))) (hl : L.length ≤ 9223372036854775807) : Kd.C (Kd.int .u8) w (some ⟨g, 0, none⟩) L.length L := by
  refine ⟨rfl, hl, fun _ => ⟨_, rfl, fun j p hp => ⟨[.int .u8 p], rfl, rfl, fun i u hu => ?_⟩⟩⟩
  have hi : i = 0 := by
    have := (List.getElem?_eq_some_iff.1 hu).1
    simpa using this
  subst hi
  have hu2 : Value.int .u8 p = u := by simpa using hu
  subst hu2
  rw [show j * (Kd.int .u8).sz + 0 = j from by show j * 1 + 0 = j; omega, add_at, blk_cell h]
  rw [Nat.zero_add, List.getElem?_toArray, List.getElem?_map, hp]
  rfl
section
variable {b0 : Nat} {K : Nat → Prop} {p q p' q' : Nat} {vs vs' : Nat → Value} {A B : Mx}
theorem two_Send (ch : Int) (D : Option Addr) (n c : Nat) (N : List Int) (w : World) (h : Two b0 K p q vs A p' q' vs' B w) (hf : A.Fit) (hC : Kd.C (Kd.int .u8) w D n N) (hl : ∀ ch, ch < 8 → (A.sent ch).length + n ≤ 140737488355328) :
    Calls Tryd.prog 16 #[.pointer (some ⟨p, 0, none⟩), .int .i64 ch, .slice D n c] w fun e w' => e = .returned (.int .i64 (A.sendE ch n)) ∧ ∃ vs1, Two b0 K p q vs1 (if A.sendE ch n = 0 then A.send ch.toNat N else A) p' q' vs' B w' ∧ Nx b0 K w w' := by
  refine (mux_Send.any ch D n c N w h.a hf hC hl h.bs).mono ?_
  rintro e w' ⟨rfl, vs1, hM, hS⟩
  exact ⟨rfl, vs1, h.left hM hS⟩
theorem two_Out (n : Int) (w : World) (h : Two b0 K p q vs A p' q' vs' B w) (hG : GT w) (hb0 : 0 < b0) (g : A.Good 20000000) (he : A.e = 0) (hn : 1 ≤ n) :
    Calls Tryd.prog 14 #[.pointer (some ⟨p, 0, none⟩), .int .i64 n] w fun e w' => ∃ v vs1, e = .returned v ∧ (Kd.int .u8).R 5 w' w.heap.size (fun _ => True) v (A.outB n) ∧ Two b0 K p q vs1 (A.outs n) p' q' vs' B w' ∧ Nx b0 K w w' := by
  refine (mux_Out.at_ n w h.a hG hb0 h.bs g (by omega) he hn).mono ?_
  rintro e w' ⟨v, vs1, rfl, hR, hM, hS⟩
  obtain ⟨h1, h2⟩ := h.left hM hS
  exact ⟨v, vs1, rfl, hR, h1, h2⟩
theorem two_Take (D : Option Addr) (n c : Nat) (N : List Int) (w : World) (h : Two b0 K p q vs A p' q' vs' B w) (hG : GT w) (hb0 : 0 < b0) (hC : Kd.C (Kd.int .u8) w D n N) (hN : Byt N) (he : A.e = 0) (hf : A.Fit) (hl : A.L.length + n ≤ 1000000000) :
    Calls Tryd.prog 17 #[.pointer (some ⟨p, 0, none⟩), .slice D n c] w fun e w' => e = .returned (.int .i64 (A.took N).e) ∧ ∃ vs1, Two b0 K p q vs1 (A.took N) p' q' vs' B w' ∧ Nx b0 K w w' := by
  have hn := hC.1
  refine (mux_Take.at_ D n c N w h.a hG hb0 h.bs hC hN he hf hl).mono ?_
  rintro e w' ⟨rfl, vs1, hM, hS⟩
  unfold Mx.took
  rw [hn]
  exact ⟨rfl, vs1, h.left hM hS⟩
theorem two_Recv (ch : Nat) (hch : ch < 8) (w : World) (h : Two b0 K p q vs A p' q' vs' B w) :
    Calls Tryd.prog 18 #[.pointer (some ⟨p, 0, none⟩), .int .i64 ch] w fun e w' => ∃ v vs1, e = .returned v ∧ Tb w' b0 v (A.held ch) ∧ Two b0 K p q vs1 (A.recv ch) p' q' vs' B w' ∧ Nx b0 K w w' := by
  refine (mux_Recv.full ch hch w h.a).mono ?_
  rintro e w' ⟨v, vs1, rfl, hT, _, hM, hS⟩
  obtain ⟨h1, h2⟩ := h.left hM hS
  exact ⟨v, vs1, rfl, hT, h1, h2⟩
theorem two_Room (ch : Nat) (hch : ch < 8) (w : World) (h : Two b0 K p q vs A p' q' vs' B w) (hf : A.Fit) :
    Calls Tryd.prog 19 #[.pointer (some ⟨p, 0, none⟩), .int .i64 ch] w fun e w' => e = .returned (.int .i64 (A.win - A.way ch)) ∧ Two b0 K p q vs A p' q' vs' B w' ∧ Nx b0 K w w' := by
  refine (mux_Room.at_ ch hch w h.a).mono ?_
  rintro e w' ⟨rfl, hb⟩
  rw [Mx.room hf ch hch]
  exact ⟨rfl, h.below hb⟩
theorem two_Held (ch : Nat) (hch : ch < 8) (w : World) (h : Two b0 K p q vs A p' q' vs' B w) :
    Calls Tryd.prog 24 #[.pointer (some ⟨p, 0, none⟩), .int .i64 ch] w fun e w' => e = .returned (.int .i64 ((A.held ch).length : Nat)) ∧ Two b0 K p q vs A p' q' vs' B w' ∧ Nx b0 K w w' := by
  refine (mux_Held.at_ ch hch w h.a).mono ?_
  rintro e w' ⟨rfl, hb⟩
  exact ⟨rfl, h.below hb⟩
end
theorem sum8_zero {f : Nat → Nat} (h : sum8 f = 0) (i : Nat) (hi : i < 8) : f i = 0 := by have := sum8_le (f := f) i hi; omega
def abcd : List Int := [97, 98, 99, 100]
def awA : Mx := ((Mx.new 4).send 1 abcd).send 2 [120]
def awB : Mx := (Mx.new 4).took (awA.outB 100)
def awA2 : Mx := awA.outs 100
def awB3 : Mx := (awB.recv 1).recv 2
theorem dat_nil (ch : Nat) : dat ch [] = [] := rfl
theorem gif_nil (ch : Nat) : gif ch [] = 0 := rfl
theorem awA_way (i : Nat) : awA.way i = if i = 2 then 1 else if i = 1 then 4 else 0 := by
  have w4 : wrap64 ((0 : Int) + (abcd.length : Nat)) = 4 := by
    rw [show abcd.length = 4 from rfl]; unfold wrap64; omega
  have w1 : wrap64 ((0 : Int) + (([120] : List Int).length : Nat)) = 1 := by
    rw [show ([120] : List Int).length = 1 from rfl]; unfold wrap64; omega
  show upd (upd (fun _ => (0 : Int)) 1 (wrap64 ((0 : Int) + (abcd.length : Nat)))) 2 (wrap64 ((0 : Int) + (([120] : List Int).length : Nat))) i = _
  rw [w4, w1]
  rfl
theorem byt_abcd : Byt abcd := fun x hx => by unfold abcd at hx; simp at hx; omega
theorem awake_one : ∃ g SA CB SB CA, Duo awA (Mx.new 4) [] g [] [] SA CB SB CA ∧ SA 1 = abcd ∧ SA 2 = [120] ∧ (∀ i, CB i = []) := by
  have h0 := Duo.new (win := 4) ⟨by decide, by decide⟩
  have h1 := h0.send 1 (by omega) abcd byt_abcd (by decide)
  have h2 := h1.send 2 (by omega) [120] (fun x hx => by simp at hx; omega) (by decide)
  exact ⟨_, _, _, _, _, h2, rfl, rfl, fun _ => rfl⟩
theorem awake_two : ∃ SA CB SB CA, Duo awA2 awB [] [] [] [] SA CB SB CA ∧ awB.held 1 = abcd ∧ awB.held 2 = [120] ∧ awA.Good 20000000 ∧ awA.Fit ∧ awA.e = 0 ∧ Byt (awA.outB 100) ∧ (awA.outB 100).length ≤ 20000000 ∧ awA2.way 1 = 4 ∧ awA2.way 2 = 1 ∧ (∀ i, i < 8 → awB.way i = 0) ∧ sum8 (fun ch => 8 * (awB.way ch).toNat + 15 * (awA2.way ch).toNat) < 100 := by
  obtain ⟨g, SA, CB, SB, CA, h, e1, e2, e3⟩ := awake_one
  have hg0 : g = [] := by
    cases g with
    | nil => rfl
    | cons x t =>
      have h1 := congrArg List.length h.ba.bytes
      rw [bytesF_cons, List.length_append] at h1
      have h2 := (Fr.len (h.ba.ok x (by simp))).1
      have h3 : (awA.L.length + ([] ++ (Mx.new 4).out).length) = 0 := rfl
      rw [List.length_append, h3] at h1
      omega
  subst hg0
  have hnw : ∀ i, (Mx.new 4).way i = 0 := fun _ => rfl
  obtain ⟨h1, hs, hb, ho, hL⟩ := h.pass 100 (by simp only [sum8, awA_way, hnw]; decide)
  have hw : awA2.way = awA.way := (Mx.outs_same h.fa 100).2.1
  have t1 := h1.ab.text 1 (by omega)
  have t2 := h1.ab.text 2 (by omega)
  rw [e1, e3, hs 1 (by omega)] at t1
  rw [e2, e3, hs 2 (by omega)] at t2
  have hbw : ∀ i, i < 8 → awB.way i = 0 := fun i hi => by
    have r := h1.ba.room i hi
    have r0 := h.ba.room i hi
    have hf : awA2.Fit := h1.fa
    have ho2 := hf.owed i hi
    have hb2 := hb i hi
    have hh : awA2.held = awA.held := (Mx.outs_same h.fa 100).2.2.1
    have hh0 : awA.held i = [] := rfl
    have hbs : (awB.sent i).length = 0 := by
      have t := h1.ba.text i hi
      have t0 := h.ba.text i hi
      rw [t] at t0
      have := congrArg List.length t0
      simp only [List.length_append] at this
      have hh2 : ((Mx.new 4).sent i).length = 0 := rfl
      have hh3 : (awA2.held i).length = (awA.held i).length := by rw [hh]
      have hh4 : (dat i ([] : List Fr)).length = 0 := rfl
      have hh5 : ((awA.outs 100).held i).length = (awA2.held i).length := rfl
      have hh6 : (((Mx.new 4).took (awA.outB 100)).sent i).length = (awB.sent i).length := rfl
      omega
    have hh3 : ((awA.outs 100).held i).length = 0 := by
      have : (awA.outs 100).held i = [] := (congrFun hh i).trans hh0
      rw [this]; rfl
    have e5 : (awA.outs 100).back i = 0 := hb2
    have e6 : (dat i ([] : List Fr)).length = 0 := rfl
    have e7 : gif i ([] : List Fr) = 0 := rfl
    have e8 : (((Mx.new 4).took (awA.outB 100)).sent i).length = (awB.sent i).length := rfl
    have e9 : ((Mx.new 4).took (awA.outB 100)).way i = awB.way i := rfl
    have e10 : (awA.outs 100).owed i = awA2.owed i := rfl
    have e11 : (awA2.held i).length = ((awA.outs 100).held i).length := rfl
    have e12 : awA2.back i = (awA.outs 100).back i := rfl
    omega
  have hby := Mx.outB_byt h.fa 100
  refine ⟨_, _, _, _, h1, ?_, ?_, h.good, h.fa, h.ea, hby.1, ?_, by rw [hw, awA_way]; rfl, by rw [hw, awA_way]; rfl, hbw, ?_⟩
  · have t := t1.symm
    simp [dat_nil] at t
    exact t
  · have t := t2.symm
    simp [dat_nil] at t
    exact t
  · obtain ⟨f', h2⟩ := Duo.fill 100 (awA.mu + 1) awA [] h
    have h3 := h2.good.pot
    unfold Mx.pot at h3
    omega
  · rw [hw]
    simp only [sum8, awA_way]
    rw [hbw 0 (by omega), hbw 1 (by omega), hbw 2 (by omega), hbw 3 (by omega), hbw 4 (by omega), hbw 5 (by omega), hbw 6 (by omega), hbw 7 (by omega)]
    decide
theorem awake_three : awB.e = 0 ∧ awB.Fit ∧ awB3.Good 20000000 ∧ awB3.Fit ∧ awB3.e = 0 ∧ Byt (awB3.outB 100) ∧ (awB3.outB 100).length ≤ 20000000 ∧ awA2.Fit ∧ awA2.e = 0 ∧ awA2.L.length ≤ 20000000 ∧ (awA2.took (awB3.outB 100)).e = 0 ∧ (awA2.took (awB3.outB 100)).win - (awA2.took (awB3.outB 100)).way 1 = 4 ∧ (awA2.took (awB3.outB 100)).win - (awA2.took (awB3.outB 100)).way 2 = 4 ∧ (awA2.took (awB3.outB 100)).Fit := by
  obtain ⟨SA, CB, SB, CA, h, e1, e2, _, _, _, _, _, w1, w2, hbw, hsum⟩ := awake_two
  have h1 := h.recv 1 (by omega)
  have h2 := h1.recv 2 (by omega)
  have h3 := h2.swap
  obtain ⟨h4, hs, hb, ho, hL⟩ := h3.pass 100 (by
    have : awB3.way = awB.way := rfl
    show (sum8 (fun ch => 8 * (awB3.way ch).toNat + 15 * (awA2.way ch).toNat) : Int) < 100
    rw [this]; omega)
  have hby := Mx.outB_byt h3.fa 100
  have hlen : (awB3.outB 100).length ≤ 20000000 := by
    obtain ⟨f', h5⟩ := Duo.fill 100 (awB3.mu + 1) awB3 [] h3
    have h6 := h5.good.pot
    unfold Mx.pot at h6
    have := hby.2
    show (Mx.outB ((awB.recv 1).recv 2) 100).length ≤ 20000000
    have e : awB3 = (awB.recv 1).recv 2 := rfl
    rw [e] at h6
    omega
  have hAL : awA2.L.length ≤ 20000000 := by
    have h5 := congrArg List.length h.ba.bytes
    rw [List.length_append] at h5
    have h6 : (bytesF []).length = 0 := rfl
    omega
  have hh1 : ∀ i, ¬ i = 1 → ¬ i = 2 → awB3.held i = awB.held i := fun i a b => by
    show upd (upd awB.held 1 []) 2 [] i = _
    unfold upd; rw [if_neg b, if_neg a]
  have hheld : ∀ i, i = 1 ∨ i = 2 → awB3.held i = [] := fun i hi => by
    show upd (upd awB.held 1 []) 2 [] i = _
    unfold upd
    rcases hi with rfl | rfl
    · rw [if_neg (by decide), if_pos rfl]
    · rw [if_pos rfl]
  have key : ∀ i, i = 1 ∨ i = 2 → (awA2.took (awB3.outB 100)).way i = 0 := fun i hi => by
    have hi8 : i < 8 := by omega
    have r := h4.ba.room i hi8
    have o := h4.fa.owed i hi8
    have b := hb i hi8
    have hd := (Mx.outs_same h3.fa 100).2.2.1
    have hd2 : ((Mx.outs ((awB.recv 1).recv 2) 100).held i).length = 0 := by
      rw [hd]
      show (awB3.held i).length = 0
      rw [hheld i hi]; rfl
    have hs2 : ((awA2.took (awB3.outB 100)).sent i).length = 0 := by
      have t := h4.ba.text i hi8
      have t0 := h3.ba.text i hi8
      rw [t] at t0
      have := congrArg List.length t0
      simp only [List.length_append, dat_nil, List.length_nil] at this
      have hh5 : ((Mx.outs ((awB.recv 1).recv 2) 100).held i).length = (awB3.held i).length := by rw [hd]; rfl
      have hh6 : (awA2.sent i).length = 0 := by
        have hs0 : awA2.sent i = [] := by
          obtain ⟨g, SA', CB', SB', CA', h', e1', e2', e3'⟩ := awake_one
          have hg0 : g = [] := by
            cases g with
            | nil => rfl
            | cons x t =>
              have h1 := congrArg List.length h'.ba.bytes
              rw [bytesF_cons, List.length_append] at h1
              have h2 := (Fr.len (h'.ba.ok x (by simp))).1
              have h3 : (awA.L.length + ([] ++ (Mx.new 4).out).length) = 0 := rfl
              rw [List.length_append, h3] at h1
              omega
          subst hg0
          have hnw : ∀ i, (Mx.new 4).way i = 0 := fun _ => rfl
          exact (h'.pass 100 (by simp only [sum8, awA_way, hnw]; decide)).2.1 i hi8
        rw [hs0]; rfl
      have hh7 : ((awA2.took (Mx.outB ((awB.recv 1).recv 2) 100)).sent i).length = ((awA2.took (awB3.outB 100)).sent i).length := rfl
      have hh8 : (((awB.recv 1).recv 2).held i).length = (awB3.held i).length := rfl
      omega
    rw [gif_nil, dat_nil] at r
    have e8 : (awA2.took (Mx.outB ((awB.recv 1).recv 2) 100)).way i = (awA2.took (awB3.outB 100)).way i := rfl
    have e9 : ((awA2.took (Mx.outB ((awB.recv 1).recv 2) 100)).sent i).length = ((awA2.took (awB3.outB 100)).sent i).length := rfl
    have e10 : ([] : List Int).length = 0 := rfl
    omega
  have hwin : (awA2.took (awB3.outB 100)).win = 4 := by
    have hw1 : awA2.win = 4 := (Mx.outs_same awake_one.choose_spec.choose_spec.choose_spec.choose_spec.choose_spec.1.fa 100).1
    have a := h4.win
    have b := (Mx.outs_same h3.fa 100).1
    have c := h3.win
    exact a.symm.trans (b.trans (c.trans hw1))
  exact ⟨h.eb, h.fb, h3.good, h3.fa, h3.ea, hby.1, hlen, h.fa, h.ea, hAL, h4.eb, by rw [hwin, key 1 (.inl rfl)]; rfl, by rw [hwin, key 2 (.inr rfl)]; rfl, h4.fb⟩
open Go.Proofs.YthehhbfiaaadgaaDoor.Num Go.Proofs.YthehhbfiaaadgaaDoor.Pure
theorem gt_pos {w : World} (h : GT w) : 0 < w.heap.size := by
  have := World.block_lt_of_cell? w _ (h 0 (by decide))
  exact this
theorem new_at (win : Int) (hw : 1 ≤ win ∧ win ≤ 65536) (w : World) : Calls Tryd.prog 20 #[.int .i64 win] w fun e w' => ∃ p q, e = .returned (.tuple #[.pointer (some ⟨p, 0, none⟩), .int .i64 0]) ∧ Mm w.heap.size p q (fun _ => .slice none 0 0) (Mx.new win) w' ∧ Below w.heap.size w w' :=
  mux_New.at_ win w (by rw [Bool.or_eq_false_iff, decide_eq_false_iff_not, decide_eq_false_iff_not]; omega)
theorem conv_tb {w : World} {b0 : Nat} {v : Value} {L : List Int} (h : Tb w b0 v L) : ∃ A c, v = .slice A L.length c ∧ (convert 32 9 (.slice A L.length c)).run Tryd.prog w = .ok (.string (strOfNums L)) w := by
  obtain ⟨A, c, hv, hc, hC⟩ := h.reads
  exact ⟨A, c, hv, Kd.C_string (P := Tryd.prog) (A := A) (c := c) Tryd.underlying32 Tryd.underlying5 Tryd.underlying9 hC⟩
set_option maxHeartbeats 8000000 in
set_option maxRecDepth 100000 in
theorem law_awake (w : World) (hG : GT w) (h0 : 0 < w.heap.size) : Calls Tryd.prog 10 #[] w fun e w' => e = .returned (.bool true) ∧ Below w.heap.size w w' := by
  have HG := Aside0.mk hG
  have H0 := Aside0.mk h0
  clear hG h0
  have kc := fun (w : World) (C : Array Value) (n c : Nat) => Lib.run_convert_bytes_const (P := Tryd.prog) w 32 5 C n c Tryd.underlying32 Tryd.underlying5
  go_enter Tryd.func10, Tryd.ntmps10
  go_wp2_with fail
  refine (new_at 4 (by decide) w).mono ?_
  rintro e w1 ⟨p, q, rfl, hM1, hb1⟩
  have HM1 := Aside0.mk hM1
  have HB1 := Aside0.mk hb1
  clear hM1 hb1
  go_wp2_with fail
  refine (new_at 4 (by decide) w1).mono ?_
  rintro e w2 ⟨p', q', rfl, hM2, hb2⟩
  have hT2 := Two.new HB1.out.size HM1.out hM2 hb2
  have HT2 := Aside0.mk hT2
  have HN2 := Aside0.mk (Nx.mk (K := fun _ => False) (HB1.out.trans (hb2.mono HB1.out.size)) (fun _ h => h.elim))
  clear hM2 hb2 hT2 HM1 HB1
  have hz4 := Kd.C_const w2 5 abcd (4, 5) (by decide)
  have hz := HT2.out.below (below_alloc (Below.refl _ w2) (.cells (abcd.map fun x => Value.int .u8 x).toArray 5 (4, 5)))
  have HZ := Aside0.mk hz
  have hs1 := two_Send 1 (some ⟨w2.heap.size, 0, none⟩) 4 4 abcd _ hz.1 (Mx.Fit.new ⟨by decide, by decide⟩) hz4 (fun _ _ => by show 0 + 4 ≤ _; omega)
  rw [show (Mx.new 4).sendE 1 4 = 0 from rfl, if_pos rfl] at hs1
  have HS1 := Aside0.mk hs1
  clear hz4 hz hs1
  go_wp2_with fail
  refine HS1.out.mono ?_
  rintro e w3 ⟨rfl, vs3, hT3, hN3⟩
  have HT3 := Aside0.mk hT3
  have HN3 := Aside0.mk (HN2.out.trans (HZ.out.2.trans hN3))
  have HR := Aside0.mk (two_Room 1 (by omega) w3 hT3 (Mx.send_fit (Mx.Fit.new ⟨by decide, by decide⟩) 1 (by omega) abcd byt_abcd (by decide)))
  clear hT3 hN3 HS1 HT2 HZ HN2
  go_wp2_with fail
  refine HR.out.mono ?_
  rintro e w4 ⟨rfl, hT4, hN4⟩
  have hw0 : ((Mx.new 4).send (1 : Int).toNat abcd).win - ((Mx.new 4).send (1 : Int).toNat abcd).way 1 = 0 := by
    show (4 : Int) - upd (fun _ => (0 : Int)) 1 (wrap64 ((0 : Int) + (abcd.length : Nat))) 1 = 0
    rw [show abcd.length = 4 from rfl, show wrap64 ((0 : Int) + ((4 : Nat) : Int)) = 4 by unfold wrap64; omega]
    rfl
  rw [hw0]
  have hz4 := Kd.C_const w4 5 [120] (1, 2) (by decide)
  have hz := hT4.below (below_alloc (Below.refl _ w4) (.cells (([120] : List Int).map fun x => Value.int .u8 x).toArray 5 (1, 2)))
  have HN4 := Aside0.mk (HN3.out.trans (hN4.trans hz.2))
  have hfit1 := (Mx.send_fit (Mx.Fit.new ⟨by decide, by decide⟩) 1 (by omega) abcd byt_abcd (by decide) : ((Mx.new 4).send 1 abcd).Fit)
  have hs1 := two_Send 2 (some ⟨w4.heap.size, 0, none⟩) 1 1 [120] _ hz.1 hfit1 hz4 (fun c _ => by
    show (upd (fun _ => ([] : List Int)) 1 ([] ++ abcd) c).length + 1 ≤ _
    unfold upd
    split
    · show 4 + 1 ≤ _; omega
    · show 0 + 1 ≤ _; omega)
  rw [show ((Mx.new 4).send (1 : Int).toNat abcd).sendE 2 1 = 0 from rfl, if_pos rfl] at hs1
  have HS1 := Aside0.mk hs1
  clear hz4 hz hs1 hT4 hN4 hw0 HR HT3 HN3 hfit1
  go_wp2_with fail
  refine HS1.out.mono ?_
  rintro e w5 ⟨rfl, vs5, hT5, hN5⟩
  have hT5' : Two w.heap.size (fun _ => False) p q vs5 awA p' q' (fun _ => .slice none 0 0) (Mx.new 4) w5 := hT5
  have HN5 := Aside0.mk (HN4.out.trans hN5)
  obtain ⟨SA, CB, SB, CA, hD, e1, e2, ag, af, ae, aby, al, aw1, aw2, _, _⟩ := awake_two
  have HO := Aside0.mk (two_Out 100 w5 hT5' (HG.out.past HN5.out.below H0.out) H0.out ag ae (by decide))
  have HA := Aside0.mk (And.intro aby al)
  have HB := Aside0.mk (And.intro e1 e2)
  clear hT5 hN5 hT5' hD ag af ae aby al aw1 aw2 HS1 HN4 e1 e2
  go_wp2_with fail
  refine HO.out.mono ?_
  rintro e w6 ⟨v, vs6, rfl, hR, hT6, hN6⟩
  obtain ⟨Ao, co, rfl⟩ := Kd.R_slice hR
  obtain ⟨_, _, hCo⟩ := Kd.R_reads' hR
  have HN6 := Aside0.mk (HN5.out.trans hN6)
  have HTk := Aside0.mk (two_Take Ao _ co _ w6 hT6.swap (HG.out.past HN6.out.below H0.out) H0.out hCo HA.out.1 rfl (Mx.Fit.new ⟨by decide, by decide⟩) (by have := HA.out.2; show 0 + _ ≤ _; omega))
  obtain ⟨no, hno⟩ : ∃ no, (awA.outB 100).length = no := ⟨_, rfl⟩
  rw [hno] at HTk ⊢
  clear hR hCo hT6 hN6 HO HN5 hno
  go_wp2_with fail
  refine HTk.out.mono ?_
  rintro e w7 ⟨rfl, vs7, hT7, hN7⟩
  have hT7' : Two w.heap.size (fun _ => False) p' q' vs7 awB p q vs6 awA2 w7 := hT7
  obtain ⟨be, bf, bg3, bf3, be3, bby, bl, a2f, a2e, a2L, t1, t2, t3, t4⟩ := awake_three
  have be' : ((Mx.new 4).took (awA.outB 100)).e = 0 := be
  rw [be']
  have HN7 := Aside0.mk (HN6.out.trans hN7)
  have hH := two_Held 1 (by omega) w7 hT7'
  rw [HB.out.1, show abcd.length = 4 from rfl] at hH
  have HH := Aside0.mk hH
  have H3 := Aside0.mk (And.intro bf (And.intro bg3 (And.intro bf3 (And.intro be3 (And.intro bby (And.intro bl (And.intro a2f (And.intro a2e (And.intro a2L (And.intro t1 (And.intro t2 (And.intro t3 t4))))))))))))
  clear hH hT7 hT7' hN7 be bf bg3 bf3 be3 bby bl a2f a2e a2L t1 t2 t3 t4 be' HTk HN6
  go_wp2_with fail
  refine HH.out.mono ?_
  rintro e w8 ⟨rfl, hT8, hN8⟩
  have HN8 := Aside0.mk (HN7.out.trans hN8)
  have HRc := Aside0.mk (two_Recv 1 (by omega) w8 hT8)
  clear hT8 hN8 HH HN7
  go_wp2_with fail
  refine HRc.out.mono ?_
  rintro e w9 ⟨v, vs9, rfl, hTb, hT9, hN9⟩
  rw [HB.out.1] at hTb
  obtain ⟨Ar, cr, rfl, hcv⟩ := conv_tb hTb
  have HN9 := Aside0.mk (HN8.out.trans hN9)
  have HRc2 := Aside0.mk (two_Recv 2 (by omega) w9 hT9)
  have hcv' : (convert 32 9 (.slice Ar 4 cr)).run Tryd.prog w9 = .ok (.string ⟨#[97, 98, 99, 100]⟩) w9 := by
    have e : strOfNums abcd = ⟨#[97, 98, 99, 100]⟩ := by decide
    rw [← e]; exact hcv
  have hlen4 : abcd.length = 4 := rfl
  rw [hlen4]
  clear hcv hTb hT9 hN9 HRc HN8 hlen4
  go_wp2_with fail
  refine HRc2.out.mono ?_
  rintro e w10 ⟨v, vs10, rfl, hTb, hT10, hN10⟩
  have hh2 : (awB.recv 1).held 2 = [120] := by
    show upd awB.held 1 [] 2 = _
    unfold upd
    rw [if_neg (by decide), HB.out.2]
  rw [hh2] at hTb
  obtain ⟨Ar2, cr2, rfl, hcv⟩ := conv_tb hTb
  have hcv2 : (convert 32 9 (.slice Ar2 1 cr2)).run Tryd.prog w10 = .ok (.string ⟨#[120]⟩) w10 := by
    have e : strOfNums ([120] : List Int) = ⟨#[120]⟩ := by decide
    rw [← e]; exact hcv
  have hlen1 : ([120] : List Int).length = 1 := rfl
  rw [hlen1]
  have HN10 := Aside0.mk (HN9.out.trans hN10)
  have hT10' : Two w.heap.size (fun _ => False) p' q' vs10 awB3 p q vs6 awA2 w10 := hT10
  have HO := Aside0.mk (two_Out 100 w10 hT10' (HG.out.past HN10.out.below H0.out) H0.out H3.out.2.1 H3.out.2.2.2.1 (by decide))
  clear hcv hcv' hTb hT10 hT10' hN10 HRc2 HN9 hlen1 hh2
  go_wp2_with fail
  refine HO.out.mono ?_
  rintro e w11 ⟨v, vs11, rfl, hR, hT11, hN11⟩
  obtain ⟨Ao, co, rfl⟩ := Kd.R_slice hR
  obtain ⟨_, _, hCo⟩ := Kd.R_reads' hR
  have HN11 := Aside0.mk (HN10.out.trans hN11)
  have hTk := two_Take Ao _ co _ w11 hT11.swap (HG.out.past HN11.out.below H0.out) H0.out hCo H3.out.2.2.2.2.1 H3.out.2.2.2.2.2.2.2.1 H3.out.2.2.2.2.2.2.1 (by have h1 := H3.out.2.2.2.2.2.1; have h2 := H3.out.2.2.2.2.2.2.2.2.1; omega)
  rw [H3.out.2.2.2.2.2.2.2.2.2.1] at hTk
  obtain ⟨no2, hno⟩ : ∃ no2, (awB3.outB 100).length = no2 := ⟨_, rfl⟩
  rw [hno] at hTk ⊢
  have HTk := Aside0.mk hTk
  clear hR hCo hT11 hN11 HO HN10 hno hcv2 hTk
  go_wp2_with fail
  refine HTk.out.mono ?_
  rintro e w12 ⟨rfl, vs12, hT12, hN12⟩
  have HN12 := Aside0.mk (HN11.out.trans hN12)
  have hRm := two_Room 1 (by omega) w12 hT12 H3.out.2.2.2.2.2.2.2.2.2.2.2.2
  rw [H3.out.2.2.2.2.2.2.2.2.2.2.1] at hRm
  have HRm := Aside0.mk hRm
  clear hT12 hN12 HTk HN11 hRm
  go_wp2_with fail
  refine HRm.out.mono ?_
  rintro e w13 ⟨rfl, hT13, hN13⟩
  have HN13 := Aside0.mk (HN12.out.trans hN13)
  have hRm := two_Room 2 (by omega) w13 hT13 H3.out.2.2.2.2.2.2.2.2.2.2.2.2
  rw [H3.out.2.2.2.2.2.2.2.2.2.2.2.1] at hRm
  have HRm2 := Aside0.mk hRm
  clear hT13 hN13 HRm HN12 hRm
  go_wp2_with fail
  refine HRm2.out.mono ?_
  rintro e w14 ⟨rfl, hT14, hN14⟩
  have HN14 := Aside0.mk (HN13.out.trans hN14)
  clear hT14 hN14
  go_wp2
  go_ret
  exact ⟨rfl, HN14.out.below⟩
open Go.Proofs.YthehhbfiaaadgaaDoor.Num Go.Proofs.YthehhbfiaaadgaaDoor.Pure
abbrev pairB (p p' : Nat) : Obj := .cells #[.pointer (some ⟨p, 0, none⟩), .pointer (some ⟨p', 0, none⟩)] 35
set_option maxHeartbeats 4000000 in
theorem law_pair (win : Int) (hw : 1 ≤ win ∧ win ≤ 65536) (w : World) :
    Calls Tryd.prog 11 #[.int .i64 win] w fun e w' => ∃ g p q p' q', e = .returned (.slice (some ⟨g, 0, none⟩) 2 2) ∧ w'.heap[g]? = some (pairB p p') ∧ w.heap.size ≤ g ∧ Two w.heap.size (fun k => k = g) p q (fun _ => .slice none 0 0) (Mx.new win) p' q' (fun _ => .slice none 0 0) (Mx.new win) w' ∧ Below w.heap.size w w' := by
  have HW := Aside0.mk hw
  clear hw
  go_enter Tryd.func11, Tryd.ntmps11
  go_wp2_with fail
  refine (new_at win HW.out w).mono ?_
  rintro e w1 ⟨p, q, rfl, hM1, hb1⟩
  have HM1 := Aside0.mk hM1
  have HB1 := Aside0.mk hb1
  clear hM1 hb1
  go_wp2_with fail
  refine (new_at win HW.out w1).mono ?_
  rintro e w2 ⟨p', q', rfl, hM2, hb2⟩
  have HT2 := Aside0.mk (Two.new HB1.out.size HM1.out hM2 hb2)
  have HB2 := Aside0.mk (HB1.out.trans (hb2.mono HB1.out.size))
  clear hM2 hb2 HM1 HB1
  go_wp2
  go_ret
  have hb3 := below_alloc (Below.refl _ w2) (pairB p p')
  obtain ⟨hT3, hN3⟩ := HT2.out.below hb3
  have hsz := HB2.out.size
  refine ⟨w2.heap.size, p, q, p', q', rfl, blk_new w2 (pairB p p'), hsz, ⟨hT3.a, hT3.b, hT3.ne, fun k hk => ?_, hT3.bs⟩, HB2.out.trans (hb3.mono hsz)⟩
  subst hk
  exact ⟨by simp, fun h => by have := (HT2.out.a.foot _ h).2; omega, fun h => by have := (HT2.out.b.foot _ h).2; omega⟩
theorem run_eql_pair (a : Addr) (n c : Nat) (W : World) : (binOp .eql 25 (.slice (some a) n c) (.slice none 0 0)).run Tryd.prog W = .ok (.bool false) W := Lib.run_eql_slice_nil W 25 35 (some a) n c 0 0 Tryd.underlying25
open Go.Proofs.YthehhbfiaaadgaaDoor.Num Go.Proofs.YthehhbfiaaadgaaDoor.Pure
theorem Duo.outLen {A B : Mx} {f g : List Fr} {o' : List Int} {SA CB SB CA : Nat → List Int} (h : Duo A B f g [] o' SA CB SB CA) (n : Int) : (A.outB n).length ≤ 20000000 := by
  obtain ⟨f', h5⟩ := Duo.fill n (A.mu + 1) A f h
  have h6 := h5.good.pot
  have := (Mx.outB_byt h.fa n).2
  unfold Mx.pot at h6
  omega
theorem Duo.inLen {A B : Mx} {f g : List Fr} {o o' : List Int} {SA CB SB CA : Nat → List Int} (h : Duo A B f g o o' SA CB SB CA) : B.L.length ≤ 20000000 := by
  have h1 := h.len
  have h2 := congrArg List.length h.ab.bytes
  rw [List.length_append] at h2
  have := h.bounds 0 (by omega)
  omega
theorem Duo.sum {A B : Mx} {f g : List Fr} {o o' : List Int} {SA CB SB CA : Nat → List Int} (h : Duo A B f g o o' SA CB SB CA) : sum8 (fun ch => 8 * (A.way ch).toNat + 15 * (B.way ch).toNat) ≤ 184 * A.win.toNat := by
  have h3 : sum8 (fun ch => 8 * (A.way ch).toNat + 15 * (B.way ch).toNat) ≤ sum8 (fun _ => 23 * A.win.toNat) := sum8_mono (fun i hi => by
    have h1 := h.fa.way i hi
    have h2 := h.fb.way i hi
    have h3 := h.win
    omega)
  have h4 : sum8 (fun _ => 23 * A.win.toNat) = 184 * A.win.toNat := by simp only [sum8]; omega
  omega
structure NoneI (win ch : Nat) (A B : Mx) (SA CB SB CA : Nat → List Int) : Prop where
  duo : Duo A B [] [] [] [] SA CB SB CA
  hwin : A.win = win
  full : ∀ k, k < 8 → k ≠ ch → (SA k).length = win ∧ CB k = []
  free : A.way ch = 0
structure NoneJ (win ch i : Nat) (A B : Mx) (SA CB SB CA : Nat → List Int) : Prop where
  duo : Duo A B [] [] [] [] SA CB SB CA
  hwin : A.win = win
  none_ : ∀ k, CB k = []
  full : ∀ k, k < 8 → k < i → k ≠ ch → (SA k).length = win
  free : ∀ k, k < 8 → i ≤ k ∨ k = ch → A.way k = 0
theorem NoneJ.start {win : Nat} (ch : Nat) (hw : 1 ≤ win ∧ win ≤ 65536) : NoneJ win ch 0 (Mx.new win) (Mx.new win) (fun _ => []) (fun _ => []) (fun _ => []) (fun _ => []) :=
  ⟨Duo.new ⟨by omega, by omega⟩, rfl, fun _ => rfl, fun k _ h => absurd h (Nat.not_lt_zero _), fun _ _ _ => rfl⟩
theorem NoneJ.skip {win ch : Nat} {A B : Mx} {SA CB SB CA : Nat → List Int} (h : NoneJ win ch ch A B SA CB SB CA) : NoneJ win ch (ch + 1) A B SA CB SB CA :=
  ⟨h.duo, h.hwin, h.none_, fun k h8 hk hne => h.full k h8 (by omega) hne, fun k h8 hk => h.free k h8 (by omega)⟩
theorem NoneJ.sendE {win ch i : Nat} {A B : Mx} {SA CB SB CA : Nat → List Int} (h : NoneJ win ch i A B SA CB SB CA) (hi : i < 8) : A.sendE i win = 0 := by
  unfold Mx.sendE
  have := h.free i hi (.inl (Nat.le_refl _))
  have hw := h.hwin
  rw [if_neg (fun e => e h.duo.ea), if_neg (by omega), Int.toNat_natCast, if_neg (by omega)]
theorem NoneJ.put {win ch i : Nat} {A B : Mx} {SA CB SB CA : Nat → List Int} (h : NoneJ win ch i A B SA CB SB CA) (hi : i < 8) (hne : i ≠ ch) (N : List Int) (hN : Byt N) (hl : N.length = win) : ∃ SA', NoneJ win ch (i + 1) (A.send i N) B SA' CB SB CA := by
  have hf := h.free i hi (.inl (Nat.le_refl _))
  have hw := h.hwin
  have hwin := h.duo.fa.win
  have h1 := h.duo.send i hi N hN (by omega)
  refine ⟨_, h1, hw, h.none_, fun k h8 hk hkc => ?_, fun k h8 hk => ?_⟩
  · unfold upd
    by_cases e : k = i
    · subst e
      have t := h.duo.ab.text k h8
      have r := h.duo.ab.room k h8
      have o := h.duo.fb.owed k h8
      have b := h.duo.fb.back k h8
      have hl2 := congrArg List.length t
      rw [h.none_ k] at hl2
      simp only [List.length_append, List.length_nil, dat_nil] at hl2
      rw [if_pos rfl, List.length_append]
      omega
    · rw [if_neg e]; exact h.full k h8 (by omega) hkc
  · show upd A.way i (wrap64 (A.way i + (N.length : Nat))) k = 0
    unfold upd
    rw [if_neg (by omega)]
    exact h.free k h8 (by omega)
theorem NoneJ.done {win ch : Nat} {A B : Mx} {SA CB SB CA : Nat → List Int} (hch : ch < 8) (h : NoneJ win ch 8 A B SA CB SB CA) : NoneI win ch A B SA CB SB CA :=
  ⟨h.duo, h.hwin, fun k h8 hk => ⟨h.full k h8 h8 hk, h.none_ k⟩, h.free ch hch (.inr rfl)⟩
structure NoneS (mil : Int) (win ch : Nat) (b : List Int) (A B : Mx) : Prop where
  e0 : A.sendE ch b.length = 0
  len0 : ∀ c, c < 8 → (A.sent c).length + b.length ≤ 140737488355328
  fit0 : A.Fit
  fit1 : (A.send ch b).Fit
  good1 : (A.send ch b).Good 20000000
  ea1 : (A.send ch b).e = 0
  byt1 : Byt ((A.send ch b).outB mil)
  len1 : ((A.send ch b).outB mil).length ≤ 20000000
  fitB : B.Fit
  eB : B.e = 0
  lenB : B.L.length ≤ 20000000
  eB1 : (B.took ((A.send ch b).outB mil)).e = 0
  held : (B.took ((A.send ch b).outB mil)).held ch = b
  good2 : ((B.took ((A.send ch b).outB mil)).recv ch).Good 20000000
  eB2 : ((B.took ((A.send ch b).outB mil)).recv ch).e = 0
  byt2 : Byt (((B.took ((A.send ch b).outB mil)).recv ch).outB mil)
  len2 : (((B.took ((A.send ch b).outB mil)).recv ch).outB mil).length ≤ 20000000
  fit2 : ((A.send ch b).outs mil).Fit
  ea2 : ((A.send ch b).outs mil).e = 0
  lenA : ((A.send ch b).outs mil).L.length ≤ 20000000
  ea3 : (((A.send ch b).outs mil).took (((B.took ((A.send ch b).outB mil)).recv ch).outB mil)).e = 0
  fit3 : (((A.send ch b).outs mil).took (((B.took ((A.send ch b).outB mil)).recv ch).outB mil)).Fit
  room : (((A.send ch b).outs mil).took (((B.took ((A.send ch b).outB mil)).recv ch).outB mil)).win - (((A.send ch b).outs mil).took (((B.took ((A.send ch b).outB mil)).recv ch).outB mil)).way ch = win
  next : ∃ SA CB SB CA, NoneI win ch (((A.send ch b).outs mil).took (((B.took ((A.send ch b).outB mil)).recv ch).outB mil)) (((B.took ((A.send ch b).outB mil)).recv ch).outs mil) SA CB SB CA
theorem NoneI.step (mil : Int) (hmil : 368000 < mil) {win ch : Nat} {A B : Mx} {SA CB SB CA : Nat → List Int} (h : NoneI win ch A B SA CB SB CA) (hch : ch < 8) (hw : win ≤ 2000) (b : List Int) (hb : Byt b) (hl : b.length ≤ win) : NoneS mil win ch b A B := by
  have hwin := h.hwin
  have hfree := h.free
  have h1 := h.duo.send ch hch b hb (by omega)
  have hw1 : (A.send ch b).win = win := hwin
  obtain ⟨h2, hs2, hb2, ho2, hL2⟩ := h1.pass mil (by have := h1.sum; omega)
  have h3 := (h2.recv ch hch).swap
  have hwB : ((B.took ((A.send ch b).outB mil)).recv ch).win = win := by
    have := h3.win
    have h4 : ((A.send ch b).outs mil).win = (A.send ch b).win := (Mx.outs_same h1.fa mil).1
    omega
  obtain ⟨h4, hs4, hb4, ho4, hL4⟩ := h3.pass mil (by have := h3.sum; omega)
  have hheld : (B.took ((A.send ch b).outB mil)).held ch = b := by
    have t := h2.ab.text ch hch
    have t0 := h.duo.ab.text ch hch
    have r := h.duo.ab.room ch hch
    have o := h.duo.fb.owed ch hch
    have bk := h.duo.fb.back ch hch
    rw [hs2 ch hch] at t
    have e1 : (B.held ch) = [] := List.eq_nil_of_length_eq_zero (by omega)
    have e2 : (A.sent ch) = [] := List.eq_nil_of_length_eq_zero (by omega)
    rw [e1, e2] at t0
    simp only [upd, dat_nil, List.append_nil, List.nil_append, if_true] at t t0
    rw [t0] at t
    exact (List.append_cancel_left t).symm
  have hro : (((A.send ch b).outs mil).took (((B.took ((A.send ch b).outB mil)).recv ch).outB mil)).way ch = 0 := by
    have r := h4.swap.ab.room ch hch
    have o := h4.fa.owed ch hch
    have b4 := hb4 ch hch
    have hd : (((B.took ((A.send ch b).outB mil)).recv ch).outs mil).held ch = [] := by
      have e : (((B.took ((A.send ch b).outB mil)).recv ch).outs mil).held = ((B.took ((A.send ch b).outB mil)).recv ch).held := (Mx.outs_same h3.fa mil).2.2.1
      rw [e]
      show upd _ ch [] ch = _
      unfold upd; rw [if_pos rfl]
    have hsn : (((A.send ch b).outs mil).took (((B.took ((A.send ch b).outB mil)).recv ch).outB mil)).sent ch = [] := by
      have t4 := h4.swap.ab.text ch hch
      have t2 := h3.swap.ab.text ch hch
      rw [hd] at t4
      have hd2 : ((B.took ((A.send ch b).outB mil)).recv ch).held ch = [] := by
        show upd _ ch [] ch = _
        unfold upd; rw [if_pos rfl]
      rw [hd2, hs2 ch hch] at t2
      rw [t2] at t4
      simp only [dat_nil, List.nil_append, List.append_nil] at t4
      have := congrArg List.length t4
      rw [List.length_append] at this
      exact List.eq_nil_of_length_eq_zero (by omega)
    rw [hd, b4] at o
    rw [hsn, dat_nil, gif_nil] at r
    simp only [List.length_nil] at r o
    omega
  have hwA3 : (((A.send ch b).outs mil).took (((B.took ((A.send ch b).outB mil)).recv ch).outB mil)).win = win := by
    have a := h4.win
    have c := (Mx.outs_same h3.fa mil).1
    omega
  refine ⟨?_, fun c hc => ?_, h.duo.fa, h1.fa, h1.good, h1.ea, (Mx.outB_byt h1.fa mil).1, h1.outLen mil, h1.fb, h1.eb, h1.inLen, h2.eb, hheld, h3.good, h3.ea, (Mx.outB_byt h3.fa mil).1, h3.outLen mil, h2.fa, h2.ea, h3.inLen, h4.eb, h4.fb, by rw [hwA3, hro]; omega, _, _, _, _, h4.swap, hwA3, fun k h8 hk => ?_, hro⟩
  · unfold Mx.sendE
    rw [if_neg (fun e => e h.duo.ea), if_neg (by omega), Int.toNat_natCast, if_neg (by omega)]
  · have := h.duo.bounds c hc; omega
  · have := h.full k h8 hk
    unfold upd
    rw [if_neg hk, if_neg hk]
    exact this
theorem NoneI.end_ {win ch : Nat} {A B : Mx} {SA CB SB CA : Nat → List Int} (h : NoneI win ch A B SA CB SB CA) (k : Nat) (h8 : k < 8) (hk : k ≠ ch) : A.win - A.way k = 0 := by
  have t := congrArg List.length (h.duo.ab.text k h8)
  have r := h.duo.ab.room k h8
  have o := h.duo.fb.owed k h8
  have b := h.duo.fb.back k h8
  have w := h.duo.fa.way k h8
  have f := h.full k h8 hk
  have hw := h.hwin
  rw [f.2] at t
  simp only [List.length_append, List.length_nil, dat_nil, gif_nil] at t r
  omega
open Go.Proofs.YthehhbfiaaadgaaDoor.Num Go.Proofs.YthehhbfiaaadgaaDoor.Pure
theorem conv_C {w : World} {A : Option Addr} {n : Nat} {L : List Int} (c : Nat) (h : Kd.C (Kd.int .u8) w A n L) : (convert 32 9 (.slice A n c)).run Tryd.prog w = .ok (.string (strOfNums L)) w := by
  have hn := h.1
  subst hn
  exact Kd.C_string (P := Tryd.prog) (A := A) (c := c) Tryd.underlying32 Tryd.underlying5 Tryd.underlying9 h
theorem conv_Tb {w : World} {b0 : Nat} {v : Value} {L : List Int} (h : Tb w b0 v L) : ∃ A c, v = .slice A L.length c ∧ Kd.C (Kd.int .u8) w A L.length L := by
  obtain ⟨A, c, hv, _, hC⟩ := h.reads
  exact ⟨A, c, hv, hC⟩
end Go.Proofs.YthehhbfiaaadgaaDoor.P
