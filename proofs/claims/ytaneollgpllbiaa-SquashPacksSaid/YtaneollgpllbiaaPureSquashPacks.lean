/- The law SquashPacks: the packing of any text is the document's; of one that is too long there is none; the bound is. -/
import Derived.Test.YtaneollgpllbiaaSquashTok
import Derived.Test.YtaneollgpllbiaaPx16
import Derived.Test.YtaneollgpllbiaaPx17
set_option linter.unusedSimpArgs false
set_option linter.unusedVariables false
namespace Go.Proofs.Ytaneollgpllbiaa.Pure
open Go.RowKit Go.Proofs.Ytaneollgpllbiaa.P Go.Proofs.YtaneollgpllbiaaW.PrintWords Go.Proofs.YtaneollgpllbiaaW.PrintLast Go.Proofs.Ytaneollgpllbiaa.Num

theorem lg_ge (B : List Int) (i far : Nat) : ∀ q n, n ≤ lg B i far q n
  | 0, n => Nat.le_refl _
  | q + 1, n => by
    rw [lg]
    by_cases c : n < 130 ∧ i + n < B.length ∧ rd B ((i + n : Nat) : Int) = rd B ((i + n - far : Nat) : Int)
    · rw [if_pos c]; exact Nat.le_trans (Nat.le_succ n) (lg_ge B i far q (n + 1))
    · rw [if_neg c]; exact Nat.le_refl _
theorem long_le (B : List Int) (i d : Nat) : longN B i d ≤ B.length - i ∧ longN B i d ≤ 130 := lg_le B i d 130 0 (Nat.zero_le _) (by omega)
theorem long_match (B : List Int) (i d j : Nat) (h : j < longN B i d) : i + j < B.length ∧ rd B ((i + j : Nat) : Int) = rd B ((i + j - d : Nat) : Int) := lg_match B i d 130 0 j (Nat.zero_le _) h
/-- Four equal bytes: a match of four or more. -/
theorem key_long (B : List Int) (i d : Nat) (hi : i + 4 ≤ B.length) (hd : d ≤ i) : key4 B (i - d) = key4 B i ↔ 4 ≤ longN B i d := by
  rw [key4_eq B i hi, key4_eq B (i - d) (by omega)]
  constructor
  · intro h
    simp only [List.cons.injEq, and_true] at h
    obtain ⟨h0, h1, h2, h3⟩ := h
    unfold longN
    have s := fun n => lg_step B i d n
    have e0 := s 0 (by omega)
    rw [if_pos ⟨by omega, by rw [Nat.add_zero]; exact h0.symm⟩] at e0
    have e1 := s 1 (by omega)
    rw [if_pos ⟨by omega, by rw [show i + 1 - d = i - d + 1 by omega]; exact h1.symm⟩] at e1
    have e2 := s 2 (by omega)
    rw [if_pos ⟨by omega, by rw [show i + 2 - d = i - d + 2 by omega]; exact h2.symm⟩] at e2
    have e3 := s 3 (by omega)
    rw [if_pos ⟨by omega, by rw [show i + 3 - d = i - d + 3 by omega]; exact h3.symm⟩] at e3
    have := lg_ge B i d (130 - (3 + 1)) (3 + 1)
    rw [← e3] at this
    have h5 : lg B i d 130 0 = lg B i d (130 - 3) 3 := by
      rw [show (130 : Nat) = 130 - 0 by omega, e0, e1, e2]
    rw [h5]
    exact this
  · intro h
    have h0 := (long_match B i d 0 (by omega)).2
    have h1 := (long_match B i d 1 (by omega)).2
    have h2 := (long_match B i d 2 (by omega)).2
    have h3 := (long_match B i d 3 (by omega)).2
    rw [Nat.add_zero] at h0
    rw [show i + 1 - d = i - d + 1 by omega] at h1
    rw [show i + 2 - d = i - d + 2 by omega] at h2
    rw [show i + 3 - d = i - d + 3 by omega] at h3
    rw [← h0, ← h1, ← h2, ← h3]
/-- The document's search, each distance tried. -/
def rb (B : List Int) (i : Nat) : Nat → Nat → Nat → Nat → Nat × Nat
  | 0, _, m, f => (m, f)
  | c + 1, d, m, f => if longN B i d > m then rb B i c (d + 1) (longN B i d) d else rb B i c (d + 1) m f
theorem rb_max (B : List Int) (i f : Nat) : ∀ c d, rb B i c d 130 f = (130, f)
  | 0, d => rfl
  | c + 1, d => by rw [rb, if_neg (by have := (long_le B i d).2; omega)]; exact rb_max B i f c (d + 1)
theorem rb_le (B : List Int) (i : Nat) : ∀ c d m f, m ≤ B.length - i → (rb B i c d m f).1 ≤ B.length - i
  | 0, d, m, f, h => h
  | c + 1, d, m, f, h => by
    rw [rb]
    by_cases e : longN B i d > m
    · rw [if_pos e]; exact rb_le B i c _ _ _ (long_le B i d).1
    · rw [if_neg e]; exact rb_le B i c _ _ _ h
def REL (r s : Nat × Nat) : Prop := (4 ≤ r.1 ∧ s = r) ∨ (r.1 < 4 ∧ s = (0, 0))
theorem chain_rb (B : List Int) (i : Nat) (hi : i + 4 ≤ B.length) : ∀ (j q m f len far : Nat), j ≤ i → j < q → REL (m, f) (len, far) →
    REL (rb B i (min i 4096 - (i - j)) (i - j + 1) m f) (chainB B i q (lastK (key4 B) (key4 B i) j) len far)
  | 0, q, m, f, len, far, h1, h2, hr => by
    rw [lastK, chainB_stop _ _ _ _ _ _ (Or.inl (by decide)), show min i 4096 - (i - 0) = 0 by omega, rb]
    exact hr
  | j + 1, q, m, f, len, far, h1, h2, hr => by
    obtain ⟨q, rfl⟩ : ∃ p, q = p + 1 := ⟨q - 1, by omega⟩
    have hd : i - (j + 1) + 1 = i - j := by omega
    have hb := lastK_lt (key4 B) (key4 B i) (j + 1)
    by_cases c : 4096 < i - j
    · rw [chainB_stop _ _ _ _ _ _ (by omega), show min i 4096 - (i - (j + 1)) = 0 by omega, rb]
      exact hr
    · have e : min i 4096 - (i - (j + 1)) = (min i 4096 - (i - j)) + 1 := by omega
      rw [e, hd, rb]
      have hk := key_long B i (i - j) hi (by omega)
      rw [show i - (i - j) = j by omega] at hk
      by_cases ek : key4 B j = key4 B i
      · have hl := hk.1 ek
        rw [lastK, if_pos ek]
        by_cases cl : len = 130
        · have hm : m = 130 ∧ f = far := by
            rcases hr with ⟨r1, r2⟩ | ⟨r1, r2⟩ <;> simp only [Prod.mk.injEq] at r2 <;> omega
          obtain ⟨rfl, rfl⟩ := hm
          rw [chainB_stop _ _ _ _ _ _ (Or.inr (Or.inr cl)), if_neg (by have := (long_le B i (i - j)).2; omega), rb_max]
          exact .inl ⟨show 4 ≤ 130 by decide, by rw [cl]⟩
        · rw [chainB_more _ _ _ _ _ _ (by omega), Int.toNat_natCast, ek]
          by_cases cn : longN B i (i - j) > len
          · have cm : longN B i (i - j) > m := by
              rcases hr with ⟨r1, r2⟩ | ⟨r1, r2⟩ <;> simp only [Prod.mk.injEq] at r2 <;> omega
            rw [if_pos cn, if_pos cm]
            exact chain_rb B i hi j q _ _ _ _ (by omega) (by omega) (.inl ⟨hl, rfl⟩)
          · have cm : ¬ longN B i (i - j) > m := by
              rcases hr with ⟨r1, r2⟩ | ⟨r1, r2⟩ <;> simp only [Prod.mk.injEq] at r1 r2 <;> omega
            rw [if_neg cn, if_neg cm]
            exact chain_rb B i hi j q _ _ _ _ (by omega) (by omega) hr
      · have hl : ¬ 4 ≤ longN B i (i - j) := fun h => ek (hk.2 h)
        rw [lastK, if_neg ek]
        by_cases cm : longN B i (i - j) > m
        · rw [if_pos cm]
          refine chain_rb B i hi j (q + 1) _ _ _ _ (by omega) (by omega) (.inr ⟨by simp only; omega, ?_⟩)
          rcases hr with ⟨r1, r2⟩ | ⟨r1, r2⟩
          · simp only at r1; omega
          · exact r2
        · rw [if_neg cm]
          exact chain_rb B i hi j (q + 1) _ _ _ _ (by omega) (by omega) hr
theorem best_rb (B : List Int) (i : Nat) : REL (rb B i (min i 4096) 1 0 0) (bestR B i) := by
  unfold bestR
  by_cases c : i + 4 ≤ B.length
  · rw [if_pos c]
    have h := chain_rb B i c i (i + 1) 0 0 0 0 (Nat.le_refl _) (by omega) (.inr ⟨by decide, rfl⟩)
    rw [Nat.sub_self] at h
    exact h
  · rw [if_neg c]
    refine .inr ⟨?_, rfl⟩
    have := rb_le B i (min i 4096) 1 0 0 (Nat.zero_le _)
    omega

/-! the reference -/
theorem refLong_l0 (B : List Int) (i d : Nat) (hi : i < B.length) (hd0 : 0 < d) (hd : d ≤ i) (hB : B.length ≤ 100000) : ∀ (q k n : Nat), q + n = 130 → q + 2 ≤ k → remoraref10_long.l0 k B i d n = some ((lg B i d q n : Nat) : Int) := by
  intro q
  induction q with
  | zero =>
    intro k n h hk
    obtain ⟨k, rfl⟩ : ∃ m, k = m + 1 := ⟨k - 1, by omega⟩
    simp only [remoraref10_long.l0]
    rw [if_neg (by omega), lg]
  | succ q ih =>
    intro k n h hk
    obtain ⟨k, rfl⟩ : ∃ m, k = m + 1 := ⟨k - 1, by omega⟩
    simp only [remoraref10_long.l0]
    rw [if_pos (by omega), w64 (n := (i : Int) + (n : Int)) (by omega) (by omega), lg]
    by_cases c : i + n < B.length
    · rw [if_pos (by omega), w64 (n := (i : Int) + (n : Int) - (d : Int)) (by omega) (by omega), if_pos (by omega), if_pos (by omega), if_pos (by omega),
        show (i : Int) + (n : Int) - (d : Int) = ((i + n - d : Nat) : Int) by omega, show (i : Int) + (n : Int) = ((i + n : Nat) : Int) by omega]
      by_cases c2 : rd B ((i + n : Nat) : Int) = rd B ((i + n - d : Nat) : Int)
      · rw [if_pos c2, if_pos ⟨by omega, c, c2⟩, w64 (n := (n : Int) + 1) (by omega) (by omega), show (n : Int) + 1 = ((n + 1 : Nat) : Int) by omega]
        exact ih k (n + 1) (by omega) (by omega)
      · rw [if_neg c2, if_neg (fun h => c2 h.2.2)]
    · rw [if_neg (by omega), if_neg (fun h => c h.2.1)]
theorem refBest_l0 (B : List Int) (i : Nat) (hi : i < B.length) (hB : B.length ≤ 100000) : ∀ (c k d m f : Nat), c + d = min i 4096 + 1 → 0 < d → m ≤ 130 → m ≤ B.length - i → 3 * c + 200 ≤ k →
    remoraref10_best.l0 k B i m f d = some (((rb B i c d m f).1 : Int), ((rb B i c d m f).2 : Int)) := by
  intro c
  induction c with
  | zero =>
    intro k d m f h h0 hm hm2 hk
    obtain ⟨k, rfl⟩ : ∃ m, k = m + 2 := ⟨k - 2, by omega⟩
    simp only [remoraref10_best.l0, remoraref10_best.j1, rb]
    by_cases e : (d : Int) ≤ (i : Int)
    · rw [if_pos e, if_neg (by simp; omega)]
    · rw [if_neg e, if_neg (by decide)]
  | succ c ih =>
    intro k d m f h h0 hm hm2 hk
    obtain ⟨k, rfl⟩ : ∃ m, k = m + 3 := ⟨k - 3, by omega⟩
    have hll := long_le B i d
    have skip : ¬ longN B i d > m → remoraref10_best.j2 (k + 1) B i m f d true = some (((rb B i (c + 1) d m f).1 : Int), ((rb B i (c + 1) d m f).2 : Int)) := fun hn => by
      simp only [remoraref10_best.j2]
      rw [if_pos trivial, w64 (n := (d : Int) + 1) (by omega) (by omega), rb, if_neg hn, show (d : Int) + 1 = ((d + 1 : Nat) : Int) by omega]
      exact ih k (d + 1) m f (by omega) (by omega) hm hm2 (by omega)
    have go : remoraref10_best.j2 (k + 1) B i m f d false = some (((rb B i (c + 1) d m f).1 : Int), ((rb B i (c + 1) d m f).2 : Int)) := by
      simp only [remoraref10_best.j2]
      have hlf : remoraref10_long.f k B i d = some ((longN B i d : Nat) : Int) := refLong_l0 B i d hi h0 (by omega) hB 130 k 0 rfl (by omega)
      rw [if_neg (by decide), hlf, Option.bind_some, w64 (n := (d : Int) + 1) (by omega) (by omega), rb, show (d : Int) + 1 = ((d + 1 : Nat) : Int) by omega]
      by_cases e : longN B i d > m
      · rw [if_pos (by omega), if_pos e]
        exact ih k (d + 1) _ d (by omega) (by omega) hll.2 hll.1 (by omega)
      · rw [if_neg (by omega), if_neg e]
        exact ih k (d + 1) m f (by omega) (by omega) hm hm2 (by omega)
    simp only [remoraref10_best.l0, remoraref10_best.j1]
    rw [if_pos (by omega), decide_eq_true (show (d : Int) ≤ 4096 by omega), if_pos (rfl : true = true), if_pos (by omega), if_pos (by omega), w64 (n := (i : Int) - (d : Int)) (by omega) (by omega), if_pos (by omega), if_pos (by omega),
      show (i : Int) - (d : Int) = ((i - d : Nat) : Int) by omega]
    by_cases c1 : rd B (i : Int) = rd B ((i - d : Nat) : Int)
    · rw [if_pos c1]
      by_cases c2 : (m : Int) > 0
      · rw [if_pos c2, w64 (n := (i : Int) + (m : Int)) (by omega) (by omega)]
        by_cases c3 : (i : Int) + (m : Int) < (B.length : Int)
        · rw [if_pos c3, if_pos (by omega), w64 (n := (i : Int) + (m : Int) - (d : Int)) (by omega) (by omega), if_pos (by omega), if_pos (by omega),
            show (i : Int) + (m : Int) - (d : Int) = ((i + m - d : Nat) : Int) by omega, show (i : Int) + (m : Int) = ((i + m : Nat) : Int) by omega]
          by_cases c4 : rd B ((i + m : Nat) : Int) = rd B ((i + m - d : Nat) : Int)
          · rw [show (rd B ((i + m : Nat) : Int) != rd B ((i + m - d : Nat) : Int)) = false from by rw [c4]; simp]
            exact go
          · rw [show (rd B ((i + m : Nat) : Int) != rd B ((i + m - d : Nat) : Int)) = true from bne_iff_ne.mpr c4]
            exact skip (fun h => c4 (long_match B i d m h).2)
        · rw [if_neg c3]; exact go
      · rw [if_neg c2]; exact go
    · rw [if_neg c1]
      refine skip (fun h => c1 ?_)
      have := (long_match B i d 0 (by omega)).2
      rw [Nat.add_zero] at this
      exact this
theorem refBest_f (k : Nat) (B : List Int) (i : Nat) (hi : i < B.length) (hB : B.length ≤ 100000) (hk : 13000 ≤ k) : remoraref10_best.f k B i = some (((rb B i (min i 4096) 1 0 0).1 : Int), ((rb B i (min i 4096) 1 0 0).2 : Int)) :=
  refBest_l0 B i hi hB (min i 4096) k 1 0 0 rfl (by omega) (by omega) (Nat.zero_le _) (by omega)
theorem refPack_l0 (B : List Int) (hB : B.length ≤ 65536) : ∀ (q k i fr : Nat) (OUT : List Int), fr ≤ i → i ≤ B.length → B.length - i ≤ q → OUT.length ≤ 28 * fr → q + 13010 ≤ k →
    remoraref10_Pack.l0 k B OUT ((B.take i).drop fr) i = some (packL B q i fr OUT) := by
  intro q
  have hend : ∀ (k fr : Nat) (OUT : List Int), fr ≤ B.length → OUT.length ≤ 28 * fr → 13010 ≤ k → remoraref10_Pack.l0 k B OUT ((B.take B.length).drop fr) B.length = some (flushL B fr B.length OUT) := by
    intro k fr OUT h1 h2 hk
    obtain ⟨k, rfl⟩ : ∃ m, k = m + 1 := ⟨k - 1, by omega⟩
    have hl : ((B.take B.length).drop fr).length = B.length - fr := by rw [List.length_drop, List.length_take]; omega
    simp only [remoraref10_Pack.l0]
    rw [if_neg (by omega), hl]
    unfold flushL
    by_cases c : fr < B.length
    · have h9 := enc_len9 (n := 2 * (B.length - fr)) (by omega)
      rw [if_pos (by omega), if_pos c, w64 (n := 2 * ((B.length - fr : Nat) : Int)) (by omega) (by omega), show 2 * ((B.length - fr : Nat) : Int) = ((2 * (B.length - fr) : Nat) : Int) by omega, refPut_f k OUT _ (by omega) (by omega), cl_nat _ (by omega), Option.bind_some,
        if_pos (by simp only [List.length_append]; omega)]
    · rw [if_neg (by omega), if_neg c]
  induction q with
  | zero =>
    intro k i fr OUT h1 h2 h3 h4 hk
    obtain rfl : i = B.length := by omega
    exact hend k fr OUT h1 h4 (by omega)
  | succ q ih =>
    intro k i fr OUT h1 h2 h3 h4 hk
    by_cases ci : i < B.length
    rotate_left
    · obtain rfl : i = B.length := by omega
      rw [packL_end _ _ _ _ _ ci]
      exact hend k fr OUT h1 h4 (by omega)
    obtain ⟨k, rfl⟩ : ∃ m, k = m + 1 := ⟨k - 1, by omega⟩
    have hl : ((B.take i).drop fr).length = i - fr := by rw [List.length_drop, List.length_take]; omega
    have hR := best_rb B i
    simp only [remoraref10_Pack.l0]
    rw [if_pos (by omega), refBest_f k B i ci (by omega) (by omega), Option.bind_some, packL, if_pos ci]
    dsimp only
    generalize rb B i (min i 4096) 1 0 0 = r at hR ⊢
    rcases hR with ⟨r1, r2⟩ | ⟨r1, r2⟩
    · have hle := bestR_le B i
      rw [r2] at hle ⊢
      obtain ⟨n, far⟩ := r
      dsimp only at r1 r2 hle ⊢
      rw [if_neg (show ¬ (n : Int) < 4 by omega), if_neg (show ¬ n < 4 by omega), hl]
      have hi2 : (B.take (i + n)).drop (i + n) = ([] : List Int) := by
        apply List.drop_eq_nil_of_le
        rw [List.length_take]; omega
      have hfl := flushL_len B fr i OUT (by omega)
      have e3 := enc_len9 (n := 2 * (n - 4) + 1) (by omega)
      have e4 := enc_len9 (n := far) (by omega)
      have fin : ∀ (O2 : List Int), O2 = flushL B fr i OUT → ((remoraref01_Put.f k O2 (wrap64 ((wrap64 (2 * (wrap64 ((n : Int) - 4)))) + 1))).bind fun t => ((remoraref01_Put.f k t (far : Int)).bind fun t2 => (remoraref10_Pack.l0 k B t2 ([] : List Int) (wrap64 ((i : Int) + (n : Int)))))) = some (packL B q (i + n) (i + n) (flushL B fr i OUT ++ enc (2 * (n - 4) + 1) ++ enc far)) := by
        intro O2 hO
        subst hO
        rw [w64 (n := (n : Int) - 4) (by omega) (by omega), w64 (n := 2 * ((n : Int) - 4)) (by omega) (by omega), w64 (n := 2 * ((n : Int) - 4) + 1) (by omega) (by omega), show 2 * ((n : Int) - 4) + 1 = ((2 * (n - 4) + 1 : Nat) : Int) by omega,
          refPut_f k _ _ (by omega) (by omega), cl_nat _ (by omega), Option.bind_some, refPut_f k _ _ (by omega) (by simp only [List.length_append]; omega), cl_nat _ (by omega), Option.bind_some, w64 (n := (i : Int) + (n : Int)) (by omega) (by omega),
          show (i : Int) + (n : Int) = ((i + n : Nat) : Int) by omega]
        have h := ih k (i + n) (i + n) (flushL B fr i OUT ++ enc (2 * (n - 4) + 1) ++ enc far) (Nat.le_refl _) (by omega) (by omega) (by simp only [List.length_append]; omega) (by omega)
        rw [hi2] at h
        exact h
      by_cases c : fr < i
      · have h9 := enc_len9 (n := 2 * (i - fr)) (by omega)
        rw [if_pos (by omega), w64 (n := 2 * ((i - fr : Nat) : Int)) (by omega) (by omega), show 2 * ((i - fr : Nat) : Int) = ((2 * (i - fr) : Nat) : Int) by omega, refPut_f k OUT _ (by omega) (by omega), cl_nat _ (by omega), Option.bind_some,
          if_pos (by simp only [List.length_append]; omega)]
        exact fin _ (by unfold flushL; rw [if_pos c])
      · rw [if_neg (by omega)]
        have hx : (B.take i).drop fr = ([] : List Int) := by
          apply List.drop_eq_nil_of_le
          rw [List.length_take]; omega
        rw [hx]
        exact fin _ (by unfold flushL; rw [if_neg c])
    · rw [r2, if_pos (show (r.1 : Int) < 4 by omega), if_pos (show 0 ≤ (i : Int) by omega), if_pos (show ((B.take i).drop fr).length < 140737488355328 by rw [hl]; omega), if_pos (show ((0, 0) : Nat × Nat).1 < 4 by decide), w64 (n := (i : Int) + 1) (by omega) (by omega)]
      have hx : (B.take i).drop fr ++ [rd B (i : Int)] = (B.take (i + 1)).drop fr := by
        rw [take_snoc B i ci, List.drop_append_of_le_length (by rw [List.length_take]; omega)]
      rw [hx, show (i : Int) + 1 = ((i + 1 : Nat) : Int) by omega]
      exact ih k (i + 1) fr OUT (by omega) (by omega) (by omega) h4 (by omega)
theorem refPack_f (k : Nat) (B : List Int) (hb : Byt B) (hB : B.length ≤ 65536) (hk : B.length + 13010 ≤ k) : remoraref10_Pack.f k B = some (flat (ptoks B)) := by
  unfold remoraref10_Pack.f
  rw [if_neg (by omega)]
  have h := refPack_l0 B hB B.length k 0 0 [] (Nat.le_refl _) (Nat.zero_le _) (by omega) (by simp) hk
  rw [packL_toks, List.nil_append, List.take_zero, List.drop_zero] at h
  exact h
theorem bound_some (a : Int) : ∃ x, squash_Bound.f a = some x ∧ remoraref10_Bound.f a = some x := by
  unfold squash_Bound.f remoraref10_Bound.f
  by_cases c : a < 0
  · rw [if_pos c]; exact ⟨_, rfl, rfl⟩
  rw [if_neg c]
  by_cases c2 : a > 65536
  · rw [if_pos c2]; exact ⟨_, rfl, rfl⟩
  rw [if_neg c2]; exact ⟨_, rfl, rfl⟩
theorem SquashPacks : remoralaw10_SquashPacks.Pure := by
  intro l a hl1 hl2 hw ha
  have hb := byt_of hw
  refine ⟨100000, ?_⟩
  obtain ⟨x, hx1, hx2⟩ := bound_some a
  unfold remoralaw10_SquashPacks.f
  have hrep : squash_Pack.f (List.replicate 65537 0) = some [] := pack_big _ (fun x hx => by rw [List.eq_of_mem_replicate hx]; omega) (by rw [List.length_replicate]; omega)
  rw [hx1, hx2, Option.bind_some, Option.bind_some, if_pos rfl, if_pos (by omega), hrep, Option.bind_some]
  have e0 : (((([] : List Int).length : Nat) : Int) != 0) = false := rfl
  rw [e0]
  simp only [remoralaw10_SquashPacks.j0]
  rw [if_neg (by decide)]
  by_cases c : (l.length : Int) > 3000
  · rw [if_pos c, awake_f, Option.bind_some]
  · rw [if_neg c, pack_f l hb (by omega), Option.bind_some, refPack_f 99999 l hb (by omega) (by omega), Option.bind_some, same_f, Option.bind_some, if_pos rfl, awake_f, Option.bind_some]
end Go.Proofs.Ytaneollgpllbiaa.Pure
