/- The law SquashRuns: a text of one byte, so many times, is one byte told, and matches of 130 with it, but for what is left. -/
import Derived.Test.YtaneollgpllbiaaSquashTok
import Derived.Test.YtaneollgpllbiaaPx18
set_option linter.unusedSimpArgs false
set_option linter.unusedVariables false
namespace Go.Proofs.Ytaneollgpllbiaa.Pure
open Go.RowKit Go.Proofs.Ytaneollgpllbiaa.P Go.Proofs.YtaneollgpllbiaaW.PrintWords Go.Proofs.YtaneollgpllbiaaW.PrintLast Go.Proofs.Ytaneollgpllbiaa.Num

theorem rd_rep (n : Nat) (c : Int) (j : Nat) (h : j < n) : rd (List.replicate n c) (j : Int) = c := by
  simp [rd, List.getD_eq_getElem?_getD, List.getElem?_replicate, h]
theorem chain_const (B : List Int) (i : Nat) (len far : Nat) (h : ∀ d, longN B i d ≤ len) : ∀ q a, chainB B i q a len far = (len, far)
  | 0, a => rfl
  | q + 1, a => by
    rw [chainB]
    by_cases c : a < 0 ∨ (i : Int) - a > 4096 ∨ len = 130
    · rw [if_pos c]
    · rw [if_neg c, if_neg (by have := h (i - a.toNat); omega)]; exact chain_const B i len far h q _
theorem lg_rep (n : Nat) (c : Int) (i far : Nat) (hf : 0 < far) (hfi : far ≤ i) : ∀ q m, q + m = 130 → m ≤ n - i → lg (List.replicate n c) i far q m = min 130 (n - i)
  | 0, m, h, h2 => by rw [lg]; omega
  | q + 1, m, h, h2 => by
    rw [lg, List.length_replicate]
    by_cases e : i + m < n
    · rw [if_pos ⟨by omega, e, by rw [rd_rep n c _ e, rd_rep n c _ (by omega)]⟩]
      exact lg_rep n c i far hf hfi q (m + 1) (by omega) (by omega)
    · rw [if_neg (fun h => e h.2.1)]; omega
theorem key_rep (n : Nat) (c : Int) (i : Nat) (h : i + 4 ≤ n) : key4 (List.replicate n c) i = [c, c, c, c] := by
  rw [key4_eq _ i (by rw [List.length_replicate]; exact h), rd_rep n c _ (by omega), rd_rep n c _ (by omega), rd_rep n c _ (by omega), rd_rep n c _ (by omega)]
theorem best_rep0 (n : Nat) (c : Int) : bestR (List.replicate n c) 0 = (0, 0) := by
  unfold bestR
  by_cases e : 0 + 4 ≤ (List.replicate n c).length
  · rw [if_pos e]; rfl
  · rw [if_neg e]
theorem best_rep (n : Nat) (c : Int) (i : Nat) (h0 : 0 < i) (h : i + 4 ≤ n) : bestR (List.replicate n c) i = (min 130 (n - i), 1) := by
  have hl : (List.replicate n c).length = n := List.length_replicate
  have hL : lastK (key4 (List.replicate n c)) (key4 (List.replicate n c) i) i = ((i - 1 : Nat) : Int) := by
    obtain ⟨j, rfl⟩ : ∃ j, i = j + 1 := ⟨i - 1, by omega⟩
    rw [lastK, if_pos (by rw [key_rep n c j (by omega), key_rep n c (j + 1) h])]
    rfl
  have hlong : longN (List.replicate n c) i 1 = min 130 (n - i) := lg_rep n c i 1 (by omega) (by omega) 130 0 rfl (by omega)
  unfold bestR
  rw [hl, if_pos h, hL, chainB_more _ _ _ _ _ _ (by omega), Int.toNat_natCast, show i - (i - 1) = 1 by omega, hlong, if_pos (by omega)]
  refine chain_const _ _ _ _ (fun d => ?_) _ _
  have := lg_le (List.replicate n c) i d 130 0 (Nat.zero_le _) (by omega)
  rw [hl] at this
  unfold longN
  omega
theorem best_tail (n : Nat) (c : Int) (i : Nat) (h : ¬ i + 4 ≤ n) : bestR (List.replicate n c) i = (0, 0) := by
  unfold bestR
  rw [List.length_replicate, if_neg h]
theorem toks_tail (n : Nat) (c : Int) (fr : Nat) : ∀ q i, ¬ i + 4 ≤ n → toks (List.replicate n c) q i fr = litT (List.replicate n c) fr n
  | 0, i, h => by rw [toks, List.length_replicate]
  | q + 1, i, h => by
    rw [toks, List.length_replicate]
    by_cases e : i < n
    · rw [if_pos e, best_tail n c i h, if_pos (by decide)]
      exact toks_tail n c fr q (i + 1) (by omega)
    · rw [if_neg e]
theorem cut_rep (n : Nat) (c : Int) (a b : Nat) (h : b ≤ n) : ((List.replicate n c).take b).drop a = List.replicate (b - a) c := by
  rw [List.take_replicate, List.drop_replicate, Nat.min_eq_left h]
theorem fill_l0 (n : Nat) (c : Int) (r : Option Bool) (hn : n ≤ 2000) (K : Nat) (hr : ∀ k, K ≤ k → remoralaw10_SquashRuns.l0 k c n (List.replicate n c) n = r) : ∀ (d i k : Nat), i + d = n → K + d ≤ k →
    remoralaw10_SquashRuns.l0 k c n (List.replicate i c ++ List.replicate d 0) i = r := by
  intro d
  induction d with
  | zero =>
    intro i k h hk
    obtain rfl : i = n := by omega
    rw [List.replicate_zero, List.append_nil]
    exact hr k (by omega)
  | succ d ih =>
    intro i k h hk
    obtain ⟨k, rfl⟩ : ∃ m, k = m + 1 := ⟨k - 1, by omega⟩
    simp only [remoralaw10_SquashRuns.l0]
    rw [if_pos (by omega), if_pos (by omega), if_pos (by simp only [List.length_append, List.length_replicate]; omega), w64 (by omega) (by omega)]
    have e : (List.replicate i c ++ List.replicate (d + 1) 0).set (i : Int).toNat c = List.replicate (i + 1) c ++ List.replicate d 0 := by
      rw [Int.toNat_natCast, List.set_append_right _ _ (by simp), List.length_replicate, Nat.sub_self, List.replicate_succ, List.set_cons_zero, List.replicate_succ', List.append_assoc]
      rfl
    rw [e]
    have h2 := ih (i + 1) k (by omega) (by omega)
    rw [show ((i + 1 : Nat) : Int) = (i : Int) + 1 by omega] at h2
    exact h2
theorem want_l1 (n : Nat) (c : Int) (P : List Int) (hn : n ≤ 2000) : ∀ (left q k : Nat) (X : List Int), left < n → left ≤ q → P = X ++ flat (toks (List.replicate n c) q (n - left) (n - left)) → X.length ≤ 30 * (n - left) → left + 20 ≤ k →
    remoralaw10_SquashRuns.l1 k (List.replicate n c) P X left = some true := by
  intro left
  induction left using Nat.strongRecOn with
  | _ left ih =>
    intro q k X h1 h2 hP hX hk
    obtain ⟨k, rfl⟩ : ∃ m, k = m + 1 := ⟨k - 1, by omega⟩
    simp only [remoralaw10_SquashRuns.l1]
    by_cases c1 : 4 ≤ left
    · have hm : mn (left : Int) 130 = ((min left 130 : Nat) : Int) := by unfold mn; split <;> omega
      obtain ⟨q, rfl⟩ : ∃ m, q = m + 1 := ⟨q - 1, by omega⟩
      rw [toks, List.length_replicate, if_pos (by omega), best_rep n c (n - left) (by omega) (by omega), if_neg (show ¬ (min 130 (n - (n - left)), 1).1 < 4 by simp only; omega)] at hP
      dsimp only at hP
      have hlt : litT (List.replicate n c) (n - left) (n - left) = [] := if_neg (by omega)
      rw [hlt, List.nil_append, flat, encT] at hP
      have e1 : min 130 (n - (n - left)) = min left 130 := by omega
      rw [e1] at hP
      generalize hmm : min left 130 = m at hP hm
      have e2 : n - left + m = n - (left - m) := by omega
      rw [e2] at hP
      have e3 := enc_len9 (n := 2 * (m - 4) + 1) (by omega)
      have e4 := enc_len9 (n := 1) (by omega)
      rw [if_pos (by omega), hm, w64 (n := (m : Int) - 4) (by omega) (by omega), w64 (n := 2 * ((m : Int) - 4)) (by omega) (by omega), w64 (n := 2 * ((m : Int) - 4) + 1) (by omega) (by omega), show 2 * ((m : Int) - 4) + 1 = ((2 * (m - 4) + 1 : Nat) : Int) by omega,
        put_f k X _ (by omega) (by omega), cl_nat _ (by omega), Option.bind_some, show (1 : Int) = ((1 : Nat) : Int) from rfl, put_f k _ _ (by omega) (by simp only [List.length_append]; omega), cl_nat _ (by omega), Option.bind_some, w64 (n := (left : Int) - (m : Int)) (by omega) (by omega),
        show (left : Int) - (m : Int) = ((left - m : Nat) : Int) by omega]
      refine ih (left - m) (by omega) q k _ (by omega) (by omega) ?_ ?_ (by omega)
      · rw [hP]; simp only [List.append_assoc]
      · simp only [List.length_append]; omega
    · rw [if_neg (by omega)]
      rw [toks_tail n c _ q _ (by omega)] at hP
      by_cases c2 : (left : Int) > 0
      · have hlt : litT (List.replicate n c) (n - left) n = [.lit (((List.replicate n c).take n).drop (n - left))] := if_pos (by omega)
        rw [hlt, cut_rep n c _ _ (Nat.le_refl _), show n - (n - left) = left by omega, flat, flat, encT, List.length_replicate, List.append_nil] at hP
        have e3 := enc_len9 (n := 2 * left) (by omega)
        rw [if_pos c2, w64 (n := 2 * (left : Int)) (by omega) (by omega), show 2 * (left : Int) = ((2 * left : Nat) : Int) by omega, put_f k X _ (by omega) (by omega), cl_nat _ (by omega), Option.bind_some, if_pos (by omega), if_pos (by rw [List.length_replicate]; omega), Option.bind_some,
          Int.toNat_natCast, List.take_replicate, Nat.min_eq_left (by omega), if_pos (by simp only [List.length_append, List.length_replicate]; omega), hP, List.append_assoc, same_f, Option.bind_some, if_pos rfl, awake_f, Option.bind_some]
      · have hlt : litT (List.replicate n c) (n - left) n = [] := if_neg (by omega)
        rw [hlt, flat, List.append_nil] at hP
        rw [if_neg c2, hP, same_f, Option.bind_some, if_pos rfl, awake_f, Option.bind_some]
theorem runs_end (n : Nat) (c : Int) (hc : 0 ≤ c ∧ c ≤ 255) (hn : n < 2000) : ∀ k, 3000 ≤ k → remoralaw10_SquashRuns.l0 k c n (List.replicate n c) n = some true := by
  intro k hk
  obtain ⟨k, rfl⟩ : ∃ m, k = m + 1 := ⟨k - 1, by omega⟩
  have hb : Byt (List.replicate n c) := fun x hx => by rw [List.eq_of_mem_replicate hx]; exact hc
  have hl : (List.replicate n c).length = n := List.length_replicate
  simp only [remoralaw10_SquashRuns.l0]
  rw [if_neg (by omega), pack_f _ hb (by omega), Option.bind_some]
  by_cases c0 : n = 0
  · subst c0
    rw [if_pos (by rfl)]
    have : flat (ptoks (List.replicate 0 c)) = [] := rfl
    rw [this, if_pos (by rfl), awake_f, Option.bind_some]
  rw [if_neg (by omega)]
  have hp1 : ptoks (List.replicate n c) = toks (List.replicate n c) (n - 1) 1 0 := by
    unfold ptoks
    rw [hl, show n = (n - 1) + 1 by omega, toks, show n - 1 + 1 = n by omega, hl, if_pos (by omega), best_rep0, if_pos (by decide)]
  by_cases c5 : n < 5
  · have hlt : litT (List.replicate n c) 0 n = [.lit (List.replicate n c)] := by
      unfold litT
      rw [if_pos (by omega), cut_rep n c 0 n (Nat.le_refl _), Nat.sub_zero]
    have hf : flat (ptoks (List.replicate n c)) = enc (2 * n) ++ List.replicate n c := by
      rw [hp1, toks_tail n c 0 _ 1 (by omega), hlt, flat, flat, encT, hl, List.append_nil]
    rw [if_pos (by omega), hf]
    have e1 : (enc (2 * n)).length = 1 := by rw [enc_small (by omega)]; rfl
    rw [if_pos (by rw [List.length_append, e1, hl, w64 (by omega) (by omega)]; omega), w64 (n := 2 * (n : Int)) (by omega) (by omega), show 2 * (n : Int) = ((2 * n : Nat) : Int) by omega, put_f k [] _ (by omega) (by simp), cl_nat _ (by omega), Option.bind_some, List.nil_append, if_pos (by rw [e1, hl]; omega),
      same_f, Option.bind_some, if_pos rfl, awake_f, Option.bind_some]
  · rw [if_neg (by omega), show (2 : Int) = ((2 : Nat) : Int) from rfl, put_f k [] _ (by omega) (by simp), cl_nat _ (by omega), Option.bind_some, List.nil_append]
    have e1 : (enc 2).length = 1 := by rw [enc_small (by omega)]; rfl
    rw [if_pos (by rw [e1]; omega), w64 (n := (n : Int) - 1) (by omega) (by omega), show (n : Int) - 1 = ((n - 1 : Nat) : Int) by omega]
    have hlt : litT (List.replicate n c) 0 1 = [.lit [c]] := by
      unfold litT
      rw [if_pos (by omega), cut_rep n c 0 1 (by omega)]
      rfl
    have h1 : toks (List.replicate n c) (n - 1) 1 0 = Tok.lit [c] :: toks (List.replicate n c) (n - 1) 1 1 := by
      have st : ∀ fr, toks (List.replicate n c) (n - 2 + 1) 1 fr = litT (List.replicate n c) fr 1 ++ Tok.mat (min 130 (n - 1)) 1 :: toks (List.replicate n c) (n - 2) (1 + min 130 (n - 1)) (1 + min 130 (n - 1)) := fun fr => by
        rw [toks, hl, if_pos (by omega), best_rep n c 1 (by omega) (by omega), if_neg (show ¬ (min 130 (n - 1), 1).1 < 4 by simp only; omega)]
      rw [show n - 1 = (n - 2) + 1 by omega, st 0, st 1, hlt]
      have : litT (List.replicate n c) 1 1 = [] := if_neg (by omega)
      rw [this, List.nil_append]
      rfl
    refine want_l1 n c _ (by omega) (n - 1) (n - 1) k _ (by omega) (Nat.le_refl _) ?_ ?_ (by omega)
    · rw [hp1, h1, flat, encT, show n - (n - 1) = 1 by omega]
      rfl
    · rw [List.length_append, e1]; simp; omega
theorem SquashRuns : remoralaw10_SquashRuns.Pure := by
  intro a b ha hb
  have hc := wf_u8 ha
  have hw : 0 ≤ b ∧ b ≤ 65535 := by simp [Lit.wf, IntKind.min, IntKind.max, IntKind.signed, IntKind.bits] at hb; omega
  refine ⟨6000, ?_⟩
  unfold remoralaw10_SquashRuns.f
  have hm : Int.tmod b 2000 = b % 2000 := Int.tmod_eq_emod_of_nonneg hw.1
  rw [w64 (n := b) (by omega) (by omega), hm]
  obtain ⟨n, hn⟩ : ∃ n : Nat, b % 2000 = (n : Int) := ⟨(b % 2000).toNat, by omega⟩
  rw [hn, if_pos (by omega), Int.toNat_natCast, if_pos (by omega)]
  have h := fill_l0 n a (some true) (by omega) 3000 (runs_end n a hc (by omega)) n 0 6000 (by omega) (by omega)
  rw [List.replicate_zero, List.nil_append] at h
  exact h
end Go.Proofs.Ytaneollgpllbiaa.Pure
