/- The law SquashTwice: a text and itself once more comes back whole, within its bound; told bytes and matched ones together are the text. -/
import Derived.Test.YtaneollgpllbiaaSquashTok
import Derived.Test.YtaneollgpllbiaaPx20
set_option linter.unusedSimpArgs false
namespace Go.Proofs.Ytaneollgpllbiaa.Pure
open Go.RowKit Go.Proofs.Ytaneollgpllbiaa.P Go.Proofs.YtaneollgpllbiaaW.PrintWords Go.Proofs.YtaneollgpllbiaaW.PrintLast Go.Proofs.Ytaneollgpllbiaa.Num

theorem twice_loop (X U : List Int) (hl : X.length ≤ 65536) : ∀ (ts : List Tok) (A : List Int) (k : Nat) (T : List Int) (run : Bool) (P : List Int), P = A ++ flat ts → Byt P → P.length ≤ 70000 → Valid T run ts → full T ts = X → U = X → P.length ≤ X.length + X.length / 64 + 3 → ts.length + 20 ≤ k →
    remoralaw10_SquashTwice.l0 k X P U 0 (T.length : Int) (A.length : Int) = some true
  | [], A, k, T, run, P, hP, hb, hPl, hv, hf, hU, hB, hk => by
    obtain ⟨k, rfl⟩ : ∃ m, k = m + 1 := ⟨k - 1, by omega⟩
    rw [flat, List.append_nil] at hP
    subst hP
    rw [full] at hf
    subst hf
    subst hU
    simp only [remoralaw10_SquashTwice.l0]
    rw [if_neg (by omega), if_pos trivial, same_f, Option.bind_some, if_pos rfl, if_pos trivial, if_pos trivial, bound_f _ hl, Option.bind_some, if_pos (by omega), awake_f, Option.bind_some]
  | .lit xs :: ts, A, k, T, run, P, hP, hb, hPl, hv, hf, hU, hB, hk => by
    obtain ⟨h1, h2, h3, h4⟩ := hv
    obtain ⟨k, rfl⟩ : ∃ m, k = m + 1 := ⟨k - 1, by omega⟩
    simp only [List.length_cons] at hk
    have hP2 : P = A ++ (enc (2 * xs.length) ++ (xs ++ flat ts)) := by rw [hP, flat, encT, List.append_assoc]
    have hP3 : P = (A ++ (enc (2 * xs.length) ++ xs)) ++ flat ts := by rw [hP2]; simp only [List.append_assoc]
    have hlen : P.length = A.length + ((enc (2 * xs.length)).length + (xs.length + (flat ts).length)) := by rw [hP2]; simp only [List.length_append]
    have hp := enc_pos (2 * xs.length)
    have hg := getS_enc A (xs ++ flat ts) (2 * xs.length) (by omega) (A.length : Int) rfl
    rw [← hP2] at hg
    simp only [remoralaw10_SquashTwice.l0]
    rw [if_pos (by omega), get_f k P _ (by omega) hb (by omega), hg, Option.bind_some]
    dsimp only
    have hd : Int.tdiv ((2 * xs.length : Nat) : Int) 2 = (xs.length : Int) := by rw [Int.tdiv_eq_ediv_of_nonneg (by omega)]; omega
    have hm : Int.tmod ((2 * xs.length : Nat) : Int) 2 = 0 := by rw [Int.tmod_eq_emod_of_nonneg (by omega)]; omega
    rw [if_pos (rfl : (0 : Int) = 0), hm, if_pos rfl, hd, w64 (n := (xs.length : Int)) (by omega) (by omega), w64 (n := (T.length : Int) + (xs.length : Int)) (by omega) (by omega), w64 (by omega) (by omega)]
    have ih := twice_loop X U hl ts (A ++ (enc (2 * xs.length) ++ xs)) k (T ++ xs) true P hP3 hb hPl h4 hf hU hB (by omega)
    simp only [List.length_append] at ih
    refine Eq.trans ?_ ih
    congr 1
    omega
  | .mat n far :: ts, A, k, T, run, P, hP, hb, hPl, hv, hf, hU, hB, hk => by
    obtain ⟨h1, h2, h3, h4, h5, h6, h7⟩ := hv
    obtain ⟨k, rfl⟩ : ∃ m, k = m + 1 := ⟨k - 1, by omega⟩
    simp only [List.length_cons] at hk
    have hP2 : P = A ++ (enc (2 * (n - 4) + 1) ++ (enc far ++ flat ts)) := by rw [hP, flat, encT, List.append_assoc]
    have hP4 : P = (A ++ enc (2 * (n - 4) + 1)) ++ (enc far ++ flat ts) := by rw [hP2]; simp only [List.append_assoc]
    have hP3 : P = ((A ++ enc (2 * (n - 4) + 1)) ++ enc far) ++ flat ts := by rw [hP2]; simp only [List.append_assoc]
    have hlen : P.length = A.length + ((enc (2 * (n - 4) + 1)).length + ((enc far).length + (flat ts).length)) := by rw [hP2]; simp only [List.length_append]
    have hp := enc_pos (2 * (n - 4) + 1)
    have hp2 := enc_pos far
    have hg := getS_enc A (enc far ++ flat ts) (2 * (n - 4) + 1) (by omega) (A.length : Int) rfl
    rw [← hP2] at hg
    have hA : (A.length : Int) + ((enc (2 * (n - 4) + 1)).length : Int) = ((A ++ enc (2 * (n - 4) + 1)).length : Int) := by simp only [List.length_append]; omega
    have hg2 := getS_enc (A ++ enc (2 * (n - 4) + 1)) (flat ts) far (by omega) ((A.length : Int) + ((enc (2 * (n - 4) + 1)).length : Int)) hA
    rw [← hP4] at hg2
    simp only [remoralaw10_SquashTwice.l0]
    rw [if_pos (by omega), get_f k P _ (by omega) hb (by omega), hg, Option.bind_some]
    dsimp only
    have hd : Int.tdiv ((2 * (n - 4) + 1 : Nat) : Int) 2 = ((n - 4 : Nat) : Int) := by rw [Int.tdiv_eq_ediv_of_nonneg (by omega)]; omega
    have hm : Int.tmod ((2 * (n - 4) + 1 : Nat) : Int) 2 = 1 := by rw [Int.tmod_eq_emod_of_nonneg (by omega)]; omega
    rw [if_pos (rfl : (0 : Int) = 0), hm, if_neg (by decide), get_f k P _ (by omega) hb (by omega), hg2, Option.bind_some]
    dsimp only
    rw [if_pos (rfl : (0 : Int) = 0), if_neg (by omega), if_neg (by omega), if_neg (by omega), hd, w64 (n := ((n - 4 : Nat) : Int)) (by omega) (by omega), w64 (n := (T.length : Int) + ((n - 4 : Nat) : Int)) (by omega) (by omega), w64 (by omega) (by omega)]
    have ih := twice_loop X U hl ts ((A ++ enc (2 * (n - 4) + 1)) ++ enc far) k (wh_copy (far : Int) n T) false P hP3 hb hPl h7 hf hU hB (by omega)
    simp only [List.length_append, wh_copy_len] at ih
    refine Eq.trans ?_ ih
    congr 1 <;> omega
theorem flat_toks (ts : List Tok) : ts.length ≤ (flat ts).length := by
  induction ts with
  | nil => simp [flat]
  | cons t ts ih => have := encT_pos t; rw [flat]; simp only [List.length_append, List.length_cons]; omega
theorem SquashTwice : remoralaw10_SquashTwice.Pure := by
  intro l hl1 hl2 hw
  have hb := byt_of hw
  refine ⟨100000, ?_⟩
  unfold remoralaw10_SquashTwice.f
  by_cases c : (l.length : Int) > 4000
  · rw [if_pos c]
    simp only [remoralaw10_SquashTwice.j0]
    rw [if_pos trivial, awake_f, Option.bind_some]
  · rw [if_neg c]
    simp only [remoralaw10_SquashTwice.j0]
    by_cases c2 : (l.length : Int) < 4
    · rw [if_pos (decide_eq_true c2), awake_f, Option.bind_some]
    · rw [if_neg (by simpa using c2), if_pos (by rw [List.length_nil]; omega), Option.bind_some, List.nil_append, if_pos (by omega), Option.bind_some]
      have hX : Byt (l ++ l) := hb.append hb
      have hXl : (l ++ l).length ≤ 8000 := by rw [List.length_append]; omega
      generalize l ++ l = X at hX hXl ⊢
      have hB : X.length ≤ 65536 := by omega
      have hlen := ptoks_len X hB
      have hpb := ptoks_byt X hX
      have ht := txt0_flat (ptoks X) (ptoks_valid X hB)
      rw [ptoks_full X hB] at ht
      have hu : squash_unpacked.f (flat (ptoks X)) = some (X, 0) := by rw [unpacked_f _ hpb (by omega), ht]; rfl
      have hU : ∀ m : Int, squash_Unpack.f (flat (ptoks X)) m = if (X.length : Int) > mx m 0 then some ([], 7) else some (X, 0) := fun m => by
        unfold squash_Unpack.f
        rw [hu, Option.bind_some, if_pos rfl]
      rw [pack_f X hX hB, Option.bind_some, hU, if_neg (by unfold mx; split <;> omega), Option.bind_some]
      have hft := flat_toks (ptoks X)
      have h := twice_loop X X hB (ptoks X) [] 99999 [] false (flat (ptoks X)) rfl hpb (by omega) (ptoks_valid X hB) (ptoks_full X hB) rfl (by omega) (by omega)
      exact h
end Go.Proofs.Ytaneollgpllbiaa.Pure
