/- Squash, reading: what bytes make, step by step ('txt'); the program's and the document's reading are it. -/
import Derived.Test.YtaneollgpllbiaaNumRef
import Derived.Test.YtaneollgpllbiaaPx8
import Derived.Test.YtaneollgpllbiaaPx11
set_option linter.unusedVariables false
set_option linter.unusedSimpArgs false
namespace Go.Proofs.Ytaneollgpllbiaa.P
open Go.RowKit Go.Proofs.YtaneollgpllbiaaW.PrintWords Go.Proofs.YtaneollgpllbiaaW.PrintLast Go.Proofs.YtaneollgpllbiaaW.PrintMore Go.Proofs.Ytaneollgpllbiaa.Num

def txt (B : List Int) : Nat → Int → List Int → Bool → List Int × Int
  | 0, _, T, _ => (T, 99)
  | q + 1, a, T, run =>
    if a < (B.length : Int) then
      match getS B a with
      | (n, t, e) =>
        if e = 0 then
          (if n % 2 = 0 then
            (if n = 0 ∨ run = true then (T, 5)
             else if n / 2 > 65536 - (T.length : Int) then (T, 7)
             else if n / 2 > (B.length : Int) - t then (T, 4)
             else txt B q (t + n / 2) (T ++ (B.take (t + n / 2).toNat).drop t.toNat) true)
           else if n / 2 > 126 then (T, 5)
           else match getS B t with
             | (far, t2, e2) =>
               if e2 = 0 then
                 (if far = 0 ∨ far > 4096 ∨ far > (T.length : Int) then (T, 5)
                  else if n / 2 + 4 > 65536 - (T.length : Int) then (T, 7)
                  else txt B q t2 (wh_copy far (n / 2 + 4).toNat T) false)
               else (T, e2))
        else (T, e)
    else (T, 0)
theorem getS_ok {B : List Int} (hb : Byt B) {a n t e : Int} (ha : 0 ≤ a) (h : getS B a = (n, t, e)) (he : e = 0) : 0 ≤ n ∧ n ≤ 4611686018427387903 ∧ a < t ∧ t ≤ (B.length : Int) := by
  rcases getS_range B a hb with ⟨h1, _⟩ | ⟨_, x, h1, h2, _, h3, h4, _⟩
  · rw [h] at h1; exact absurd he h1
  · rw [h] at h1 h3
    have := enc_pos x
    simp only at h1 h3
    omega
def fin_ (r : List Int × Int) : List Int × Int := if r.2 = 0 then r else ([], r.2)
theorem sq_l_txt (B : List Int) (hb : Byt B) (hB : B.length ≤ 140737488355328) : ∀ (q : Nat) (a : Int) (T : List Int) (run : Bool), 0 ≤ a → a ≤ (B.length : Int) → (B.length : Int) - a < q → T.length ≤ 65536 →
    sq_l 40 B q a T run = some (fin_ (txt B q a T run)) := by
  intro q
  induction q with
  | zero => intro a T run h0 h00 h1 h2; omega
  | succ q ih =>
    intro a T run h0 h00 h1 h2
    rw [sq_l, txt]
    by_cases ca : a < (B.length : Int)
    rotate_left
    · rw [if_neg ca, if_neg ca]; rfl
    rw [if_pos ca, if_pos ca, get_f 40 B a (by omega) hb hB, Option.bind_some]
    rcases hg : getS B a with ⟨n, t, e⟩
    dsimp only
    by_cases he : e = 0
    rotate_left
    · rw [if_neg he, if_neg he]; simp [fin_, he]
    obtain ⟨g1, g2, g3, g4⟩ := getS_ok hb h0 hg he
    have hd : Int.tdiv n 2 = n / 2 := Int.tdiv_eq_ediv_of_nonneg g1
    have hw : wrap64 (n / 2) = n / 2 := w64 (by omega) (by omega)
    rw [if_pos he, if_pos he, hd, hw, if_pos (by omega), and1_i64 n g1 (by omega)]
    by_cases hm : n % 2 = 0
    · rw [if_pos hm, if_pos hm]
      by_cases c1 : n = 0 ∨ run = true
      · have hs : sq_told run (n / 2) t B.length T.length = 5 := by
          unfold sq_told
          by_cases c0 : n = 0
          · rw [if_pos (by omega)]
          · rw [if_neg (by omega), if_pos (by simpa [c0] using c1)]
        rw [hs, if_neg (by decide), if_pos c1]
        rfl
      · rw [if_neg c1]
        have c0 : ¬ n = 0 := fun h => c1 (.inl h)
        have cr : ¬ run = true := fun h => c1 (.inr h)
        by_cases c2 : n / 2 > 65536 - (T.length : Int)
        · have hs : sq_told run (n / 2) t B.length T.length = 7 := by
            unfold sq_told
            rw [if_neg (by omega), if_neg cr, if_pos c2]
          rw [hs, if_neg (by decide), if_pos c2]
          rfl
        · rw [if_neg c2]
          by_cases c3 : n / 2 > (B.length : Int) - t
          · have hs : sq_told run (n / 2) t B.length T.length = 4 := by
              unfold sq_told
              rw [if_neg (by omega), if_neg cr, if_neg c2, if_pos c3]
            rw [hs, if_neg (by decide), if_pos c3]
            rfl
          · have hs : sq_told run (n / 2) t B.length T.length = 0 := by
              unfold sq_told
              rw [if_neg (by omega), if_neg cr, if_neg c2, if_neg c3]
            rw [hs, if_pos rfl, if_neg c3]
            exact ih _ _ _ (by omega) (by omega) (by omega) (by simp only [List.length_append, List.length_drop, List.length_take]; omega)
    · rw [if_neg hm, if_neg hm]
      by_cases c1 : n / 2 > 126
      · rw [if_pos (by omega), if_pos c1]; rfl
      rw [if_neg (by omega), if_neg c1, get_f 40 B t (by omega) hb hB, Option.bind_some]
      rcases hg2 : getS B t with ⟨far, t2, e2⟩
      dsimp only
      by_cases he2 : e2 = 0
      rotate_left
      · have hz := getS_range B t hb
        rw [hg2] at hz
        have hfar : far = 0 ∧ t2 = 0 := by
          rcases hz with ⟨_, h⟩ | ⟨h, _⟩
          · simp only [Prod.mk.injEq] at h; exact ⟨h.1, h.2.1⟩
          · exact absurd h he2
        have hs : sq_match far e2 (n / 2 + 4) T.length = e2 := by
          unfold sq_match
          rw [if_pos he2]
        rw [hs, if_neg he2, if_pos (by omega), if_neg he2]
        simp [fin_, he2]
      obtain ⟨k1, k2, k3, k4⟩ := getS_ok hb (by omega) hg2 he2
      rw [if_pos (by omega), if_pos he2]
      by_cases c2 : far = 0 ∨ far > 4096 ∨ far > (T.length : Int)
      · have hs : sq_match far e2 (n / 2 + 4) T.length = 5 := by
          unfold sq_match
          rw [if_neg (by simpa using he2)]
          by_cases d1 : far = 0
          · rw [if_pos d1]
          rw [if_neg d1]
          by_cases d2 : far > 4096
          · rw [if_pos d2]
          rw [if_neg d2, if_pos (by omega)]
        rw [hs, if_neg (by decide), if_pos c2]
        rfl
      rw [if_neg c2]
      by_cases c3 : n / 2 + 4 > 65536 - (T.length : Int)
      · have hs : sq_match far e2 (n / 2 + 4) T.length = 7 := by
          unfold sq_match
          rw [if_neg (by simpa using he2), if_neg (by omega), if_neg (by omega), if_neg (by omega), if_pos c3]
        rw [hs, if_neg (by decide), if_pos c3]
        rfl
      · have hs : sq_match far e2 (n / 2 + 4) T.length = 0 := by
          unfold sq_match
          rw [if_neg (by simpa using he2), if_neg (by omega), if_neg (by omega), if_neg (by omega), if_neg c3]
        rw [hs, if_pos rfl, if_neg c3]
        exact ih _ _ _ (by omega) (by omega) (by omega) (by rw [wh_copy_len]; omega)
def txt0 (B : List Int) : List Int × Int := txt B (B.length + 1) 0 [] false
theorem unpacked_f (B : List Int) (hb : Byt B) (hB : B.length ≤ 140737488355328) : squash_unpacked.f B = some (fin_ (txt0 B)) := by
  unfold squash_unpacked.f txt0
  rw [if_pos hB]
  exact sq_l_txt B hb hB _ 0 [] false (by omega) (by omega) (by omega) (by simp)

/-! the document's -/
theorem text_l1 (B T0 : List Int) (n far t2 : Int) (h0 : 0 ≤ n) (hn : n / 2 ≤ 126) : ∀ (d k : Nat) (T : List Int) (i : Int), i + d = n / 2 + 4 → 0 ≤ i → 0 < far → far ≤ (T.length : Int) → T.length + d ≤ 65536 → d < k →
    remoraref10_text.l1 k B T n far t2 i = remoraref10_text.l0 (k - d - 1) B (wh_copy far d T) t2 false := by
  have hd : Int.tdiv n 2 = n / 2 := Int.tdiv_eq_ediv_of_nonneg h0
  have hw1 : wrap64 (n / 2) = n / 2 := w64 (by omega) (by omega)
  have hw2 : wrap64 (n / 2 + 4) = n / 2 + 4 := w64 (by omega) (by omega)
  intro d
  induction d with
  | zero =>
    intro k T i hi h1 h2 h3 h4 hk
    obtain ⟨k, rfl⟩ : ∃ m, k = m + 1 := ⟨k - 1, by omega⟩
    simp only [remoraref10_text.l1]
    rw [hd, hw1, hw2, if_neg (by omega)]
    rfl
  | succ d ih =>
    intro k T i hi h1 h2 h3 h4 hk
    obtain ⟨k, rfl⟩ : ∃ m, k = m + 1 := ⟨k - 1, by omega⟩
    simp only [remoraref10_text.l1]
    rw [hd, hw1, hw2, if_pos (by omega), w64 (n := (T.length : Int) - far) (by omega) (by omega), if_pos (by omega), if_pos (by omega), if_pos (by omega), w64 (n := i + 1) (by omega) (by omega),
      ih k _ (i + 1) (by omega) (by omega) h2 (by simp only [List.length_append, List.length_cons, List.length_nil]; omega) (by simp only [List.length_append, List.length_cons, List.length_nil]; omega) (by omega)]
    rw [show k + 1 - (d + 1) - 1 = k - d - 1 by omega, wh_copy]
theorem text_l0 (B : List Int) (hb : Byt B) (hB : B.length ≤ 140737488355328) : ∀ (q k : Nat) (a : Int) (T : List Int) (run : Bool), 0 ≤ a → a ≤ (B.length : Int) → (B.length : Int) - a < q → T.length ≤ 65536 → q * 140 + 40 ≤ k →
    remoraref10_text.l0 k B T a run = some (txt B q a T run) := by
  intro q
  induction q with
  | zero =>
    intro k a T run h0 h00 h1 h2 hk
    omega
  | succ q ih =>
    intro k a T run h0 h00 h1 h2 hk
    obtain ⟨k, rfl⟩ : ∃ m, k = m + 1 := ⟨k - 1, by omega⟩
    simp only [remoraref10_text.l0]
    rw [txt]
    by_cases ca : a < (B.length : Int)
    rotate_left
    · rw [if_neg ca, if_neg ca]
    rw [if_pos ca, if_pos ca, refGet_f k B a (by omega) hb hB, Option.bind_some]
    rcases hg : getS B a with ⟨n, t, e⟩
    dsimp only
    by_cases he : e = 0
    rotate_left
    · rw [if_neg he, if_neg he]
    obtain ⟨g1, g2, g3, g4⟩ := getS_ok hb h0 hg he
    have hd : Int.tdiv n 2 = n / 2 := Int.tdiv_eq_ediv_of_nonneg g1
    have hm' : Int.tmod n 2 = n % 2 := Int.tmod_eq_emod_of_nonneg g1
    have hw : wrap64 (n / 2) = n / 2 := w64 (by omega) (by omega)
    rw [if_pos he, if_pos he, hm']
    by_cases hm : n % 2 = 0
    · rw [if_pos hm, if_pos hm]
      have main : ∀ b : Bool, (b = true ↔ (n = 0 ∨ run = true)) → remoraref10_text.j1 k B T t n b = some (if n = 0 ∨ run = true then (T, 5) else if n / 2 > 65536 - (T.length : Int) then (T, 7) else if n / 2 > (B.length : Int) - t then (T, 4) else txt B q (t + n / 2) (T ++ (B.take (t + n / 2).toNat).drop t.toNat) true) := by
        intro b hbt
        obtain ⟨k, rfl⟩ : ∃ m, k = m + 1 := ⟨k - 1, by omega⟩
        simp only [remoraref10_text.j1]
        rw [hd, hw, w64 (n := 65536 - (T.length : Int)) (by omega) (by omega), w64 (n := (B.length : Int) - t) (by omega) (by omega)]
        by_cases c1 : n = 0 ∨ run = true
        · rw [if_pos (hbt.2 c1), if_pos c1]
        rw [if_neg (fun h => c1 (hbt.1 h)), if_neg c1]
        by_cases c2 : n / 2 > 65536 - (T.length : Int)
        · rw [if_pos c2, if_pos c2]
        rw [if_neg c2, if_neg c2]
        by_cases c3 : n / 2 > (B.length : Int) - t
        · rw [if_pos c3, if_pos c3]
        rw [if_neg c3, if_neg c3, w64 (n := t + n / 2) (by omega) (by omega), if_pos (by omega), if_pos (by omega), if_pos (by omega), if_pos (by simp only [List.length_drop, List.length_take]; omega)]
        exact ih k _ _ _ (by omega) (by omega) (by omega) (by simp only [List.length_append, List.length_drop, List.length_take]; omega) (by omega)
      by_cases c0 : n = 0
      · rw [if_pos c0]; exact main true ⟨fun _ => .inl c0, fun _ => rfl⟩
      · rw [if_neg c0]; exact main run ⟨fun h => .inr h, fun h => h.resolve_left c0⟩
    · rw [if_neg hm, if_neg hm, hd, hw]
      by_cases c1 : n / 2 > 126
      · rw [if_pos c1, if_pos c1]
      rw [if_neg c1, if_neg c1, refGet_f k B t (by omega) hb hB, Option.bind_some]
      rcases hg2 : getS B t with ⟨far, t2, e2⟩
      dsimp only
      by_cases he2 : e2 = 0
      rotate_left
      · rw [if_neg he2, if_neg he2]
      obtain ⟨k1, k2, k3, k4⟩ := getS_ok hb (by omega) hg2 he2
      rw [if_pos he2, if_pos he2]
      have main : ∀ b : Bool, (b = true ↔ (far = 0 ∨ far > 4096 ∨ far > (T.length : Int))) → remoraref10_text.j2 k B T n far t2 b = some (if far = 0 ∨ far > 4096 ∨ far > (T.length : Int) then (T, 5) else if n / 2 + 4 > 65536 - (T.length : Int) then (T, 7) else txt B q t2 (wh_copy far (n / 2 + 4).toNat T) false) := by
        intro b hbt
        obtain ⟨k, rfl⟩ : ∃ m, k = m + 1 := ⟨k - 1, by omega⟩
        simp only [remoraref10_text.j2]
        rw [hd, hw, w64 (n := 65536 - (T.length : Int)) (by omega) (by omega), w64 (n := n / 2 + 4) (by omega) (by omega)]
        by_cases c2 : far = 0 ∨ far > 4096 ∨ far > (T.length : Int)
        · rw [if_pos (hbt.2 c2), if_pos c2]
        rw [if_neg (fun h => c2 (hbt.1 h)), if_neg c2]
        by_cases c3 : n / 2 + 4 > 65536 - (T.length : Int)
        · rw [if_pos c3, if_pos c3]
        rw [if_neg c3, if_neg c3, text_l1 B T n far t2 g1 (by omega) (n / 2 + 4).toNat k T 0 (by omega) (by omega) (by omega) (by omega) (by omega) (by omega)]
        exact ih _ _ _ _ (by omega) (by omega) (by omega) (by rw [wh_copy_len]; omega) (by omega)
      by_cases d1 : far = 0
      · rw [if_pos d1]; exact main true ⟨fun _ => .inl d1, fun _ => rfl⟩
      rw [if_neg d1]
      by_cases d2 : far > 4096
      · rw [if_pos d2]; exact main true ⟨fun _ => .inr (.inl d2), fun _ => rfl⟩
      rw [if_neg d2]
      exact main _ ⟨fun h => .inr (.inr (by simpa using h)), fun h => by simpa using h.resolve_left d1 |>.resolve_left d2⟩
theorem text_f (k : Nat) (B : List Int) (hb : Byt B) (hB : B.length ≤ 140737488355328) (hk : (B.length + 1) * 140 + 40 ≤ k) : remoraref10_text.f k B = some (txt0 B) :=
  text_l0 B hb hB _ k 0 [] false (by omega) (by omega) (by omega) (by simp) hk
end Go.Proofs.Ytaneollgpllbiaa.P
