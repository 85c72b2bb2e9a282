/- The reference's sum is the program's. -/
import Derived.Test.YthehhbfiaaadgaaDoorCrcNib
import Derived.Test.YthehhbfiaaadgaaDoorCrcByte
import Derived.Test.YthehhbfiaaadgaaDoorPx3
set_option linter.unusedVariables false
namespace Go.Proofs.YthehhbfiaaadgaaDoor.P
open Go.RowKit Go.Proofs.YthehhbfiaaadgaaDoorW.PrintWords Go.Proofs.YthehhbfiaaadgaaDoorW.PrintLast Go.Proofs.YthehhbfiaaadgaaDoorW.PrintMore Go.Proofs.YthehhbfiaaadgaaDoor.Crc
def shN : Nat → Nat → Nat
  | 0, x => x
  | n + 1, x => shN n (sh x)
theorem sh_lt (x : Nat) (h : x < 2 ^ 32) : sh x < 2 ^ 32 := by
  unfold sh
  split
  · exact Nat.xor_lt_two_pow (by omega) (by decide)
  · omega
theorem refShift_l0 (m : Nat) (hm : m ≤ 140737488352000) : ∀ (d k i x : Nat), i + d = m → d + 1 ≤ k → x < 2 ^ 32 → remoraref02_Shift.l0 k (x : Int) (m : Int) (i : Int) = some ((shN d x : Nat) : Int) := by
  intro d
  induction d with
  | zero =>
    intro k i x hi hk hx
    obtain ⟨k, rfl⟩ : ∃ q, k = q + 1 := ⟨k - 1, by omega⟩
    simp only [remoraref02_Shift.l0]
    rw [if_neg (by omega)]; rfl
  | succ d ih =>
    intro k i x hi hk hx
    obtain ⟨k, rfl⟩ : ∃ q, k = q + 1 := ⟨k - 1, by omega⟩
    simp only [remoraref02_Shift.l0]
    rw [if_pos (by omega), Int.tmod_eq_emod_of_nonneg (by omega), Int.tdiv_eq_ediv_of_nonneg (by omega), w64' (n := (i : Int) + 1) (by omega) (by omega),
      show ((x : Int) / 2) % 4294967296 = ((x / 2 : Nat) : Int) by omega, show ((i : Int) + 1) = ((i + 1 : Nat) : Int) by omega]
    have hx2 : x / 2 < 2 ^ 32 := by omega
    by_cases h : x % 2 = 1
    · rw [if_pos (by omega), show (3988292384 : Int) = ((3988292384 : Nat) : Int) by decide, xor_u32 _ _ hx2 (by decide)]
      have e : sh x = (x / 2) ^^^ 3988292384 := by unfold sh; rw [if_pos h]
      rw [← e, ih k (i + 1) (sh x) (by omega) (by omega) (sh_lt x hx)]; rfl
    · rw [if_neg (by omega)]
      have e : sh x = x / 2 := by unfold sh; rw [if_neg h]
      rw [← e, ih k (i + 1) (sh x) (by omega) (by omega) (sh_lt x hx)]; rfl
theorem refShift_f (k m x : Nat) (hm : m ≤ 140737488352000) (hk : m + 1 ≤ k) (hx : x < 2 ^ 32) : remoraref02_Shift.f k (x : Int) (m : Int) = some ((shN m x : Nat) : Int) := by
  unfold remoraref02_Shift.f
  exact refShift_l0 m hm m k 0 x (by omega) hk hx
theorem shN_lt (n x : Nat) (h : x < 2 ^ 32) : shN n x < 2 ^ 32 := by
  induction n generalizing x with
  | zero => exact h
  | succ n ih => exact ih (sh x) (sh_lt x h)
theorem crcByte_sh (x c : Nat) (hx : x < 2 ^ 32) (hc : c < 256) : crcByte (x : Int) (c : Int) = ((shN 8 (x ^^^ c) : Nat) : Int) := by
  have hc2 : c < 2 ^ 32 := by omega
  have h1 : x ^^^ c < 2 ^ 32 := Nat.xor_lt_two_pow hx hc2
  unfold crcByte
  rw [show ((c : Int) % 4294967296) = ((c : Nat) : Int) by omega, xor_u32 _ _ hx hc2, crcNib_sh _ h1, crcNib_sh _ (sh_lt _ (sh_lt _ (sh_lt _ (sh_lt _ h1))))]
  rfl
theorem crcFold_nat (l : List Int) (hl : Byte l) : ∀ x : Nat, x < 2 ^ 32 → ∃ y : Nat, y < 2 ^ 32 ∧ crcFold (x : Int) l = (y : Int) := by
  induction l with
  | nil => intro x hx; exact ⟨x, hx, rfl⟩
  | cons c t ih =>
    intro x hx
    have hc := hl c (by simp)
    obtain ⟨d, rfl⟩ := Int.eq_ofNat_of_zero_le hc.1
    have hd : d < 256 := by omega
    obtain ⟨y, hy, e⟩ := ih (fun z hz => hl z (by simp [hz])) (shN 8 (x ^^^ d)) (shN_lt _ _ (Nat.xor_lt_two_pow hx (by omega)))
    refine ⟨y, hy, ?_⟩
    rw [← e, ← crcByte_sh x d hx hd]; rfl
theorem not_u32 (x : Nat) (hx : x < 2 ^ 32) : Go.bits .xor .u32 4294967295 (x : Int) = (4294967295 - (x : Int)) % 4294967296 := by
  have h : 4294967295 ^^^ x = 2 ^ 32 - (x + 1) := by
    apply Nat.eq_of_testBit_eq
    intro i
    rw [Nat.testBit_xor, Nat.testBit_two_pow_sub_succ hx, show (4294967295 : Nat) = 2 ^ 32 - 1 by decide, Nat.testBit_two_pow_sub_one]
    by_cases hi : i < 32
    · rw [decide_eq_true hi]; simp
    · rw [decide_eq_false hi, Nat.testBit_lt_two_pow (Nat.lt_of_lt_of_le hx (Nat.pow_le_pow_right (by decide) (by omega)))]; rfl
  rw [show (4294967295 : Int) = ((4294967295 : Nat) : Int) by decide, xor_u32 _ _ (by decide) hx, h]
  omega
theorem rd_byte (l : List Int) (hl : Byte l) (i : Nat) (hi : i < l.length) : 0 ≤ rd l (i : Int) ∧ rd l (i : Int) ≤ 255 := by
  have e : rd l (i : Int) = l[i] := by simp [rd, List.getD_eq_getElem?_getD, List.getElem?_eq_getElem hi]
  rw [e]; exact hl _ (List.getElem_mem hi)
/-- All the sums' rounds: of the part i from its byte j on, and of the parts behind it. -/
theorem refOf_l (ls : List (List Int)) (hb : ∀ l ∈ ls, Byte l ∧ l.length ≤ 140737488352000) (hn : ls.length ≤ 140737488352000) : ∀ (a : Nat), ∀ (i k x : Nat), i + a = ls.length → x < 2 ^ 32 → ((ls.drop i).map List.length).sum + 2 * a + 20 ≤ k →
    remoraref02_Of.l0 k ls (x : Int) (i : Int) = some (Go.bits .xor .u32 4294967295 ((ls.drop i).foldl crcFold (x : Int))) := by
  intro a
  induction a with
  | zero =>
    intro i k x hi hx hk
    obtain ⟨k, rfl⟩ : ∃ q, k = q + 1 := ⟨k - 1, by omega⟩
    simp only [remoraref02_Of.l0]
    rw [if_neg (by omega), List.drop_of_length_le (by omega), List.foldl_nil, not_u32 x hx]
  | succ a ih =>
    intro i k x hi hx hk
    obtain ⟨k, rfl⟩ : ∃ q, k = q + 1 := ⟨k - 1, by omega⟩
    have hlt : i < ls.length := by omega
    have hrd : rd_L1 ls (i : Int) = ls[i] := by simp [rd_L1, hlt]
    obtain ⟨hbi, hli⟩ := hb ls[i] (List.getElem_mem hlt)
    have hd : ls.drop i = ls[i] :: ls.drop (i + 1) := List.drop_eq_getElem_cons hlt
    rw [hd, List.map_cons, List.sum_cons] at hk
    simp only [remoraref02_Of.l0]
    rw [if_pos (by omega)]
    have inner : ∀ (b j k x : Nat), j + b = ls[i].length → x < 2 ^ 32 → b + ((ls.drop (i + 1)).map List.length).sum + 2 * a + 21 ≤ k →
        remoraref02_Of.l1 k ls (x : Int) (i : Int) (j : Int) = some (Go.bits .xor .u32 4294967295 ((ls.drop (i + 1)).foldl crcFold (crcFold (x : Int) (ls[i].drop j)))) := by
      intro b
      induction b with
      | zero =>
        intro j k x hj hx hk
        obtain ⟨k, rfl⟩ : ∃ q, k = q + 1 := ⟨k - 1, by omega⟩
        simp only [remoraref02_Of.l1]
        rw [if_pos (by omega), if_pos (by omega), hrd, if_neg (by omega), w64' (n := (i : Int) + 1) (by omega) (by omega), show ((i : Int) + 1) = ((i + 1 : Nat) : Int) by omega,
          ih (i + 1) k x (by omega) hx (by omega), List.drop_of_length_le (by omega : ls[i].length ≤ j)]
        rfl
      | succ b ihb =>
        intro j k x hj hx hk
        obtain ⟨k, rfl⟩ : ∃ q, k = q + 1 := ⟨k - 1, by omega⟩
        have hjl : j < ls[i].length := by omega
        obtain ⟨c, hc⟩ := Int.eq_ofNat_of_zero_le (rd_byte ls[i] hbi j hjl).1
        have hc2 : c < 256 := by have := (rd_byte ls[i] hbi j hjl).2; omega
        have e : rd ls[i] (j : Int) = ls[i][j] := by simp [rd, List.getD_eq_getElem?_getD, List.getElem?_eq_getElem hjl]
        have hdj : ls[i].drop j = (c : Int) :: ls[i].drop (j + 1) := by rw [List.drop_eq_getElem_cons hjl, ← e, hc]
        have h1 : x ^^^ c < 2 ^ 32 := Nat.xor_lt_two_pow hx (by omega)
        simp only [remoraref02_Of.l1]
        rw [if_pos (by omega), if_pos (by omega), hrd, if_pos (by omega), if_pos (by omega), hc, show (c : Int) % 4294967296 = ((c : Nat) : Int) by omega, xor_u32 _ _ hx (by omega),
          show (8 : Int) = ((8 : Nat) : Int) by decide, refShift_f k 8 _ (by omega) (by omega) h1, Option.bind_some, w64' (n := (j : Int) + 1) (by omega) (by omega), show ((j : Int) + 1) = ((j + 1 : Nat) : Int) by omega,
          ihb (j + 1) k _ (by omega) (shN_lt _ _ h1) (by omega), hdj, ← crcByte_sh x c hx hc2]
        rfl
    have := inner ls[i].length 0 k x (by omega) hx (by omega)
    rw [hd, List.foldl_cons]
    simpa using this
theorem refOf_f (k : Nat) (ls : List (List Int)) (hb : ∀ l ∈ ls, Byte l ∧ l.length ≤ 140737488352000) (hn : ls.length ≤ 140737488352000) (hk : (ls.map List.length).sum + 2 * ls.length + 20 ≤ k) : remoraref02_Of.f k ls = some (Go.bits .xor .u32 4294967295 (ls.foldl crcFold 4294967295)) := by
  unfold remoraref02_Of.f
  exact refOf_l ls hb hn ls.length 0 k 4294967295 (by omega) (by decide) (by simpa using hk)
theorem crcSum_range (l : List Int) (hl : Byte l) : 0 ≤ crcSum l ∧ crcSum l < 4294967296 := by
  obtain ⟨y, hy, e⟩ := crcFold_nat l hl 4294967295 (by decide)
  unfold crcSum
  rw [show (4294967295 : Int) = ((4294967295 : Nat) : Int) from rfl, e, show ((4294967295 : Nat) : Int) = 4294967295 from rfl, not_u32 y hy]
  omega
theorem refSeal_l0 (t : Int) (ht : 0 ≤ t ∧ t < 4294967296) (l : List Int) (hl : l.length ≤ 140737488352000) (k : Nat) (hk : 6 ≤ k) : remoraref02_Seal.l0 k t l 0 = some (l ++ sealL t) := by
  obtain ⟨k, rfl⟩ : ∃ q, k = q + 5 := ⟨k - 5, by omega⟩
  have e1 : ∀ x : Int, 0 ≤ x → x < 4294967296 → (Int.tdiv x 256) % 4294967296 = x / 256 := fun x h h' => by rw [Int.tdiv_eq_ediv_of_nonneg h]; omega
  have e2 : ∀ x : Int, 0 ≤ x → (Int.tmod x 256) % 256 = x % 256 := fun x h => by rw [Int.tmod_eq_emod_of_nonneg h]; omega
  simp only [remoraref02_Seal.l0]
  rw [if_pos (by omega), if_pos (by omega), if_pos (by simp [w64']), if_pos (by simp; omega), if_pos (by simp [w64']), if_pos (by simp; omega), if_pos (by simp [w64']), if_pos (by simp; omega), if_neg (by simp [w64'])]
  rw [e1 t ht.1 ht.2, e1 (t / 256) (by omega) (by omega), e1 (t / 256 / 256) (by omega) (by omega), e2 t ht.1, e2 (t / 256) (by omega), e2 (t / 256 / 256) (by omega), e2 (t / 256 / 256 / 256) (by omega)]
  unfold sealL
  rw [show t / 65536 = t / 256 / 256 by omega, show t / 16777216 = t / 256 / 256 / 256 by omega]
  simp
theorem refSeal_f (k : Nat) (l : List Int) (hb : Byte l) (hl : l.length ≤ 140737488352000) (hk : l.length + 30 ≤ k) : remoraref02_Seal.f k l = some (l ++ sealL (crcSum l)) := by
  unfold remoraref02_Seal.f
  have h1 := refOf_f k [l] (by intro z hz; rw [List.mem_singleton.mp hz]; exact ⟨hb, hl⟩) (by simp) (by simp; omega)
  rw [h1, Option.bind_some, Option.bind_some, if_pos (by simp; omega), List.nil_append]
  exact refSeal_l0 _ (crcSum_range l hb) l hl k (by omega)
end Go.Proofs.YthehhbfiaaadgaaDoor.P
