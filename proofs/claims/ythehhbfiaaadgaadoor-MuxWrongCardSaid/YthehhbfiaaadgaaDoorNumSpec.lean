/- Numbers as bytes, in plain Lean: the encoding 'enc', the decoding 'scan', and that one undoes the other. -/
import Derived.Test.YthehhbfiaaadgaaDoorWMore
import Derived.Laws.BitsLemmas
set_option linter.unusedVariables false
set_option linter.unusedSimpArgs false
namespace Go.Proofs.YthehhbfiaaadgaaDoor.Num
open Go.RowKit Go.Proofs.YthehhbfiaaadgaaDoorW.PrintWords Go.Proofs.YthehhbfiaaadgaaDoorW.PrintLast Go.Proofs.YthehhbfiaaadgaaDoorW.PrintMore

theorem w64 {n : Int} (h0 : -9223372036854775808 ≤ n) (h1 : n ≤ 9223372036854775807) : wrap64 n = n := by unfold wrap64; omega
theorem wraps_i64 (n : Int) (h0 : 0 ≤ n) (h1 : n < 2 ^ 63) : IntKind.i64.wrap n = n := by rw [IntKind.wrap_i64]; omega
theorem bits_or_nat (a b i : Nat) (ha : a < 2 ^ i) (hb : b % 2 ^ i = 0) (ha' : a < 2 ^ 63) (hb' : b < 2 ^ 63) : Go.bits .or .i64 (a : Int) (b : Int) = ((a + b : Nat) : Int) := by
  rw [(bits_nat .i64 63 (by decide) wraps_i64 a b ha' hb').2, Nat.or_comm]
  have hq : b = 2 ^ i * (b / 2 ^ i) := by
    have := Nat.div_add_mod b (2 ^ i)
    omega
  rw [hq, ← Nat.two_pow_add_eq_or_of_lt ha (b / 2 ^ i), Nat.add_comm]
theorem and127_i64 (x : Int) (h0 : 0 ≤ x) (h1 : x < 2 ^ 63) : Go.bits .and .i64 x 127 = x % 128 := bits_mask .i64 63 (by decide) wraps_i64 7 (by decide) x h0 h1
theorem and1_i64 (x : Int) (h0 : 0 ≤ x) (h1 : x < 2 ^ 63) : Go.bits .and .i64 x 1 = x % 2 := bits_mask .i64 63 (by decide) wraps_i64 1 (by decide) x h0 h1
theorem and127_u8 (x : Int) (h0 : 0 ≤ x) (h1 : x ≤ 255) : Go.bits .and .u8 x 127 = x % 128 := bits_mask .u8 8 (by decide) wraps_u8 7 (by decide) x h0 (by omega)
theorem or128 (x : Int) (h0 : 0 ≤ x) (h1 : x < 128) : Go.bits .or .i64 x 128 = x + 128 := by
  obtain ⟨a, rfl⟩ := Int.eq_ofNat_of_zero_le h0
  have := bits_or_nat a 128 7 (by omega) (by decide) (by omega) (by decide)
  simpa using this
theorem wf_i64 {x : Int} (h : (Lit.int .i64 x).wf = true) : -9223372036854775808 ≤ x ∧ x ≤ 9223372036854775807 := by
  simp [Lit.wf, IntKind.min, IntKind.max, IntKind.signed, IntKind.bits] at h; omega
theorem wf_u8 {x : Int} (h : (Lit.int .u8 x).wf = true) : 0 ≤ x ∧ x ≤ 255 := by
  simp [Lit.wf, IntKind.min, IntKind.max, IntKind.signed, IntKind.bits] at h; omega
/-- All are bytes. -/
def Byt (l : List Int) : Prop := ∀ x ∈ l, 0 ≤ x ∧ x ≤ 255
theorem byt_of {l : List Int} (h : ∀ x ∈ l, (Lit.int .u8 x).wf = true) : Byt l := fun x hx => wf_u8 (h x hx)
theorem Byt.append {a b : List Int} (ha : Byt a) (hb : Byt b) : Byt (a ++ b) := fun x hx => by
  rcases List.mem_append.1 hx with h | h
  · exact ha x h
  · exact hb x h
theorem Byt.drop {a : List Int} (ha : Byt a) (n : Nat) : Byt (a.drop n) := fun x hx => ha x (List.mem_of_mem_drop hx)
theorem Byt.take {a : List Int} (ha : Byt a) (n : Nat) : Byt (a.take n) := fun x hx => ha x (List.mem_of_mem_take hx)
theorem byt_nil : Byt [] := fun x hx => by cases hx
theorem rd_byt {l : List Int} (h : Byt l) (i : Int) : 0 ≤ rd l i ∧ rd l i ≤ 255 := by
  unfold rd
  rw [List.getD_eq_getElem?_getD]
  rcases Nat.lt_or_ge i.toNat l.length with hlt | hge
  · rw [List.getElem?_eq_getElem hlt]
    exact h _ (List.getElem_mem hlt)
  · rw [List.getElem?_eq_none hge]; simp
theorem drop_rd {l : List Int} {i : Int} (h0 : 0 ≤ i) (h1 : i < (l.length : Int)) : l.drop i.toNat = rd l i :: l.drop (i.toNat + 1) := by
  have hlt : i.toNat < l.length := by omega
  rw [List.drop_eq_getElem_cons hlt]
  simp [rd, List.getD_eq_getElem?_getD, List.getElem?_eq_getElem hlt]
theorem bytesOf_byt (s : ByteArray) : Byt (bytesOf s) := by
  intro x hx
  simp only [bytesOf, List.mem_map] at hx
  obtain ⟨b, _, rfl⟩ := hx
  have := b.toNat_lt
  omega
/-- Equal as strings, equal as bytes. -/
theorem strOfNums_bytes {l : List Int} (h : Byt l) : bytesOf (strOfNums l) = l := by
  unfold bytesOf strOfNums
  simp only [List.map_map]
  have : ∀ (l : List Int), (∀ x ∈ l, 0 ≤ x ∧ x ≤ 255) → l.map (fun x => ((UInt8.ofNat x.toNat).toNat : Int)) = l := by
    intro l hl
    induction l with
    | nil => rfl
    | cons a t ih =>
      rw [List.map_cons, ih (fun x hx => hl x (List.mem_cons_of_mem _ hx))]
      have := hl a List.mem_cons_self
      congr 1
      simp
      omega
  simpa [Function.comp_def] using this l h

/-! ### the encoding -/
def MaxN : Int := 4611686018427387903
def enc (n : Nat) : List Int := if n ≤ 127 then [(n : Int)] else ((128 + n % 128 : Nat) : Int) :: enc (n / 128)
termination_by n
decreasing_by omega
theorem enc_small {n : Nat} (h : n ≤ 127) : enc n = [(n : Int)] := by rw [enc]; simp [h]
theorem enc_big {n : Nat} (h : ¬ n ≤ 127) : enc n = ((128 + n % 128 : Nat) : Int) :: enc (n / 128) := by rw [enc]; simp only [if_neg h]
theorem enc_pos (n : Nat) : 1 ≤ (enc n).length := by
  rw [enc]; split <;> simp
theorem enc_len (m : Nat) : ∀ n, n < 128 ^ (m + 1) → (enc n).length ≤ m + 1 := by
  induction m with
  | zero => intro n h; rw [enc_small (by omega)]; simp
  | succ m ih =>
    intro n h
    by_cases hn : n ≤ 127
    · rw [enc_small hn]; simp
    · rw [enc_big hn]
      have := ih (n / 128) (by rw [Nat.pow_succ] at h; exact Nat.div_lt_of_lt_mul (by rw [Nat.mul_comm]; exact h))
      simp only [List.length_cons]; omega
theorem enc_len9 {n : Nat} (h : n < 9223372036854775808) : (enc n).length ≤ 9 := enc_len 8 n (by simpa using h)
theorem enc_mono : ∀ (b a : Nat), a ≤ b → (enc a).length ≤ (enc b).length := by
  intro b
  induction b using Nat.strongRecOn with
  | _ b ih =>
    intro a h
    by_cases ha : a ≤ 127
    · rw [enc_small ha]; exact enc_pos b
    · have hb : ¬ b ≤ 127 := by omega
      rw [enc_big ha, enc_big hb]
      have := ih (b / 128) (by omega) (a / 128) (by omega)
      simp only [List.length_cons]; omega
theorem enc_byt : ∀ n, Byt (enc n) := by
  intro n
  induction n using Nat.strongRecOn with
  | _ n ih =>
    by_cases hn : n ≤ 127
    · rw [enc_small hn]; intro x hx; simp at hx; omega
    · rw [enc_big hn]; intro x hx
      rcases List.mem_cons.1 hx with rfl | h
      · omega
      · exact ih (n / 128) (by omega) x h

/-! ### the decoding: from byte i of a number on, n being what was read: the value, how many bytes it has, the error -/
def scan : Nat → List Int → Nat → Nat → Nat × Nat × Int
  | 0, _, _, _ => (0, 0, 5)
  | _ + 1, [], _, _ => (0, 0, 4)
  | f + 1, c :: t, i, n =>
    if c > 127 then scan f t (i + 1) (n + (c % 128).toNat * 128 ^ i)
    else if c = 0 ∧ 0 < i then (0, 0, 5)
    else if n + (c % 128).toNat * 128 ^ i > 4611686018427387903 then (0, 0, 7)
    else (n + (c % 128).toNat * 128 ^ i, i + 1, 0)
theorem scan_enc (f : Nat) : ∀ (i n x : Nat) (rest : List Int), (enc x).length ≤ f → (0 < i → 0 < x) → n + x * 128 ^ i ≤ 4611686018427387903 →
    scan f (enc x ++ rest) i n = (n + x * 128 ^ i, i + (enc x).length, 0) := by
  induction f with
  | zero => intro i n x rest h; have := enc_pos x; omega
  | succ f ih =>
    intro i n x rest hf hi hx
    by_cases hs : x ≤ 127
    · rw [enc_small hs]
      have e : (((x : Nat) : Int) % 128).toNat = x := by omega
      simp only [List.cons_append, List.nil_append, scan, e]
      rw [if_neg (by omega), if_neg (by intro h; have := hi h.2; omega), if_neg (by omega)]
      simp
    · rw [enc_big hs]
      rw [enc_big hs] at hf
      simp only [List.length_cons] at hf
      simp only [List.cons_append, scan]
      have e : (((128 + x % 128 : Nat) : Int) % 128).toNat = x % 128 := by omega
      have hp : 128 ^ (i + 1) = 128 ^ i * 128 := Nat.pow_succ ..
      have e2 : n + x % 128 * 128 ^ i + x / 128 * 128 ^ (i + 1) = n + x * 128 ^ i := by
        have h1 : x / 128 * 128 ^ (i + 1) = (x / 128 * 128) * 128 ^ i := by rw [hp, Nat.mul_comm (128 ^ i) 128, ← Nat.mul_assoc]
        have h2 : x * 128 ^ i = (x % 128 + x / 128 * 128) * 128 ^ i := by congr 1; omega
        rw [h1, h2, Nat.add_mul]; omega
      rw [if_pos (by omega), e, ih (i + 1) _ (x / 128) rest (by omega) (fun _ => by omega) (by rw [e2]; exact hx), e2]
      simp only [List.length_cons, Prod.mk.injEq, and_true, true_and]; omega
/-- What is decoded is the encoding of what was decoded. -/
theorem scan_some (f : Nat) : ∀ (i n : Nat) (l : List Int) (v m : Nat), Byt l → n < 128 ^ i → scan f l i n = (v, m, 0) →
    ∃ x, v = n + x * 128 ^ i ∧ (0 < i → 0 < x) ∧ i < m ∧ m ≤ i + f ∧ m - i ≤ l.length ∧ l.take (m - i) = enc x ∧ v ≤ 4611686018427387903 := by
  induction f with
  | zero => intro i n l v m _ _ h; simp [scan] at h
  | succ f ih =>
    intro i n l v m hb hn h
    cases l with
    | nil => simp [scan] at h
    | cons c t =>
      have hc := hb c List.mem_cons_self
      simp only [scan] at h
      split at h
      · rename_i hgt
        have hp : 128 ^ (i + 1) = 128 ^ i * 128 := Nat.pow_succ ..
        have hcl : (c % 128).toNat ≤ 127 := by omega
        have hmul : (c % 128).toNat * 128 ^ i ≤ 127 * 128 ^ i := Nat.mul_le_mul_right _ hcl
        obtain ⟨x, hv, h0, h1, h2, h3, h4, h5⟩ := ih (i + 1) _ t v m (fun y hy => hb y (List.mem_cons_of_mem _ hy)) (by omega) h
        have hx := h0 (by omega)
        refine ⟨(c % 128).toNat + 128 * x, ?_, fun _ => by omega, by omega, by omega, by simp only [List.length_cons]; omega, ?_, h5⟩
        · rw [hv, hp, Nat.add_mul, ← Nat.mul_assoc, Nat.mul_comm x (128 ^ i), Nat.mul_comm 128 x, Nat.mul_right_comm x 128 (128 ^ i), Nat.mul_comm x (128 ^ i)]
          omega
        · rw [show m - i = (m - (i + 1)) + 1 by omega, List.take_succ_cons, h4, enc_big (n := (c % 128).toNat + 128 * x) (by omega)]
          congr 1
          · omega
          · congr 1; omega
      · split at h
        · cases h
        · split at h
          · cases h
          · rename_i h1 h2 h3
            simp only [Prod.mk.injEq, and_true] at h
            obtain ⟨rfl, rfl⟩ := h
            have e : (c % 128).toNat = c.toNat := by omega
            refine ⟨c.toNat, by rw [e], fun hi => ?_, by omega, by omega, by simp, ?_, by omega⟩
            · have : ¬ c = 0 := fun hc0 => h2 ⟨hc0, hi⟩
              omega
            · rw [show i + 1 - i = 0 + 1 by omega, List.take_succ_cons, enc_small (by omega)]
              simp; omega
/-- What a reading answers. -/
def res (at_ : Int) (r : Nat × Nat × Int) : Int × Int × Int := if r.2.2 = 0 then ((r.1 : Int), at_ + (r.2.1 : Int), 0) else (0, 0, r.2.2)
/-- Get, as the document has it. -/
def getS (l : List Int) (at_ : Int) : Int × Int × Int :=
  if at_ < 0 ∨ at_ > (l.length : Int) then (0, 0, 3)
  else res at_ (scan 9 (l.drop at_.toNat) 0 0)
theorem scan_err (f : Nat) : ∀ (i n : Nat) (l : List Int), (scan f l i n).2.2 = 0 ∨ ((scan f l i n).2.2 = 4 ∨ (scan f l i n).2.2 = 5 ∨ (scan f l i n).2.2 = 7) ∧ scan f l i n = (0, 0, (scan f l i n).2.2) := by
  induction f with
  | zero => intro i n l; simp [scan]
  | succ f ih =>
    intro i n l
    cases l with
    | nil => simp [scan]
    | cons c t =>
      simp only [scan]
      split
      · exact ih _ _ _
      · split
        · simp
        · split <;> simp
theorem getS_range (l : List Int) (at_ : Int) (hb : Byt l) : (getS l at_).2.2 ≠ 0 ∧ getS l at_ = (0, 0, (getS l at_).2.2) ∨
    (getS l at_).2.2 = 0 ∧ ∃ x : Nat, (getS l at_).1 = (x : Int) ∧ x ≤ 4611686018427387903 ∧ 0 ≤ at_ ∧ (getS l at_).2.1 = at_ + (enc x).length ∧ at_ + (enc x).length ≤ l.length ∧ (l.drop at_.toNat).take (enc x).length = enc x := by
  unfold getS
  by_cases h : at_ < 0 ∨ at_ > (l.length : Int)
  · rw [if_pos h]; simp
  · rw [if_neg h]
    unfold res
    rcases scan_err 9 0 0 (l.drop at_.toNat) with he | ⟨he, _⟩
    · rw [if_pos he]
      refine .inr ⟨rfl, ?_⟩
      obtain ⟨v, m, e⟩ : ∃ v m, scan 9 (l.drop at_.toNat) 0 0 = (v, m, 0) := ⟨_, _, by rw [← he]⟩
      obtain ⟨x, hv, _, h1, h2, h3, h4, h5⟩ := scan_some 9 0 0 _ v m (hb.drop _) (by decide) e
      rw [e]
      simp only [Nat.pow_zero, Nat.mul_one, Nat.zero_add, Nat.sub_zero] at hv h3 h4
      subst hv
      have hl : (enc v).length = m := by rw [← h4, List.length_take]; omega
      rw [List.length_drop] at h3
      refine ⟨v, rfl, h5, by omega, by simp only; omega, by omega, by rw [hl]; exact h4⟩
    · have hne : (scan 9 (l.drop at_.toNat) 0 0).2.2 ≠ 0 := by omega
      rw [if_neg hne]
      exact .inl ⟨hne, rfl⟩
theorem getS_enc (a b : List Int) (x : Nat) (h : x ≤ 4611686018427387903) (at_ : Int) (ha : at_ = (a.length : Int)) : getS (a ++ (enc x ++ b)) at_ = ((x : Int), at_ + (enc x).length, 0) := by
  have hp := enc_len9 (n := x) (by omega)
  unfold getS
  rw [if_neg (by simp only [List.length_append]; omega)]
  have e : (a ++ (enc x ++ b)).drop at_.toNat = enc x ++ b := by rw [show at_.toNat = a.length by omega]; simp
  rw [e, scan_enc 9 0 0 x b hp (fun h => absurd h (by omega)) (by simpa using h)]
  simp [res]
/-- A number with a sign, as one without. -/
def zig (n : Int) : Nat := (if n < 0 then -2 * n - 1 else 2 * n).toNat
def zag (v : Int) : Int := if v % 2 = 1 then -(v / 2) - 1 else v / 2
theorem zag_zig (n : Int) : zag (zig n : Int) = n := by unfold zag zig; split <;> split <;> omega
theorem zig_zag (x : Nat) : zig (zag (x : Int)) = x := by unfold zag zig; split <;> split <;> omega
theorem zig_le {n : Int} (h0 : -2305843009213693952 ≤ n) (h1 : n ≤ 2305843009213693951) : zig n ≤ 4611686018427387903 := by unfold zig; split <;> omega
theorem zag_le {x : Nat} (h : x ≤ 4611686018427387903) : -2305843009213693952 ≤ zag (x : Int) ∧ zag (x : Int) ≤ 2305843009213693951 := by unfold zag; split <;> omega
def getIntS (l : List Int) (at_ : Int) : Int × Int × Int := if (getS l at_).2.2 = 0 then (zag (getS l at_).1, (getS l at_).2.1, 0) else (0, 0, (getS l at_).2.2)
def getTextS (l : List Int) (at_ most : Int) : ByteArray × Int × Int :=
  if (getS l at_).2.2 = 0 then
    if (getS l at_).1 > mx most 0 then (⟨#[]⟩, 0, 7)
    else if (getS l at_).1 > (l.length : Int) - (getS l at_).2.1 then (⟨#[]⟩, 0, 4)
    else (strOfNums ((l.take ((getS l at_).2.1 + (getS l at_).1).toNat).drop (getS l at_).2.1.toNat), (getS l at_).2.1 + (getS l at_).1, 0)
  else (⟨#[]⟩, 0, (getS l at_).2.2)
/-- A number with a sign, within bounds. -/
def clI (a : Int) : Int := mn (mx a (-2305843009213693952)) 2305843009213693951
theorem clI_le (a : Int) : -2305843009213693952 ≤ clI a ∧ clI a ≤ 2305843009213693951 := by unfold clI mn mx; split <;> split <;> omega
/-- The sum of the first j bytes of a number, from the lowest group on. -/
def vals (l : List Int) (at_ : Int) : Nat → Nat
  | 0 => 0
  | j + 1 => vals l at_ j + (rd l (at_ + (j : Int)) % 128).toNat * 128 ^ j
end Go.Proofs.YthehhbfiaaadgaaDoor.Num
