/- The register's steps are linear over bits, and lose nothing: in plain Lean, over the natural numbers. -/
import Derived.Test.YthehhbfiaaadgaaDoorCrcBits
namespace Go.Proofs.YthehhbfiaaadgaaDoor.Crc
theorem sh_xor (a b : Nat) : sh (a ^^^ b) = sh a ^^^ sh b := by
  have h1 := xor_mod2 a b
  have h2 := xor_div2 a b
  unfold sh
  rw [h2, h1]
  rcases Nat.mod_two_eq_zero_or_one a with ha | ha <;> rcases Nat.mod_two_eq_zero_or_one b with hb | hb
  · rw [if_neg (by omega), if_neg (by omega), if_neg (by omega)]
  · rw [if_pos (by omega), if_neg (by omega), if_pos (by omega), Nat.xor_assoc]
  · rw [if_pos (by omega), if_pos (by omega), if_neg (by omega), Nat.xor_assoc, Nat.xor_assoc, Nat.xor_comm (b / 2)]
  · rw [if_neg (by omega), if_pos (by omega), if_pos (by omega)]
    apply Nat.eq_of_testBit_eq
    intro i
    simp only [Nat.testBit_xor]
    cases (a / 2).testBit i <;> cases (b / 2).testBit i <;> cases Nat.testBit 3988292384 i <;> rfl
def shM : Nat → Nat → Nat
  | 0, x => x
  | n + 1, x => shM n (sh x)
theorem shM_xor (n a b : Nat) : shM n (a ^^^ b) = shM n a ^^^ shM n b := by
  induction n generalizing a b with
  | zero => rfl
  | succ n ih => show shM n (sh (a ^^^ b)) = _; rw [sh_xor, ih]; rfl
theorem shM_add (m n a : Nat) : shM (m + n) a = shM n (shM m a) := by
  induction m generalizing a with
  | zero => rw [Nat.zero_add]; rfl
  | succ m ih => rw [Nat.succ_add]; exact ih (sh a)
theorem shM_out (n a : Nat) : shM (n + 1) a = sh (shM n a) := shM_add n 1 a
theorem shM_zero (n : Nat) : shM n 0 = 0 := by
  induction n with
  | zero => rfl
  | succ n ih => exact ih
theorem sh_lt32 (x : Nat) (h : x < 2 ^ 32) : sh x < 2 ^ 32 := by
  unfold sh
  split
  · exact Nat.xor_lt_two_pow (by omega) (by decide)
  · omega
theorem shM_lt (n x : Nat) (h : x < 2 ^ 32) : shM n x < 2 ^ 32 := by
  induction n generalizing x with
  | zero => exact h
  | succ n ih => exact ih (sh x) (sh_lt32 x h)
theorem xor_zero_eq (a b : Nat) (h : a ^^^ b = 0) : a = b := by
  have : a ^^^ (a ^^^ b) = a ^^^ 0 := by rw [h]
  rw [← Nat.xor_assoc, Nat.xor_self, Nat.zero_xor, Nat.xor_zero] at this
  exact this.symm
theorem sh_nonzero (x : Nat) (h : x < 2 ^ 32) (h0 : sh x = 0) : x = 0 := by
  unfold sh at h0
  by_cases hx : x % 2 = 1
  · rw [if_pos hx] at h0
    have := xor_zero_eq _ _ h0
    omega
  · rw [if_neg hx] at h0
    omega
theorem shM_nonzero (n x : Nat) (h : x < 2 ^ 32) (h0 : shM n x = 0) : x = 0 := by
  induction n generalizing x with
  | zero => exact h0
  | succ n ih => exact sh_nonzero x h (ih (sh x) (sh_lt32 x h) h0)
theorem shM_inj (n a b : Nat) (ha : a < 2 ^ 32) (hb : b < 2 ^ 32) (h : shM n a = shM n b) : a = b := by
  apply xor_zero_eq
  refine shM_nonzero n _ (Nat.xor_lt_two_pow ha hb) ?_
  rw [shM_xor, h, Nat.xor_self]
theorem top_split (n x : Nat) (h1 : 2 ^ n ≤ x) (h2 : x < 2 ^ (n + 1)) : x = 2 ^ n ^^^ (x - 2 ^ n) ∧ x - 2 ^ n < 2 ^ n := by
  have hlt : x - 2 ^ n < 2 ^ n := by rw [Nat.pow_succ] at h2; omega
  refine ⟨?_, hlt⟩
  have e := Nat.two_pow_add_eq_or_of_lt hlt 1
  rw [Nat.mul_one] at e
  have hx : 2 ^ n + (x - 2 ^ n) = x := by omega
  rw [hx] at e
  conv => lhs; rw [e]
  apply Nat.eq_of_testBit_eq
  intro i
  rw [Nat.testBit_or, Nat.testBit_xor]
  by_cases hi : n = i
  · subst hi
    rw [Nat.testBit_lt_two_pow hlt]; simp
  · rw [Nat.testBit_two_pow_of_ne hi]; simp
/-- Two functions that go by each bit alone, and agree at each, agree. -/
theorem lin_ext (f g : Nat → Nat) (hf : ∀ a b, f (a ^^^ b) = f a ^^^ f b) (hg : ∀ a b, g (a ^^^ b) = g a ^^^ g b) :
    ∀ n, (∀ i, i < n → f (2 ^ i) = g (2 ^ i)) → ∀ x, x < 2 ^ n → f x = g x := by
  intro n
  induction n with
  | zero =>
    intro _ x hx
    have : x = 0 := by simpa using hx
    subst this
    have h1 := hf 0 0
    have h2 := hg 0 0
    rw [Nat.xor_self, Nat.xor_self] at h1 h2
    rw [h1, h2]
  | succ n ih =>
    intro h x hx
    have ih' := ih (fun i hi => h i (by omega))
    by_cases hlt : x < 2 ^ n
    · exact ih' x hlt
    · obtain ⟨e, h2⟩ := top_split n x (by omega) hx
      rw [e, hf, hg, h n (by omega), ih' _ h2]
/-- A register times a row: the row's number i for each bit i. -/
def rowsOf : List Nat → Nat → Nat
  | [], _ => 0
  | r :: m, w => (if w % 2 = 1 then r else 0) ^^^ rowsOf m (w / 2)
theorem rowsOf_xor (m : List Nat) (a b : Nat) : rowsOf m (a ^^^ b) = rowsOf m a ^^^ rowsOf m b := by
  induction m generalizing a b with
  | nil => simp [rowsOf]
  | cons r m ih =>
    have h1 := xor_mod2 a b
    have h2 := xor_div2 a b
    show (if (a ^^^ b) % 2 = 1 then r else 0) ^^^ rowsOf m ((a ^^^ b) / 2) = ((if a % 2 = 1 then r else 0) ^^^ rowsOf m (a / 2)) ^^^ ((if b % 2 = 1 then r else 0) ^^^ rowsOf m (b / 2))
    rw [h2, ih, h1]
    generalize rowsOf m (a / 2) = A
    generalize rowsOf m (b / 2) = B
    have key : (if (a + b) % 2 = 1 then r else 0) = (if a % 2 = 1 then r else 0) ^^^ (if b % 2 = 1 then r else 0) := by
      rcases Nat.mod_two_eq_zero_or_one a with ha | ha <;> rcases Nat.mod_two_eq_zero_or_one b with hb | hb
      · rw [if_neg (by omega), if_neg (by omega), if_neg (by omega)]; rfl
      · rw [if_pos (by omega), if_neg (by omega), if_pos (by omega), Nat.zero_xor]
      · rw [if_pos (by omega), if_pos (by omega), if_neg (by omega), Nat.xor_zero]
      · rw [if_neg (by omega), if_pos (by omega), if_pos (by omega), Nat.xor_self]
    rw [key]
    apply Nat.eq_of_testBit_eq
    intro i
    simp only [Nat.testBit_xor]
    generalize Nat.testBit (if a % 2 = 1 then r else 0) i = x1
    generalize Nat.testBit (if b % 2 = 1 then r else 0) i = x2
    generalize A.testBit i = x3
    generalize B.testBit i = x4
    cases x1 <;> cases x2 <;> cases x3 <;> cases x4 <;> rfl
theorem rowsOf_zero (m : List Nat) : rowsOf m 0 = 0 := by
  induction m with
  | nil => rfl
  | cons r m ih => show (if 0 % 2 = 1 then r else 0) ^^^ rowsOf m (0 / 2) = 0; rw [if_neg (by decide), ih]; rfl
theorem rowsOf_lt (m : List Nat) (hm : ∀ r ∈ m, r < 2 ^ 32) (w : Nat) : rowsOf m w < 2 ^ 32 := by
  induction m generalizing w with
  | nil => exact (by decide : (0 : Nat) < 2 ^ 32)
  | cons r m ih =>
    refine Nat.xor_lt_two_pow ?_ (ih (fun x hx => hm x (by simp [hx])) _)
    split
    · exact hm r (by simp)
    · decide
theorem rowsOf_bit (m : List Nat) (i : Nat) (h : i < m.length) : rowsOf m (2 ^ i) = m[i] := by
  induction m generalizing i with
  | nil => simp at h
  | cons r m ih =>
    cases i with
    | zero =>
      show (if 2 ^ 0 % 2 = 1 then r else 0) ^^^ rowsOf m (2 ^ 0 / 2) = r
      rw [if_pos (by decide), show (2 : Nat) ^ 0 / 2 = 0 by decide, rowsOf_zero, Nat.xor_zero]
    | succ i =>
      have h2 : 2 ^ (i + 1) / 2 = 2 ^ i := by rw [Nat.pow_succ]; omega
      have h3 : 2 ^ (i + 1) % 2 = 0 := by rw [Nat.pow_succ]; omega
      show (if 2 ^ (i + 1) % 2 = 1 then r else 0) ^^^ rowsOf m (2 ^ (i + 1) / 2) = m[i]'(by simpa using h)
      rw [if_neg (by omega), h2, Nat.zero_xor]
      exact ih i (by simpa using h)
/-- The rows of what a function does to each bit. -/
def rows (f : Nat → Nat) : List Nat := (List.range 32).map fun i => f (2 ^ i)
theorem rows_of (f : Nat → Nat) (hf : ∀ a b, f (a ^^^ b) = f a ^^^ f b) (x : Nat) (hx : x < 2 ^ 32) : rowsOf (rows f) x = f x := by
  refine lin_ext _ f (rowsOf_xor _) hf 32 (fun i hi => ?_) x hx
  rw [rowsOf_bit _ _ (by simpa [rows] using hi)]
  simp [rows]
theorem rows_twice (f : Nat → Nat) (hf : ∀ a b, f (a ^^^ b) = f a ^^^ f b) (hlt : ∀ x, x < 2 ^ 32 → f x < 2 ^ 32) : (rows f).map (rowsOf (rows f)) = rows (fun x => f (f x)) := by
  show ((List.range 32).map fun i => f (2 ^ i)).map _ = (List.range 32).map fun i => f (f (2 ^ i))
  rw [List.map_map]
  refine List.map_congr_left fun i hi => ?_
  have hi' : i < 32 := List.mem_range.mp hi
  exact rows_of f hf _ (hlt _ (Nat.pow_lt_pow_right (by decide) hi'))
/-- The reference's product: b is shifted once for each bit of a, from the highest on. -/
def prod (d : Nat) (a b : Nat) : Nat :=
  match d with
  | 0 => 0
  | d + 1 => (if a / 2 ^ d % 2 = 1 then b else 0) ^^^ prod d a (sh b)
theorem prod_xor_b (d a b c : Nat) : prod d a (b ^^^ c) = prod d a b ^^^ prod d a c := by
  induction d generalizing b c with
  | zero => simp [prod]
  | succ d ih =>
    show (if a / 2 ^ d % 2 = 1 then b ^^^ c else 0) ^^^ prod d a (sh (b ^^^ c)) = ((if a / 2 ^ d % 2 = 1 then b else 0) ^^^ prod d a (sh b)) ^^^ ((if a / 2 ^ d % 2 = 1 then c else 0) ^^^ prod d a (sh c))
    rw [sh_xor, ih]
    generalize prod d a (sh b) = B
    generalize prod d a (sh c) = C
    split
    · apply Nat.eq_of_testBit_eq
      intro i
      simp only [Nat.testBit_xor]
      cases b.testBit i <;> cases c.testBit i <;> cases B.testBit i <;> cases C.testBit i <;> rfl
    · simp
theorem div_xor (a b d : Nat) : (a ^^^ b) / 2 ^ d = (a / 2 ^ d) ^^^ (b / 2 ^ d) := by
  apply Nat.eq_of_testBit_eq
  intro i
  simp only [Nat.testBit_xor, Nat.testBit_div_two_pow]
theorem prod_xor_a (d a b c : Nat) : prod d (a ^^^ b) c = prod d a c ^^^ prod d b c := by
  induction d generalizing c with
  | zero => simp [prod]
  | succ d ih =>
    show (if (a ^^^ b) / 2 ^ d % 2 = 1 then c else 0) ^^^ prod d (a ^^^ b) (sh c) = ((if a / 2 ^ d % 2 = 1 then c else 0) ^^^ prod d a (sh c)) ^^^ ((if b / 2 ^ d % 2 = 1 then c else 0) ^^^ prod d b (sh c))
    rw [ih, div_xor, xor_mod2]
    generalize a / 2 ^ d = A
    generalize b / 2 ^ d = B
    generalize prod d a (sh c) = X
    generalize prod d b (sh c) = Y
    have key : (if (A + B) % 2 = 1 then c else 0) = (if A % 2 = 1 then c else 0) ^^^ (if B % 2 = 1 then c else 0) := by
      rcases Nat.mod_two_eq_zero_or_one A with ha | ha <;> rcases Nat.mod_two_eq_zero_or_one B with hb | hb
      · rw [if_neg (by omega), if_neg (by omega), if_neg (by omega)]; rfl
      · rw [if_pos (by omega), if_neg (by omega), if_pos (by omega), Nat.zero_xor]
      · rw [if_pos (by omega), if_pos (by omega), if_neg (by omega), Nat.xor_zero]
      · rw [if_neg (by omega), if_pos (by omega), if_pos (by omega), Nat.xor_self]
    rw [key]
    generalize (if A % 2 = 1 then c else 0) = P
    generalize (if B % 2 = 1 then c else 0) = Q
    apply Nat.eq_of_testBit_eq
    intro i
    simp only [Nat.testBit_xor]
    cases P.testBit i <;> cases Q.testBit i <;> cases X.testBit i <;> cases Y.testBit i <;> rfl
/-- The product with one bit is that many shifts. -/
theorem prod_bit (d j b : Nat) (h : j < d) : prod d (2 ^ j) b = shM (d - 1 - j) b := by
  induction d generalizing b with
  | zero => omega
  | succ d ih =>
    show (if 2 ^ j / 2 ^ d % 2 = 1 then b else 0) ^^^ prod d (2 ^ j) (sh b) = _
    by_cases hj : j = d
    · subst hj
      have hz : ∀ e, e ≤ j → ∀ c, prod e (2 ^ j) c = 0 := by
        intro e
        induction e with
        | zero => intro _ _; rfl
        | succ e ihe =>
          intro he c
          show (if 2 ^ j / 2 ^ e % 2 = 1 then c else 0) ^^^ prod e (2 ^ j) (sh c) = 0
          rw [ihe (by omega), if_neg (by rw [Nat.pow_div (by omega) (by decide), show j - e = (j - e - 1) + 1 by omega, Nat.pow_succ]; omega)]; rfl
      rw [Nat.div_self (Nat.pow_pos (by decide)), if_pos (by decide), hz j (Nat.le_refl _), Nat.xor_zero, show j + 1 - 1 - j = 0 by omega]; rfl
    · rw [Nat.div_eq_of_lt (Nat.pow_lt_pow_right (by decide) (by omega)), if_neg (by decide), Nat.zero_xor, ih _ (by omega), show d + 1 - 1 - j = (d - 1 - j) + 1 by omega]; rfl
/-- The polynomial, as a product, is 32 shifts. -/
theorem prod_poly (b : Nat) (hb : b < 2 ^ 32) : prod 32 3988292384 b = shM 32 b :=
  lin_ext _ _ (prod_xor_b 32 _) (shM_xor 32) 32 (by decide +kernel) b hb
theorem prod_sh (a b : Nat) (ha : a < 2 ^ 32) (hb : b < 2 ^ 32) : prod 32 (sh a) b = sh (prod 32 a b) := by
  refine lin_ext (fun a => prod 32 (sh a) b) (fun a => sh (prod 32 a b)) (fun x y => by rw [sh_xor, prod_xor_a]) (fun x y => by rw [prod_xor_a, sh_xor]) 32 (fun i hi => ?_) a ha
  show prod 32 (sh (2 ^ i)) b = sh (prod 32 (2 ^ i) b)
  rw [prod_bit 32 i b hi, ← shM_out]
  cases i with
  | zero =>
    rw [show sh (2 ^ 0) = 3988292384 by decide, prod_poly b hb]
  | succ i =>
    have : sh (2 ^ (i + 1)) = 2 ^ i := by
      unfold sh
      rw [if_neg (by rw [Nat.pow_succ]; omega), Nat.pow_succ]; omega
    rw [this, prod_bit 32 i b (by omega)]
    congr 1
    omega
theorem prod_shM (n a b : Nat) (ha : a < 2 ^ 32) (hb : b < 2 ^ 32) : prod 32 (shM n a) b = shM n (prod 32 a b) := by
  induction n with
  | zero => rfl
  | succ n ih => rw [shM_out, prod_sh _ _ (shM_lt n a ha) hb, ih, ← shM_out]
theorem prod_one (b : Nat) : prod 32 2147483648 b = b := by
  have := prod_bit 32 31 b (by decide)
  simpa [shM] using this
/-- The product with what one becomes in n shifts is n shifts. -/
theorem prod_pow (n b : Nat) (hb : b < 2 ^ 32) : prod 32 (shM n 2147483648) b = shM n b := by
  rw [prod_shM n _ _ (by decide) hb, prod_one]
end Go.Proofs.YthehhbfiaaadgaaDoor.Crc
