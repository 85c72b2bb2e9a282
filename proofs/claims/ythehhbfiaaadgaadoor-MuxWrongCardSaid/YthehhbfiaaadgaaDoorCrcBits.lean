/- One step of the sum's register, and four at once: in plain Lean, over the natural numbers. -/
namespace Go.Proofs.YthehhbfiaaadgaaDoor.Crc
/-- One bit falls out. -/
def sh (x : Nat) : Nat := if x % 2 = 1 then (x / 2) ^^^ 3988292384 else x / 2
theorem xor_mod2 (a b : Nat) : (a ^^^ b) % 2 = (a + b) % 2 := by
  have e : (a ^^^ b).testBit 0 = (Bool.xor (a.testBit 0) (b.testBit 0)) := Nat.testBit_xor ..
  rw [Nat.testBit_zero, Nat.testBit_zero, Nat.testBit_zero] at e
  have h1 : (a ^^^ b) % 2 < 2 := Nat.mod_lt _ (by decide)
  have h2 := Nat.add_mod a b 2
  rcases Nat.mod_two_eq_zero_or_one a with ha | ha <;> rcases Nat.mod_two_eq_zero_or_one b with hb | hb <;> rw [ha, hb] at e h2 <;> rw [h2] <;> revert e <;> rcases Nat.mod_two_eq_zero_or_one (a ^^^ b) with hc | hc <;> rw [hc] <;> decide
theorem xor_div2 (a b : Nat) : (a ^^^ b) / 2 = (a / 2) ^^^ (b / 2) := Nat.xor_div_two
/-- An even part goes by. -/
theorem sh_even (q c : Nat) : sh ((2 * q) ^^^ c) = q ^^^ sh c := by
  have h1 : ((2 * q) ^^^ c) % 2 = c % 2 := by rw [xor_mod2]; omega
  have h2 : ((2 * q) ^^^ c) / 2 = q ^^^ (c / 2) := by rw [xor_div2]; congr 1; omega
  unfold sh
  rw [h1, h2]
  by_cases h : c % 2 = 1
  · rw [if_pos h, if_pos h, Nat.xor_assoc]
  · rw [if_neg h, if_neg h]
/-- Four bits at once. -/
theorem sh4 (q r : Nat) (hr : r < 16) : sh (sh (sh (sh (16 * q + r)))) = q ^^^ sh (sh (sh (sh r))) := by
  have h0 : 16 * q + r = (2 * (8 * q)) ^^^ r := by
    have := Nat.two_pow_add_eq_or_of_lt (i := 4) (show r < 2 ^ 4 from hr) q
    have h3 : (2 * (8 * q)) ^^^ r = 2 ^ 4 * q ||| r := by
      rw [show 2 * (8 * q) = 2 ^ 4 * q by omega]
      apply Nat.eq_of_testBit_eq
      intro i
      rw [Nat.testBit_xor, Nat.testBit_or]
      by_cases hi : i < 4
      · have hz : (2 ^ 4 * q).testBit i = false := by
          rw [Nat.testBit_two_pow_mul, decide_eq_false (by omega), Bool.false_and]
        rw [hz]; simp
      · have hz : r.testBit i = false := Nat.testBit_lt_two_pow (Nat.lt_of_lt_of_le hr (show 16 ≤ 2 ^ i from Nat.pow_le_pow_right (n := 2) (i := 4) (by decide) (by omega)))
        rw [hz]; simp
    rw [h3, ← this]
  rw [h0, sh_even, show 8 * q = 2 * (4 * q) by omega, sh_even, show 4 * q = 2 * (2 * q) by omega, sh_even, sh_even]
end Go.Proofs.YthehhbfiaaadgaaDoor.Crc
