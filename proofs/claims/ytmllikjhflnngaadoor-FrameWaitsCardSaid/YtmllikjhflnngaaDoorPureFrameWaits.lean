/- The law FrameWaits: a frame that is cut short is waited for; behind a turned sum nothing comes. -/
import Derived.Test.YtmllikjhflnngaaDoorFrameSpec
import Derived.Test.YtmllikjhflnngaaDoorPx15
set_option linter.unusedVariables false
namespace Go.Proofs.YtmllikjhflnngaaDoor.Pure
open Go.RowKit Go.Proofs.YtmllikjhflnngaaDoor.P Go.Proofs.YtmllikjhflnngaaDoorW.PrintWords Go.Proofs.YtmllikjhflnngaaDoorW.PrintLast Go.Proofs.YtmllikjhflnngaaDoorW.PrintMore Go.Proofs.YtmllikjhflnngaaDoor.Crc Go.Proofs.YtmllikjhflnngaaDoor.Num
theorem xor_u8' (a b : Nat) (ha : a < 2 ^ 8) (hb : b < 2 ^ 8) : Go.bits .xor .u8 a b = ((a ^^^ b : Nat) : Int) ∧ a ^^^ b < 2 ^ 8 := by
  have ha' : a % 2 ^ 8 = a := Nat.mod_eq_of_lt ha
  have hb' : b % 2 ^ 8 = b := Nat.mod_eq_of_lt hb
  have e : Go.bits .xor .u8 (a : Int) (b : Int) = IntKind.u8.wrap (((BitVec.ofInt 8 (a : Int) ^^^ BitVec.ofInt 8 (b : Int)).toNat : Nat) : Int) := rfl
  have hlt : a ^^^ b < 2 ^ 8 := Nat.xor_lt_two_pow ha hb
  refine ⟨?_, hlt⟩
  rw [e]
  simp only [BitVec.ofInt_natCast, BitVec.toNat_xor, BitVec.toNat_ofNat, ha', hb']
  rw [IntKind.wrap_u8]; omega
theorem turned (a t : Int) (h0 : 0 ≤ a) (h1 : a ≤ 255) (ht0 : 1 ≤ t) (ht1 : t ≤ 255) : 0 ≤ Go.bits .xor .u8 a t ∧ Go.bits .xor .u8 a t ≤ 255 ∧ Go.bits .xor .u8 a t ≠ a := by
  obtain ⟨x, rfl⟩ : ∃ x : Nat, a = (x : Int) := ⟨a.toNat, by omega⟩
  obtain ⟨y, rfl⟩ : ∃ y : Nat, t = (y : Int) := ⟨t.toNat, by omega⟩
  obtain ⟨e, hlt⟩ := xor_u8' x y (by omega) (by omega)
  rw [e]
  refine ⟨by omega, by omega, fun h => ?_⟩
  have h2 : x ^^^ y = x := by omega
  have h3 : x ^^^ (x ^^^ y) = x ^^^ x := by rw [h2]
  rw [← Nat.xor_assoc, Nat.xor_self, Nat.zero_xor] at h3
  omega
theorem FrameWaits : remoralaw29_FrameWaits.Pure := by
  intro kind body turn h0 h1 hb hl ht0 ht1
  have hF := encF_len kind body
  have hp := enc_pos body.length
  have h9 := enc_len9 (n := body.length) (by omega)
  refine ⟨20 + 1, encF kind body, put_encF 20 kind body (by omega) h0 h1 hb (by omega), by omega, by omega, fun m hm => get_short _ kind body m (by omega) h0 h1 hb (by omega) hm, ?_, ?_⟩
  · have := get_encF (20 + 1) [] [] kind body (by omega) (fun x hx => by cases hx) (fun x hx => by cases hx) h0 h1 hb (by omega) (by simp)
    simpa using this
  · have hs := crcSum_range (ownF kind body) (ownF_byte h0 h1 hb)
    have hsb := sealL_byte (crcSum (ownF kind body))
    generalize hS : crcSum (ownF kind body) = S at hs hsb
    have e : encF kind body = ownF kind body ++ [S % 256, S / 256 % 256, S / 65536 % 256, S / 16777216 % 256] := by unfold encF; rw [hS]; rfl
    have e3 : (encF kind body).length - 1 = (ownF kind body).length + 3 := by rw [hF, ownF_len]; omega
    have e4 : (encF kind body).getD ((encF kind body).length - 1) 0 = S / 16777216 % 256 := by rw [e3, e]; simp [List.getD_eq_getElem?_getD]
    obtain ⟨t0, t1, t2⟩ := turned (S / 16777216 % 256) (1 + turn % 255) (by omega) (by omega) (by omega) (by omega)
    rw [e4]
    generalize Go.bits .xor .u8 (S / 16777216 % 256) (1 + turn % 255) = X at t0 t1 t2 ⊢
    rw [e3, e, List.set_append_right _ _ (by omega), show (ownF kind body).length + 3 - (ownF kind body).length = 3 by omega]
    refine get_wrong _ kind body _ (by omega) h0 h1 hb (fun y hy => ?_) (by omega) (by simp) (fun h => t2 ?_)
    · simp at hy
      rcases hy with rfl | rfl | rfl | rfl <;> omega
    · rw [hS] at h
      simp [sealL] at h
      exact h
end Go.Proofs.YtmllikjhflnngaaDoor.Pure
