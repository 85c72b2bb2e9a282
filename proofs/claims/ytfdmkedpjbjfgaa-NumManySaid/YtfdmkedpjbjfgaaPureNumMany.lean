/- The law NumMany of the numbers: any many numbers with signs, encoded one behind the other, are decoded completely. (At most 1,000 numbers.) -/
import Derived.Test.YtfdmkedpjbjfgaaNumAwake
import Derived.Test.YtfdmkedpjbjfgaaNumMore
import Derived.Test.YtfdmkedpjbjfgaaPx5
namespace Go.Proofs.Ytfdmkedpjbjfgaa.Pure
open Go.RowKit Go.Proofs.Ytfdmkedpjbjfgaa.P Go.Proofs.YtfdmkedpjbjfgaaW.PrintWords Go.Proofs.YtfdmkedpjbjfgaaW.PrintLast Go.Proofs.YtfdmkedpjbjfgaaW.PrintMore Go.Proofs.Ytfdmkedpjbjfgaa.Num
/-- All of them, one behind the other. -/
def allB : List Int → List Int
  | [] => []
  | a :: t => enc (zig (clI a)) ++ allB t
theorem enc_zig (a : Int) : (enc (zig (clI a))).length ≤ 9 := enc_len9 (by have := zig_le (clI_le a).1 (clI_le a).2; omega)
theorem allB_len : ∀ l, (allB l).length ≤ 9 * l.length
  | [] => by simp [allB]
  | a :: t => by
    have := allB_len t
    have := enc_zig a
    simp only [allB, List.length_append, List.length_cons]; omega
theorem allB_byt : ∀ l, Byt (allB l)
  | [] => byt_nil
  | _ :: t => (enc_byt _).append (allB_byt t)
theorem many_l0 (l : List Int) (hl : l.length ≤ 1000) : ∀ (d k : Nat) (i : Nat) (acc : List Int), i + d = l.length → d + 13 ≤ k → acc.length ≤ 9 * i →
    ∃ k', k = k' + d + 1 ∧ remoralaw01_NumMany.l0 k l acc (i : Int) = remoralaw01_NumMany.l1 k' l (acc ++ allB (l.drop i)) 0 0 := by
  intro d
  induction d with
  | zero =>
    intro k i acc hi hk ha
    refine ⟨k - 1, by omega, ?_⟩
    obtain ⟨k, rfl⟩ : ∃ m, k = m + 1 := ⟨k - 1, by omega⟩
    simp only [remoralaw01_NumMany.l0]
    rw [if_neg (by omega), List.drop_eq_nil_of_le (by omega)]
    simp [allB]
  | succ d ih =>
    intro k i acc hi hk ha
    obtain ⟨k, rfl⟩ : ∃ m, k = m + 1 := ⟨k - 1, by omega⟩
    have hz := enc_zig (rd l (i : Int))
    obtain ⟨k', hk', h⟩ := ih k (i + 1) (acc ++ enc (zig (clI (rd l (i : Int))))) (by omega) (by omega) (by rw [List.length_append]; omega)
    refine ⟨k', by omega, ?_⟩
    simp only [remoralaw01_NumMany.l0]
    rw [if_pos (by omega), if_pos (by omega), putInt_f k _ _ (by omega) (by omega), Option.bind_some, w64 (n := (i : Int) + 1) (by omega) (by omega), show ((i : Int) + 1) = ((i + 1 : Nat) : Int) by omega, h]
    have hd := drop_rd (l := l) (i := (i : Int)) (by omega) (by omega)
    rw [Int.toNat_natCast] at hd
    rw [hd]
    simp [allB]
theorem many_l1 (l : List Int) (hl : l.length ≤ 1000) : ∀ (d k i : Nat) (pre : List Int), i + d = l.length → d + 40 ≤ k → Byt pre → pre.length ≤ 9 * i →
    remoralaw01_NumMany.l1 k l (pre ++ allB (l.drop i)) (pre.length : Int) (i : Int) = some true := by
  intro d
  induction d with
  | zero =>
    intro k i pre hi hk hb hp
    obtain ⟨k, rfl⟩ : ∃ m, k = m + 1 := ⟨k - 1, by omega⟩
    simp only [remoralaw01_NumMany.l1]
    rw [if_neg (by omega), List.drop_eq_nil_of_le (by omega)]
    simp only [allB, List.append_nil]
    have hg : getS pre (pre.length : Int) = (0, 0, 4) := by
      unfold getS
      rw [if_neg (by omega), List.drop_eq_nil_of_le (by omega)]
      simp [scan, res]
    rw [get_f k _ _ (by omega) hb (by omega), Option.bind_some, hg]
    simp only [if_true]
    exact awake_end k (by omega)
  | succ d ih =>
    intro k i pre hi hk hb hp
    obtain ⟨k, rfl⟩ : ∃ m, k = m + 1 := ⟨k - 1, by omega⟩
    have hd := drop_rd (l := l) (i := (i : Int)) (by omega) (by omega)
    rw [Int.toNat_natCast] at hd
    simp only [remoralaw01_NumMany.l1]
    have hc := clI_le (rd l (i : Int))
    have hz := zig_le hc.1 hc.2
    have hz9 := enc_zig (rd l (i : Int))
    have h1 := enc_pos (zig (clI (rd l (i : Int))))
    have hal := allB_len (l.drop (i + 1))
    rw [List.length_drop] at hal
    have hall : pre ++ allB (l.drop i) = pre ++ (enc (zig (clI (rd l (i : Int)))) ++ allB (l.drop (i + 1))) := by rw [hd]; rfl
    have hg := getS_enc pre (allB (l.drop (i + 1))) _ hz (pre.length : Int) rfl
    have hgi : getIntS (pre ++ allB (l.drop i)) (pre.length : Int) = (clI (rd l (i : Int)), (pre.length : Int) + (enc (zig (clI (rd l (i : Int))))).length, 0) := by
      unfold getIntS
      rw [hall, hg]
      simp [zag_zig]
    have hlen : (pre ++ allB (l.drop i)).length ≤ 140737488355328 := by rw [hall, List.length_append, List.length_append]; omega
    rw [if_pos (by omega), getInt_f k _ _ (by omega) (hb.append (allB_byt _)) hlen, Option.bind_some, hgi, if_pos rfl, if_neg (by simp only; omega), if_pos (by omega)]
    have := ih k (i + 1) (pre ++ enc (zig (clI (rd l (i : Int))))) (by omega) (by omega) (hb.append (enc_byt _)) (by rw [List.length_append]; omega)
    rw [if_pos (show clI (rd l (i : Int)) = mn (mx (rd l (i : Int)) (-2305843009213693952)) 2305843009213693951 from rfl), w64 (n := (i : Int) + 1) (by omega) (by omega), hall]
    rw [List.append_assoc, List.length_append] at this
    simpa using this
theorem NumMany : remoralaw01_NumMany.Pure := by
  intro l _ _ _
  refine ⟨3000, ?_⟩
  unfold remoralaw01_NumMany.f
  by_cases h : (l.length : Int) > 1000
  · rw [if_pos h]; exact awake_end _ (by omega)
  · rw [if_neg h]
    obtain ⟨k', hk, e⟩ := many_l0 l (by omega) l.length 3000 0 [] (by omega) (by omega) (by simp)
    refine Eq.trans e ?_
    have := many_l1 l (by omega) l.length k' 0 [] (by omega) (by omega) byt_nil (by simp)
    simpa using this
end Go.Proofs.Ytfdmkedpjbjfgaa.Pure
