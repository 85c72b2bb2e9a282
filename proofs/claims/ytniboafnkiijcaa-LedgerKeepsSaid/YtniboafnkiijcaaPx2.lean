-- Written by a program of the session (wip/tool/mk.py) out of the translation; Lean checks it.
import Derived.Test.YtniboafnkiijcaaPx0
import Derived.Test.YtniboafnkiijcaaPx1
namespace Go.Proofs.Ytniboafnkiijcaa.P
open Go.RowKit Go.Proofs.YtniboafnkiijcaaW.PrintWords Go.Proofs.YtniboafnkiijcaaW.PrintLast Go.Proofs.YtniboafnkiijcaaW.PrintMore
attribute [local go_sem] max2_int min2_int max_two min_two max_three min_three max_four min_four   -- for this text's walks alone
set_option linter.unusedVariables false
set_option linter.unusedSimpArgs false

/-! ### path_part: function 27, a contract of my own -/
theorem sl_IndexByte (s : ByteArray) (c : Int) (w : World) :
    Calls Try.prog 29 #[.string s, .int .u8 c] w fun e w' => e = .returned (.int .i64 (Lib.indexByte s.data.toList c.toNat.toUInt8)) ∧ w' = w := by
  go_enter Try.func29, Try.ntmps29
  go_wp2
  rw [run_callFunc_extern Try.func30 (by kernel_rfl) (by kernel_rfl) (by kernel_rfl) (e := Extern.BytealgIndexByte.indexByte) (by kernel_rfl), Lib.run_indexByteString]
  simp only [Result.andThen]
  rw [Oper.upon_value]
  go_wp2
  go_ret
  exact ⟨rfl, rfl⟩
theorem st_IndexByte (s : ByteArray) (c : Int) (w : World) :
    Calls Try.prog 28 #[.string s, .int .u8 c] w fun e w' => e = .returned (.int .i64 (Lib.indexByte s.data.toList c.toNat.toUInt8)) ∧ w' = w := by
  go_enter Try.func28, Try.ntmps28
  go_wp2_with fail
  refine (sl_IndexByte s c w).mono ?_
  rintro e w1 ⟨rfl, rfl⟩
  go_wp2
  go_ret
  exact ⟨rfl, rfl⟩
/-- Is a text a part? -/
def partF (s : ByteArray) : Bool := !(s.toList == []) && decide (s.size ≤ 48) && !(s.toList == [46]) && !(s.toList == [46, 46]) && decide (Lib.indexByte s.data.toList 0 < 0)
theorem path_part.at_ (s : ByteArray) (hs : s.size ≤ 140737488351232) (w : World) :
    Calls Try.prog 27 #[.string s] w fun e w' => e = .returned (.bool (partF s)) ∧ w' = w := by
  have HI := Aside0.mk (st_IndexByte s 0 w)
  have hz : (0 : Int).toNat.toUInt8 = 0 := rfl
  rw [hz] at HI
  unfold partF
  cases h1 : (s.toList == []) with
  | true =>
    have h1' : s.toList = [] := by simpa using h1
    have h1'' : s.toList.isEmpty = true := by rw [h1']; rfl
    clear hs h1'
    go_enter Try.func27, Try.ntmps27
    go_wp2
    go_ret
    exact ⟨by simp [h1''], rfl⟩
  | false =>
  have h1' : ¬ s.toList = [] := by simpa using h1
  have h1'' : s.toList.isEmpty = false := by simpa using h1'
  by_cases c2 : s.size ≤ 48
  rotate_left
  · have e2 : decide (s.size ≤ 48) = false := decide_eq_false c2
    have e2' : decide ((s.size : Int) ≤ 48) = false := decide_eq_false (by omega)
    rw [e2]
    clear c2 hs h1'
    go_enter Try.func27, Try.ntmps27
    go_wp2
    go_ret
    exact ⟨by simp, rfl⟩
  have e2 : decide (s.size ≤ 48) = true := decide_eq_true c2
  have e2' : decide ((s.size : Int) ≤ 48) = true := decide_eq_true (by omega)
  rw [e2]
  cases h3 : (s.toList == [46]) with
  | true =>
    clear c2 hs h1'
    go_enter Try.func27, Try.ntmps27
    go_wp2
    go_ret
    exact ⟨by simp, rfl⟩
  | false =>
  cases h4 : (s.toList == [46, 46]) with
  | true =>
    clear c2 hs h1'
    go_enter Try.func27, Try.ntmps27
    go_wp2
    go_ret
    exact ⟨by simp, rfl⟩
  | false =>
  generalize Lib.indexByte s.data.toList 0 = x at HI ⊢
  clear c2 hs h1'
  go_enter Try.func27, Try.ntmps27
  go_wp2_with fail
  refine HI.out.mono ?_
  rintro e w1 ⟨rfl, rfl⟩
  go_wp2
  go_ret
  exact ⟨rfl, rfl⟩


/-! ### path_Right: function 24, a contract of my own -/
theorem spl_mem (s : ByteArray) : ∀ q pos fr acc, (∀ x ∈ acc, x.size ≤ s.size) → ∀ x ∈ spl s q pos fr acc, x.size ≤ s.size
  | 0, pos, fr, acc, h, x, hx => by
    rw [spl] at hx
    rcases List.mem_append.1 hx with hx | hx
    · exact h x hx
    · simp only [List.mem_singleton] at hx
      rw [hx, ByteArray.size_extract]; omega
  | q + 1, pos, fr, acc, h, x, hx => by
    rw [spl] at hx
    by_cases c : pos < s.size
    · rw [if_pos c] at hx
      by_cases c2 : (Utf8.decode s pos).1 = 47
      · rw [if_pos c2] at hx
        refine spl_mem s q _ _ _ (fun y hy => ?_) x hx
        rcases List.mem_append.1 hy with hy | hy
        · exact h y hy
        · simp only [List.mem_singleton] at hy
          rw [hy, ByteArray.size_extract]; omega
      · rw [if_neg c2] at hx
        exact spl_mem s q _ _ _ h x hx
    · rw [if_neg c] at hx
      rcases List.mem_append.1 hx with hx | hx
      · exact h x hx
      · simp only [List.mem_singleton] at hx
        rw [hx, ByteArray.size_extract]; omega
theorem splitF_mem (s x : ByteArray) (h : x ∈ splitF s) : x.size ≤ s.size := by
  unfold splitF at h
  split at h
  · cases h
  · exact spl_mem s _ _ _ _ (fun y hy => by cases hy) x h
def rightF (p : ByteArray) : Bool := (splitF p).all partF && decide ((splitF p).length ≤ 12) && decide (p.size ≤ 200)
theorem str_at {w : World} {L : List ByteArray} {A : Option Addr} (hC : Kd.C Kd.string w A L.length L) (i : Nat) (h : i < L.length) : ∃ ad x, A = some ad ∧ L[i]? = some x ∧ w.cell? (ad.add i) = some (.string x) := by
  obtain ⟨ad, e, hx⟩ := Kd.at_string hC (i : Int) (by omega) (by omega)
  refine ⟨ad, L[i], e, by simp [h], ?_⟩
  rw [Int.toNat_natCast] at hx
  rw [hx]
  simp [rdOf, List.getD_eq_getElem?_getD, h]
set_option maxHeartbeats 4000000 in
theorem path_Right.at_ (p : ByteArray) (hp : p.size ≤ 1000000) (w : World) :
    Calls Try.prog 24 #[.string p] w fun e w' => e = .returned (.bool (rightF p)) ∧ Below w.heap.size w w' := by
  have HSp := Aside0.mk (path_Split.at_ p hp w)
  have HM := Aside0.mk (splitF_mem p)
  have HP := Aside0.mk hp
  unfold rightF
  obtain ⟨L, hL⟩ : ∃ L, splitF p = L := ⟨_, rfl⟩
  rw [hL] at HSp ⊢
  have HL := Aside0.mk hL
  obtain ⟨r, hr⟩ : ∃ r, (L.all partF && decide (L.length ≤ 12) && decide (p.size ≤ 200)) = r := ⟨_, rfl⟩
  rw [hr]
  have HRr := Aside0.mk hr
  clear hp hL hr
  go_enter Try.func24, Try.ntmps24
  go_wp2_with fail
  refine HSp.out.mono ?_
  rintro e w1 ⟨v, rfl, hR, hb⟩
  obtain ⟨A, c, rfl, hc, hC⟩ := Kd.R_reads hR
  obtain ⟨m, hm⟩ : ∃ m, m = L.length := ⟨_, rfl⟩
  rw [← hm]
  have HC := Aside0.mk hC
  have HB := Aside0.mk hb
  have HMm := Aside0.mk hm
  clear hR hb hC hm HSp
  go_wp2
  go_loopg [5, 10] m (fun g v5 v10 w' => ∃ i : Nat, g = m - i ∧ v10 = .int .i64 i ∧ w' = w1 ∧ Aside0 (i ≤ m ∧ (L.take i).all partF = true))
  case atStart => exact ⟨0, rfl, rfl, rfl, ⟨Nat.zero_le _, rfl⟩⟩
  case round =>
    obtain ⟨i, rfl, rfl, rfl, HI⟩ := hrel
    by_cases c1 : i < m
    · have e1 : decide ((i : Int) < (m : Int)) = true := decide_eq_true (by omega)
      have e1' : decide (i < m) = true := decide_eq_true c1
      have e1t : ((i : Int) < (m : Int)) = True := eq_true (by omega)
      have e1n : (i < m) = True := eq_true c1
      obtain ⟨ad, x, rfl, hx, hcell⟩ := str_at HC.out i (by have := HMm.out; omega)
      have HX := Aside0.mk hx
      have hi0 : (0 ≤ (i : Int)) = True := eq_true (by omega)
      have HXs : Aside0 (x.size ≤ 140737488351232) := ⟨by have := HM.out x (by rw [HL.out]; exact List.mem_of_getElem? hx); have := HP.out; omega⟩
      have C1 := Aside0.mk c1
      have hadd : wrap64 ((i : Int) + 1) = ((i + 1 : Nat) : Int) := by have := HMm.out; have := HI.out; have := HC.out.2.1; unfold wrap64; omega
      clear hx c1
      go_wp2_with fail
      refine (path_part.at_ x HXs.out wr).mono ?_
      rintro e w2 ⟨rfl, rfl⟩
      cases hpx : partF x with
      | true =>
        have HPX := Aside0.mk hpx
        clear hpx
        go_wp2
        go_roundg (m - (i + 1))
        case measure => have := C1.out; omega
        case rel =>
          refine ⟨i + 1, rfl, by first | rfl | rw [hadd], rfl, ⟨by have := C1.out; omega, ?_⟩⟩
          rw [List.take_add_one, HX.out, List.all_append, HI.out.2]
          simp [HPX.out]
      | false =>
        have HPX := Aside0.mk hpx
        clear hpx
        go_wp2
        go_ret
        have : L.all partF = false := by
          rw [List.all_eq_false]
          exact ⟨x, List.mem_of_getElem? HX.out, by rw [HPX.out]; decide⟩
        exact ⟨by rw [← HRr.out, this]; rfl, HB.out⟩
    · have e1 : decide ((i : Int) < (m : Int)) = false := decide_eq_false (by omega)
      have e1' : decide (i < m) = false := decide_eq_false c1
      have e1t : ((i : Int) < (m : Int)) = False := eq_false (by omega)
      have e1n : (i < m) = False := eq_false c1
      have hall : L.all partF = true := by
        have h := HI.out.2
        rwa [List.take_of_length_le (by have := HMm.out; omega)] at h
      have HALL := Aside0.mk hall
      clear c1 hall
      cases h2 : decide (m ≤ 12) with
      | true =>
        have h2' : decide ((m : Int) ≤ 12) = true := decide_eq_true (by have := of_decide_eq_true h2; omega)
        cases h3 : decide (p.size ≤ 200) with
        | true =>
          have h3' : decide ((p.size : Int) ≤ 200) = true := decide_eq_true (by have := of_decide_eq_true h3; omega)
          go_wp2
          go_ret
          refine ⟨?_, HB.out⟩
          rw [← HRr.out, HALL.out, ← HMm.out, h2, h3]
          rfl
        | false =>
          have h3' : decide ((p.size : Int) ≤ 200) = false := decide_eq_false (by have := of_decide_eq_false h3; omega)
          go_wp2
          go_ret
          refine ⟨?_, HB.out⟩
          rw [← HRr.out, HALL.out, ← HMm.out, h2, h3]
          rfl
      | false =>
        have h2' : decide ((m : Int) ≤ 12) = false := decide_eq_false (by have := of_decide_eq_false h2; omega)
        go_wp2
        go_ret
        refine ⟨?_, HB.out⟩
        rw [← HRr.out, HALL.out, ← HMm.out, h2]
        simp


end Go.Proofs.Ytniboafnkiijcaa.P
