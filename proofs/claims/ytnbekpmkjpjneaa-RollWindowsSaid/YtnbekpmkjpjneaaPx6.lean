-- Written by a program of the session (wip/tool/mk.py) out of the translation; Lean checks it.
import Derived.Test.YtnbekpmkjpjneaaPx0
import Derived.Test.YtnbekpmkjpjneaaPx1
import Derived.Test.YtnbekpmkjpjneaaPx5
namespace Go.Proofs.Ytnbekpmkjpjneaa.P
open Go.RowKit Go.Proofs.YtnbekpmkjpjneaaW.PrintWords Go.Proofs.YtnbekpmkjpjneaaW.PrintLast Go.Proofs.YtnbekpmkjpjneaaW.PrintMore
attribute [local go_sem] max2_int min2_int max_two min_two max_three min_three max_four min_four   -- for this text's walks alone
set_option linter.unusedVariables false
set_option linter.unusedSimpArgs false

-- NOT PRINTED: function 25 (roll_Window_Full)

-- NOT PRINTED: function 22 (roll_Window_Push)

/-! ### remoralaw04_same: function 23 -/
def remoralaw04_same.f (l0 : List Int) (l1 : List Int) : Option (Bool) := some ((strOfNums l0).toList == (strOfNums l1).toList)
set_option maxHeartbeats 8000000 in
set_option maxRecDepth 100000 in
theorem remoralaw04_same.calls (A0 : Option Addr) (c0 : Nat) (l0 : List Int) (A1 : Option Addr) (c1 : Nat) (l1 : List Int) (r : Bool) (w : World) (hr0 : Kd.C (Kd.int .u8) w A0 l0.length l0) (hc0 : l0.length ≤ c0) (hr1 : Kd.C (Kd.int .u8) w A1 l1.length l1) (hc1 : l1.length ≤ c1) (h : remoralaw04_same.f l0 l1 = some r) :
    Calls Try.prog 23 #[.slice A0 l0.length c0, .slice A1 l1.length c1] w fun e w' => e = .returned (.bool r) ∧ Drawn0 w w' := by
  have HR0 := Aside0.mk hr0
  have HC0 := Aside0.mk hc0
  clear hr0 hc0
  have HR1 := Aside0.mk hr1
  have HC1 := Aside0.mk hc1
  clear hr1 hc1
  have H : (some ((strOfNums l0).toList == (strOfNums l1).toList)) = some r := h
  clear h
  obtain rfl := Option.some.inj H
  have hcv3 := Kd.C_string (P := Try.prog) (A := A0) (c := c0) Try.underlying22 Try.underlying5 Try.underlying9 HR0.out
  have hcw3 := fun (m_ : Nat) => Kd.C_string (P := Try.prog) (A := A0) (c := c0) Try.underlying22 Try.underlying5 Try.underlying9 (Kd.C_drewN HR0.out m_)
  have hcv4 := Kd.C_string (P := Try.prog) (A := A1) (c := c1) Try.underlying22 Try.underlying5 Try.underlying9 HR1.out
  have hcw4 := fun (m_ : Nat) => Kd.C_string (P := Try.prog) (A := A1) (c := c1) Try.underlying22 Try.underlying5 Try.underlying9 (Kd.C_drewN HR1.out m_)
  go_enter Try.func23, Try.ntmps23
  go_wp2
  go_ret
  exact ⟨by first | rfl | (simp; done) | (simp [*]; done), by repeat (first | exact Drawn0.refl _ | apply Drawn0.step)⟩

-- NOT PRINTED: function 24 (roll_Window_Bytes)

/-! ### remoralaw04_RollSlides: function 7, a contract of my own -/
def remoralaw04_RollSlides.f (a0 : Int) (l1 : List Int) : Option Bool := some true
/-- What is left to plain Lean: a function that tells the sum of what is in a window. -/
def slSums (S : List Int → Int) : Prop := S [] = 0 ∧ (∀ L c, (∀ x ∈ L ++ [c], 0 ≤ x ∧ x ≤ 255) → L.length ≤ 100000 → roll_In.f (S L) L.length c = some (S (L ++ [c]))) ∧
  (∀ x T c, (∀ y ∈ x :: (T ++ [c]), 0 ≤ y ∧ y ≤ 255) → T.length ≤ 100000 → roll_Roll.f (S (x :: T)) ((x :: T).length) x c = some (S (T ++ [c]))) ∧ (∀ L, (∀ x ∈ L, 0 ≤ x ∧ x ≤ 255) → L.length ≤ 100000 → roll_Of.f 100001 L = some (S L))
/-- The last n bytes of i. -/
def last (n i : Nat) (l : List Int) : List Int := (l.take i).drop (i - n)
theorem last_len {n i : Nat} {l : List Int} (h : i ≤ l.length) : (last n i l).length = if i < n then i else n := by
  unfold last
  rw [List.length_drop, List.length_take]
  split <;> omega
theorem last_succ {n i : Nat} {l : List Int} (hn : 1 ≤ n) (h : i < l.length) : last n (i + 1) l = if i < n then last n i l ++ [rd l (i : Int)] else (last n i l).drop 1 ++ [rd l (i : Int)] := by
  have e : rd l (i : Int) = l[i] := by simp [rd, List.getD_eq_getElem?_getD, List.getElem?_eq_getElem h]
  unfold last
  rw [e, List.take_succ_eq_append_getElem h]
  have hl : (l.take i).length = i := by rw [List.length_take]; omega
  split
  · rename_i h1
    rw [List.drop_append_of_le_length (by omega), show i + 1 - n = 0 by omega, show i - n = 0 by omega]
  · rename_i h1
    rw [List.drop_append_of_le_length (by omega), List.drop_drop, show i + 1 - n = i - n + 1 by omega]
theorem sl_w64 {n : Int} (h : -9223372036854775808 ≤ n) (h' : n ≤ 9223372036854775807) : wrap64 n = n := by unfold wrap64; omega
theorem win_Full.atb (p : Nat) (n : Int) (A : Option Addr) (m c : Nat) (b : Bool) (w : World) (h0 : w.cell? ⟨p, 0, none⟩ = some (.int .i64 n)) (h1 : w.cell? ⟨p, 1, none⟩ = some (.slice A m c)) (hb : ((m : Int) == n) = b) :
    Calls Try.prog 25 #[.pointer (some ⟨p, 0, none⟩)] w fun e w' => e = .returned (.bool b) ∧ Drawn0 w w' := by
  subst hb
  exact win_Full.at_ p n A m c w h0 h1
theorem same_at (A1 : Option Addr) (n1 c1 : Nat) (A2 : Option Addr) (n2 c2 : Nat) (l : List Int) (w : World) (h1 : Kd.C (Kd.int .u8) w A1 n1 l) (e1 : l.length = n1 ∧ n1 ≤ c1) (h2 : Kd.C (Kd.int .u8) w A2 n2 l) (e2 : l.length = n2 ∧ n2 ≤ c2) :
    Calls Try.prog 23 #[.slice A1 n1 c1, .slice A2 n2 c2] w fun e w' => e = .returned (.bool true) ∧ Below w.heap.size w w' := by
  obtain ⟨rfl, e3⟩ := e1
  obtain ⟨rfl, e4⟩ := e2
  refine (remoralaw04_same.calls A1 c1 l A2 c2 l true w h1 e3 h2 e4 (by simp [remoralaw04_same.f])).mono ?_
  rintro e w' ⟨rfl, hd⟩
  exact ⟨rfl, hd.below⟩
theorem roll_Of.at_ (k : Nat) (A : Option Addr) (n c : Nat) (l : List Int) (r : Int) (w : World) (hC : Kd.C (Kd.int .u8) w A n l) (hn : l.length = n ∧ n ≤ c) (h : roll_Of.f k l = some r) :
    Calls Try.prog 10 #[.slice A n c] w fun e w' => e = .returned (.int .u32 r) ∧ Drawn0 w w' := by
  obtain ⟨rfl, hc⟩ := hn
  exact roll_Of.calls k A c l r w hC hc h
theorem last_mem {n i : Nat} {l : List Int} {x : Int} (h : x ∈ last n i l) : x ∈ l := List.mem_of_mem_take (List.mem_of_mem_drop h)
set_option maxHeartbeats 4000000 in
theorem remoralaw04_RollSlides.calls (S : List Int → Int) (hS : slSums S) (A0 : Option Addr) (c0 : Nat) (l1 : List Int) (a0 : Int) (r : Bool) (w : World) (hr0 : Kd.C (Kd.int .u8) w A0 l1.length l1) (hc0 : l1.length ≤ c0) (ha : 0 ≤ a0 ∧ a0 ≤ 255) (hby : ∀ x ∈ l1, 0 ≤ x ∧ x ≤ 255) (h : remoralaw04_RollSlides.f a0 l1 = some r) :
    Calls Try.prog 7 #[.int .u8 a0, .slice A0 l1.length c0] w fun e w' => e = .returned (.bool r) ∧ Below w.heap.size w w' := by
  obtain rfl : true = r := Option.some.inj h
  clear h
  have HC0 := Aside0.mk hr0
  have HS := Aside0.mk hS
  have HBY := Aside0.mk hby
  clear hr0 hS hby
  by_cases hlen : (l1.length : Int) > 2000
  · have q0 : decide (2000 < (l1.length : Int)) = true := decide_eq_true (by omega)
    have q1 : decide (2000 < l1.length) = true := decide_eq_true (by omega)
    go_enter Try.func7, Try.ntmps7
    go_wp2_with fail
    refine (remoralaw04_awake.calls true _ rfl).mono ?_
    rintro e w1 ⟨rfl, hd⟩
    go_wp2
    go_ret
    exact ⟨rfl, hd⟩
  have q0 : decide (2000 < (l1.length : Int)) = false := decide_eq_false (by omega)
  have q1 : decide (2000 < l1.length) = false := decide_eq_false (by omega)
  obtain ⟨n, hn, hn1, hn40⟩ : ∃ n : Nat, 1 + a0 % 40 = (n : Int) ∧ 1 ≤ n ∧ n ≤ 40 := ⟨(1 + a0 % 40).toNat, by omega, by omega, by omega⟩
  have hn2 : n ≤ 65536 := by omega
  have hlen2 : l1.length ≤ 2000 := by omega
  have HL2 := Aside0.mk hlen2
  clear hlen
  go_enter Try.func7, Try.ntmps7
  go_wp2_with fail
  have hN := Aside0.mk hn
  clear hn ha
  refine (roll_New.made (n : Int) _ (by omega) (by omega)).mono ?_
  rintro e w1 ⟨rfl, rfl⟩
  have hP1 := Aside0.mk (blk_new w (.cells #[.int .i64 (n : Int), .slice none 0 0, .int .u32 0] 58))
  have hB1 := Aside0.mk (below_alloc (Below.refl _ w) (.cells #[.int .i64 (n : Int), .slice none 0 0, .int .u32 0] 58))
  have hR1 := Aside0.mk (Kd.R_nil (Kd.int .u8) 5 (w.alloc (.cells #[.int .i64 (n : Int), .slice none 0 0, .int .u32 0] 58)) w.heap.size (fun k => k ≠ w.heap.size))
  generalize w.alloc (.cells #[.int .i64 (n : Int), .slice none 0 0, .int .u32 0] 58) = w1 at hP1 hB1 hR1 ⊢
  generalize hp : w.heap.size = p at hP1 hR1 ⊢
  have Hp := Aside0.mk hp
  clear hp
  go_wp2_with fail
  go_loopg [8] l1.length (fun g v8 w' => ∃ (i : Nat) (s : Int) (A : Option Addr) (m c : Nat), i ≤ l1.length ∧ g = l1.length - i ∧ v8 = .int .i64 i ∧ Aside0 (Below w.heap.size w w') ∧ Aside0 (w'.heap[p]? = some (.cells #[.int .i64 (n : Int), .slice A m c, .int .u32 s] 58 (0, 0))) ∧
    Aside0 ((Kd.int .u8).R 5 w' p (fun k => k ≠ p) (.slice A m c) (last n i l1)) ∧ Aside0 (m = (last n i l1).length) ∧ Aside0 (s = S (last n i l1)))
  case atStart => exact ⟨0, 0, none, 0, 0, Nat.zero_le _, rfl, rfl, hB1, hP1, ⟨by simpa [last] using hR1.out⟩, ⟨by simp [last]⟩, ⟨by have := HS.out.1; simp [last, this]⟩⟩
  case round =>
    obtain ⟨i, s, A, m, c, hi, rfl, rfl, HB, HP, HR, HM, HSs⟩ := hrel
    by_cases hlt : i < l1.length
    · have hb0 : decide ((i : Int) < (l1.length : Int)) = true := decide_eq_true (by omega)
      have hb1 : decide (i < l1.length) = true := decide_eq_true hlt
      have hq0 : (0 ≤ (i : Int)) = True := eq_true (by omega)
      have hq1 : ((i : Int) < (l1.length : Int)) = True := eq_true (by omega)
      have hq2 : (i < l1.length) = True := eq_true (by omega)
      go_wp2_with fail
      obtain ⟨ad, hAd, hx⟩ := Kd.at_int (Kd.C_below HC0.out HB.out) (i : Int) (by omega) (by omega)
      subst hAd
      obtain ⟨ci, hci⟩ : ∃ ci, rd l1 (i : Int) = ci := ⟨_, rfl⟩
      have hcib : 0 ≤ ci ∧ ci ≤ 255 := by
        rw [← hci]
        have e : rd l1 (i : Int) = l1[i] := by simp [rd, List.getD_eq_getElem?_getD, List.getElem?_eq_getElem hlt]
        rw [e]
        exact HBY.out _ (List.getElem_mem hlt)
      have hcc : Aside0 (∀ W : World, Below w.heap.size w W → W.cell? (ad.add i) = some (.int .u8 ci)) := ⟨fun W hB => by
        obtain ⟨ad', e, hx⟩ := Kd.at_int (Kd.C_below HC0.out hB) (i : Int) (by omega) (by omega)
        cases e
        rw [hci] at hx
        simpa using hx⟩
      have hbw : Aside0 (∀ W : World, Below p wr.drew W → Below w.heap.size w W) := ⟨fun W h => (below_drew HB.out).trans (by rw [Hp.out]; exact h)⟩
      obtain ⟨s1, hs1⟩ : ∃ s1, s1 = S (last n (i + 1) l1) := ⟨_, rfl⟩
      have hsucc := last_succ (n := n) (i := i) (l := l1) hn1 hlt
      rw [hci] at hsucc
      have hll := last_len (n := n) (i := i) (l := l1) (by omega)
      have hstep : Aside0 ((m < n ∧ last n (i + 1) l1 = last n i l1 ++ [ci] ∧ roll_In.f s m ci = some s1) ∨ (m = n ∧ last n (i + 1) l1 = (last n i l1).drop 1 ++ [ci] ∧ roll_Roll.f s m (rd (last n i l1) 0) ci = some s1)) := ⟨by
        have hm := HM.out
        rw [HSs.out, hs1]
        by_cases h : i < n
        · rw [if_pos h] at hsucc hll
          refine .inl ⟨by omega, hsucc, ?_⟩
          rw [hsucc, hm]
          refine HS.out.2.1 _ _ (fun x hx => ?_) (by omega)
          rcases List.mem_append.1 hx with hx | hx
          · exact HBY.out x (last_mem hx)
          · rw [List.mem_singleton.1 hx]; exact hcib
        · rw [if_neg h] at hsucc hll
          refine .inr ⟨by omega, hsucc, ?_⟩
          rw [hsucc, hm]
          have hby := fun x hx => HBY.out x (last_mem (n := n) (i := i) (l := l1) (x := x) hx)
          match hW : last n i l1, hll, hby with
          | [], hll, _ => exact absurd hll (by simp; omega)
          | x :: T, hll, hby =>
            rw [show rd (x :: T) 0 = x from rfl, show (x :: T).drop 1 = T from rfl]
            refine HS.out.2.2.1 x T ci (fun y hy => ?_) (by simp at hll; omega)
            rcases List.mem_cons.1 hy with rfl | hy
            · exact hby _ (by simp)
            · rcases List.mem_append.1 hy with hy | hy
              · exact hby _ (by simp [hy])
              · rw [List.mem_singleton.1 hy]; exact hcib⟩
      have hof : Aside0 (roll_Of.f 100001 (last n (i + 1) l1) = some s1) := ⟨by
        rw [hs1]
        have := last_len (n := n) (i := i + 1) (l := l1) (by omega)
        exact HS.out.2.2.2 _ (fun x hx => HBY.out x (last_mem hx)) (by rw [this]; split <;> omega)⟩
      obtain ⟨lo, hlo⟩ : ∃ lo, lo = i + 1 - n := ⟨_, rfl⟩
      obtain ⟨j, hj⟩ : ∃ j : Int, j = (i : Int) + 1 := ⟨_, rfl⟩
      obtain ⟨d, hd⟩ : ∃ d : Int, d = (i : Int) + 1 - (n : Int) := ⟨_, rfl⟩
      have hw2 : wrap64 (j - (n : Int)) = d := by rw [hj, hd]; exact sl_w64 (by omega) (by omega)
      have hw1 : wrap64 ((i : Int) + 1) = j := by clear hw2; rw [hj]; exact sl_w64 (by omega) (by omega)
      have hmx : (if 0 < d then d else 0) = (lo : Int) := by clear hw1 hw2; split <;> omega
      obtain ⟨i0, hi0, _, hsz0, _⟩ := info_parts info5
      obtain ⟨B, hcut, hmid0, hcap0⟩ := print_mid_of (P := Try.prog) (Value.int .u8) 0 22 5 .i64 .i64 Try.underlying22 hi0 hsz0 (some ad) c0 l1 (lo : Int) j (by clear hw1 hw2 hmx; omega) (by clear hw1 hw2 hmx; omega) (by clear hw1 hw2 hmx; omega) hc0
      rw [show j.toNat = i + 1 by clear hw1 hw2 hmx; omega, Int.toNat_natCast, show (l1.take (i + 1)).drop lo = last n (i + 1) l1 by rw [hlo]; rfl] at hcut hmid0 hcap0
      obtain ⟨q1, hq1⟩ : ∃ q1, (last n (i + 1) l1).length = q1 := ⟨_, rfl⟩
      obtain ⟨q2, hq2⟩ : ∃ q2, c0 - lo = q2 := ⟨_, rfl⟩
      rw [hq1, hq2] at hcut hcap0
      have hmid : Aside0 (∀ W : World, Kd.C (Kd.int .u8) W (some ad) l1.length l1 → Kd.C (Kd.int .u8) W B q1 (last n (i + 1) l1)) := ⟨fun W h => by
        rw [← hq1]
        exact Kd.C_of_reads (d := (0 : Int)) (h1 := fun _ => rfl) (hmid0 W (Kd.reads_of_C (d := (0 : Int)) h))⟩
      have hq : Aside0 ((last n (i + 1) l1).length = q1 ∧ q1 ≤ q2) := ⟨hq1, hcap0⟩
      have HJ := Aside0.mk hj
      clear hj hd
      have hPd : Aside0 (wr.drew.heap[p]? = some (.cells #[.int .i64 (n : Int), .slice A m c, .int .u32 s] 58 (0, 0))) := ⟨HP.out⟩
      have hRd := Aside0.mk (Kd.R_drew HR.out)
      have hBd := Aside0.mk (below_drew HB.out)
      have hSS := Aside0.mk hs1
      clear hs1 hsucc hll hmid0 hcap0 hq1 hq2 hlo hi0 hsz0 hcib hci hx
      go_wp2_with fail
      refine start_ (n := 17) (S := fun w' => w'.cell? (ad.add i) = some (.int .u8 ci)) (ds := []) #[false, false, false, false, false, false, false, false, false, false, false, false, false, false, false, false, false] (by kernel_rfl) rfl rfl (hcc.out _ hBd.out) (fun hHeld => ?_)
      refine pure_ (i := 0) (N := some 34) (v := ?_) (a' := ?_) #[true, false, false, false, false, false, false, false, false, false, false, false, false, false, false, false, false] rfl rfl (by kernel_rfl) (fun _ _ _ h => h) (Or.inl ⟨by rfl, ?_⟩) ?_ ?_
      rotate_left
      · intro w'
        go_simp
        with_reducible rfl
      rotate_left
      · simp only [Act.put, List.setIfInBounds_toArray, List.set_cons_zero, List.set_cons_succ, i64_w, i32_w]
        rfl
      refine pure_ (i := 1) (N := some 35) (v := ?_) (a' := ?_) #[true, true, false, false, false, false, false, false, false, false, false, false, false, false, false, false, false] rfl rfl (by kernel_rfl) (fun _ _ _ h => h) (Or.inl ⟨by rfl, ?_⟩) ?_ ?_
      rotate_left
      · intro w'
        go_simp
        with_reducible rfl
      rotate_left
      · simp only [Act.put, List.setIfInBounds_toArray, List.set_cons_zero, List.set_cons_succ, i64_w, i32_w]
        rfl
      refine pure_ (i := 2) (N := some 36) (v := ?_) (a' := ?_) #[true, true, true, false, false, false, false, false, false, false, false, false, false, false, false, false, false] rfl rfl (by kernel_rfl) (fun _ _ _ h => h) (Or.inl ⟨by rfl, ?_⟩) ?_ ?_
      rotate_left
      · intro w'
        go_simp
        with_reducible rfl
      rotate_left
      · simp only [Act.put, List.setIfInBounds_toArray, List.set_cons_zero, List.set_cons_succ, i64_w, i32_w]
        rfl
      refine pure_ (i := 3) (N := some 37) (v := ?_) (a' := ?_) #[true, true, true, true, false, false, false, false, false, false, false, false, false, false, false, false, false] rfl rfl (by kernel_rfl) (fun _ _ _ h => h) (Or.inl ⟨by rfl, ?_⟩) ?_ ?_
      rotate_left
      · intro w'
        go_simp
        with_reducible rfl
      rotate_left
      · simp only [Act.put, List.setIfInBounds_toArray, List.set_cons_zero, List.set_cons_succ, i64_w, i32_w]
        rfl
      refine pure_ (i := 6) (N := some 40) (v := ?_) (a' := ?_) #[true, true, true, true, false, false, true, false, false, false, false, false, false, false, false, false, false] rfl rfl (by kernel_rfl) (fun _ _ _ h => h) (Or.inl ⟨by rfl, ?_⟩) ?_ ?_
      rotate_left
      · intro w'
        go_simp
        with_reducible rfl
      rotate_left
      · simp only [Act.put, List.setIfInBounds_toArray, List.set_cons_zero, List.set_cons_succ, i64_w, i32_w]
        rfl
      refine pure_ (i := 7) (N := some 41) (v := ?_) (a' := ?_) #[true, true, true, true, false, false, true, true, false, false, false, false, false, false, false, false, false] rfl rfl (by kernel_rfl) (fun _ _ _ h => h) (Or.inl ⟨by rfl, ?_⟩) ?_ ?_
      rotate_left
      · intro w'
        go_simp
        with_reducible rfl
      rotate_left
      · simp only [Act.put, List.setIfInBounds_toArray, List.set_cons_zero, List.set_cons_succ, i64_w, i32_w]
        rfl
      refine pure_ (i := 8) (N := some 42) (v := ?_) (a' := ?_) #[true, true, true, true, false, false, true, true, true, false, false, false, false, false, false, false, false] rfl rfl (by kernel_rfl) (fun _ _ _ h => h) (Or.inl ⟨by rfl, ?_⟩) ?_ ?_
      rotate_left
      · intro w'
        go_simp
        with_reducible rfl
      rotate_left
      · simp only [Act.put, List.setIfInBounds_toArray, List.set_cons_zero, List.set_cons_succ, i64_w, i32_w]
        rfl
      refine pure_ (i := 9) (N := some 43) (v := ?_) (a' := ?_) #[true, true, true, true, false, false, true, true, true, true, false, false, false, false, false, false, false] rfl rfl (by kernel_rfl) (fun _ _ _ h => h) (Or.inl ⟨by rfl, ?_⟩) ?_ ?_
      rotate_left
      · intro w'
        go_simp
        with_reducible rfl
      rotate_left
      · simp only [Act.put, List.setIfInBounds_toArray, List.set_cons_zero, List.set_cons_succ, i64_w, i32_w]
        rfl
      refine pure_ (i := 10) (N := some 44) (v := ?_) (a' := ?_) #[true, true, true, true, false, false, true, true, true, true, true, false, false, false, false, false, false] rfl rfl (by kernel_rfl) (fun _ _ _ h => h) (Or.inl ⟨by rfl, ?_⟩) ?_ ?_
      rotate_left
      · intro w'
        go_simp
        with_reducible rfl
      rotate_left
      · simp only [Act.put, List.setIfInBounds_toArray, List.set_cons_zero, List.set_cons_succ, i64_w, i32_w]
        rfl
      refine pure_ (i := 11) (N := some 45) (v := ?_) (a' := ?_) #[true, true, true, true, false, false, true, true, true, true, true, true, false, false, false, false, false] rfl rfl (by kernel_rfl) (fun _ _ _ h => h) (Or.inl ⟨by rfl, ?_⟩) ?_ ?_
      rotate_left
      · intro w'
        go_simp
        with_reducible rfl
      rotate_left
      · simp only [Act.put, List.setIfInBounds_toArray, List.set_cons_zero, List.set_cons_succ, i64_w, i32_w]
        rfl
      refine pure_ (i := 12) (N := some 46) (v := ?_) (a' := ?_) #[true, true, true, true, false, false, true, true, true, true, true, true, true, false, false, false, false] rfl rfl (by kernel_rfl) (fun _ _ _ h => h) (Or.inl ⟨by rfl, ?_⟩) ?_ ?_
      rotate_left
      · intro w'
        go_simp
        with_reducible rfl
      rotate_left
      · simp only [Act.put, List.setIfInBounds_toArray, List.set_cons_zero, List.set_cons_succ, i64_w, i32_w]
        rfl
      refine pure_ (i := 13) (N := some 47) (v := ?_) (a' := ?_) #[true, true, true, true, false, false, true, true, true, true, true, true, true, true, false, false, false] rfl rfl (by kernel_rfl) (fun _ _ _ h => h) (Or.inl ⟨by rfl, ?_⟩) ?_ ?_
      rotate_left
      · intro w'
        go_simp
        with_reducible rfl
      rotate_left
      · simp only [Act.put, List.setIfInBounds_toArray, List.set_cons_zero, List.set_cons_succ, i64_w, i32_w]
        rfl
      refine pure_ (i := 14) (N := some 48) (v := ?_) (a' := ?_) #[true, true, true, true, false, false, true, true, true, true, true, true, true, true, true, false, false] rfl rfl (by kernel_rfl) (fun _ _ _ h => h) (Or.inl ⟨by rfl, ?_⟩) ?_ ?_
      rotate_left
      · intro w'
        go_simp
        with_reducible rfl
      rotate_left
      · simp only [Act.put, List.setIfInBounds_toArray, List.set_cons_zero, List.set_cons_succ, i64_w, i32_w]
        rfl
      refine take_ (i := 4) (N := some 38) (v := ?_) (a' := ?_) #[true, true, true, true, true, false, true, true, true, true, true, true, true, true, true, false, false] rfl rfl (by kernel_rfl) (fun _ _ _ h => h) (Or.inl ⟨by rfl, ?_⟩) hHeld ?_ ?_
      rotate_left
      · intro w' s0
        go_simp
        with_reducible rfl
      rotate_left
      · simp only [Act.put, List.setIfInBounds_toArray, List.set_cons_zero, List.set_cons_succ, i64_w, i32_w]
        rfl
      refine one_ (i := 5) (N := some 39) #[true, true, true, true, true, true, true, true, true, true, true, true, true, true, true, false, false] rfl rfl (by kernel_rfl) (by decide) (fun K hK => ?_)
      refine goes_ Try.func22 (by kernel_rfl) rfl #[.pointer (some ⟨p, 0, none⟩), .int .u8 ci] (by rfl) rfl rfl (by simp only [List.map_toArray, List.map_cons, List.map_nil]; rfl) ?_
      with_reducible refine (win_Push.step p p n m c A (last n i l1) (last n (i + 1) l1) s ci s1 wr.drew hPd.out hRd.out (Nat.le_refl _) HM.out hn1 hn2 hstep.out).mono ?_
      rintro e w3 ⟨rfl, hb3, A3, m3, c3, hm3, hP3, hR3⟩
      refine ⟨_, rfl, ?_⟩
      replace hP3 := Aside0.mk hP3
      replace hR3 := Aside0.mk hR3
      replace hm3 := Aside0.mk hm3
      have hB3 := Aside0.mk (hbw.out _ hb3)
      have hC3 := Aside0.mk (Kd.C_below HC0.out hB3.out)
      refine hK.out _ _ (hcc.out _ hB3.out) (fun hHeld => ?_)
      clear hK K
      refine norm_ (a' := ?_) ?_ ?_
      rotate_left
      · show Act.put _ (some 39) _ = _
        simp only [Act.put, List.setIfInBounds_toArray, List.set_cons_zero, List.set_cons_succ, i64_w, i32_w]
        rfl
      refine one_ (i := 15) (N := some 49) #[true, true, true, true, true, true, true, true, true, true, true, true, true, true, true, true, false] rfl rfl (by kernel_rfl) (by decide) (fun K hK => ?_)
      refine goes_ Try.func10 (by kernel_rfl) rfl #[.slice B q1 q2] (by rfl) rfl rfl (by simp only [List.map_toArray, List.map_cons, List.map_nil]; rfl) ?_
      with_reducible refine (roll_Of.at_ 100001 B q1 q2 (last n (i + 1) l1) s1 w3 (hmid.out w3 hC3.out) hq.out hof.out).mono ?_
      rintro e w4 ⟨rfl, hd4⟩
      refine ⟨_, rfl, ?_⟩
      have hb4 := Aside0.mk hd4.below
      refine hK.out _ _ (hcc.out _ (below_step hB3.out hb4.out)) (fun hHeld => ?_)
      clear hK K
      refine norm_ (a' := ?_) ?_ ?_
      rotate_left
      · show Act.put _ (some 49) _ = _
        simp only [Act.put, List.setIfInBounds_toArray, List.set_cons_zero, List.set_cons_succ, i64_w, i32_w]
        rfl
      refine pure_ (i := 16) (N := some 50) (v := ?_) (a' := ?_) #[true, true, true, true, true, true, true, true, true, true, true, true, true, true, true, true, true] rfl rfl (by kernel_rfl) (fun _ _ _ h => h) (Or.inl ⟨by rfl, ?_⟩) ?_ ?_
      rotate_left
      · intro w'
        go_simp
        with_reducible rfl
      rotate_left
      · simp only [Act.put, List.setIfInBounds_toArray, List.set_cons_zero, List.set_cons_succ, i64_w, i32_w]
        rfl
      refine done_ (by kernel_rfl) ?_
      have hP4 := Aside0.mk ((hb4.out.block p (blk_lt hP3.out)).trans hP3.out)
      have hR4 := Aside0.mk (Kd.R_below hR3.out hb4.out)
      have hB4 := Aside0.mk (below_step hB3.out hb4.out)
      clear hb3 hd4 hb4 hP3 hR3 hB3 hC3 hcut hmid hPd hRd hBd hcc hbw HB HP HR
      go_wp2
      go_roundg (l1.length - (i + 1))
      case measure => clear hw1 hw2 hmx; omega
      case rel => exact ⟨i + 1, s1, A3, m3, c3, by clear hw1 hw2 hmx; omega, rfl, by simp, hB4, hP4, hR4, hm3, hSS⟩
    · obtain rfl : i = l1.length := by omega
      have hb0 : decide ((l1.length : Int) < (l1.length : Int)) = false := decide_eq_false (by omega)
      have hb1 : decide (l1.length < l1.length) = false := decide_eq_false (by omega)
      have hPd : Aside0 (wr.drew.heap[p]? = some (.cells #[.int .i64 (n : Int), .slice A m c, .int .u32 s] 58 (0, 0))) := ⟨HP.out⟩
      have hBd := Aside0.mk (below_drew HB.out)
      have hszd := Aside0.mk (blk_lt hPd.out)
      have hc1d := Aside0.mk (win_cells hPd.out).2.1
      have hCd : Aside0 (Kd.C (Kd.int .u8) wr.drew A m (last n l1.length l1)) := ⟨by
        obtain ⟨e, _, h⟩ := Kd.R_reads' (Kd.R_drew HR.out)
        rw [e]
        exact h⟩
      have hll := last_len (n := n) (i := l1.length) (l := l1) (Nat.le_refl _)
      have hme : Aside0 (m ≤ 100000) := ⟨by have := HM.out; split at hll <;> omega⟩
      obtain ⟨bq, hbq0, hge0⟩ : ∃ bq, ((m : Int) == (n : Int)) = bq ∧ decide (n ≤ l1.length) = bq := by
        refine ⟨_, rfl, ?_⟩
        have := HM.out
        by_cases h : l1.length < n
        · rw [if_pos h] at hll
          rw [decide_eq_false (by omega), beq_eq_false_iff_ne.mpr (by omega)]
        · rw [if_neg h] at hll
          rw [decide_eq_true (by omega), beq_iff_eq.mpr (by omega)]
      have hge1 : decide ((n : Int) ≤ (l1.length : Int)) = bq := by rw [← hge0]; simp
      have hbq := Aside0.mk hbq0
      obtain ⟨lo, hlo⟩ : ∃ lo, lo = l1.length - n := ⟨_, rfl⟩
      obtain ⟨d, hd⟩ : ∃ d : Int, d = (l1.length : Int) - (n : Int) := ⟨_, rfl⟩
      have hmx : (if 0 < d then d else 0) = (lo : Int) := by split <;> omega
      have hw2 : wrap64 ((l1.length : Int) - (n : Int)) = d := by clear hmx; rw [hd]; exact sl_w64 (by omega) (by omega)
      obtain ⟨i0, hi0, _, hsz0, _⟩ := info_parts info5
      obtain ⟨B, hcut, hmid0, hcap0⟩ := print_drop_of (P := Try.prog) (Value.int .u8) 0 22 5 .i64 Try.underlying22 hi0 hsz0 A0 c0 l1 (lo : Int) (by clear hw2 hmx; omega) (by clear hw2 hmx; omega) hc0
      rw [Int.toNat_natCast, show l1.drop lo = last n l1.length l1 by rw [hlo]; unfold last; rw [List.take_length]] at hcut hmid0 hcap0
      obtain ⟨q1, hq1⟩ : ∃ q1, (last n l1.length l1).length = q1 := ⟨_, rfl⟩
      obtain ⟨q2, hq2⟩ : ∃ q2, c0 - lo = q2 := ⟨_, rfl⟩
      have hmid : Aside0 (∀ W : World, Kd.C (Kd.int .u8) W A0 l1.length l1 → Kd.C (Kd.int .u8) W B q1 (last n l1.length l1)) := ⟨fun W h => by
        rw [← hq1]
        exact Kd.C_of_reads (d := (0 : Int)) (h1 := fun _ => rfl) (hmid0 W (Kd.reads_of_C (d := (0 : Int)) h))⟩
      rw [hq1, hq2] at hcut hcap0
      have hq : Aside0 ((last n l1.length l1).length = q1 ∧ q1 ≤ q2) := ⟨hq1, hcap0⟩
      clear hll hmid0 hcap0 hq1 hq2 hlo hd hi0 hsz0 hbq0
      go_wp2_with fail
      refine start_ (n := 23) (S := fun w' => True) (ds := []) #[false, false, false, false, false, false, false, false, false, false, false, false, false, false, false, false, false, false, false, false, false, false, false] (by kernel_rfl) rfl rfl trivial (fun hHeld => ?_)
      refine pure_ (i := 0) (N := some 51) (v := ?_) (a' := ?_) #[true, false, false, false, false, false, false, false, false, false, false, false, false, false, false, false, false, false, false, false, false, false, false] rfl rfl (by kernel_rfl) (fun _ _ _ h => h) (Or.inl ⟨by rfl, ?_⟩) ?_ ?_
      rotate_left
      · intro w'
        go_simp
        with_reducible rfl
      rotate_left
      · simp only [Act.put, List.setIfInBounds_toArray, List.set_cons_zero, List.set_cons_succ, i64_w, i32_w]
        rfl
      refine pure_ (i := 2) (N := some 53) (v := ?_) (a' := ?_) #[true, false, true, false, false, false, false, false, false, false, false, false, false, false, false, false, false, false, false, false, false, false, false] rfl rfl (by kernel_rfl) (fun _ _ _ h => h) (Or.inl ⟨by rfl, ?_⟩) ?_ ?_
      rotate_left
      · intro w'
        go_simp
        with_reducible rfl
      rotate_left
      · simp only [Act.put, List.setIfInBounds_toArray, List.set_cons_zero, List.set_cons_succ, i64_w, i32_w]
        rfl
      refine pure_ (i := 3) (N := some 54) (v := ?_) (a' := ?_) #[true, false, true, true, false, false, false, false, false, false, false, false, false, false, false, false, false, false, false, false, false, false, false] rfl rfl (by kernel_rfl) (fun _ _ _ h => h) (Or.inl ⟨by rfl, ?_⟩) ?_ ?_
      rotate_left
      · intro w'
        go_simp
        with_reducible rfl
      rotate_left
      · simp only [Act.put, List.setIfInBounds_toArray, List.set_cons_zero, List.set_cons_succ, i64_w, i32_w]
        rfl
      refine pure_ (i := 4) (N := some 55) (v := ?_) (a' := ?_) #[true, false, true, true, true, false, false, false, false, false, false, false, false, false, false, false, false, false, false, false, false, false, false] rfl rfl (by kernel_rfl) (fun _ _ _ h => h) (Or.inl ⟨by rfl, ?_⟩) ?_ ?_
      rotate_left
      · intro w'
        go_simp
        with_reducible rfl
      rotate_left
      · simp only [Act.put, List.setIfInBounds_toArray, List.set_cons_zero, List.set_cons_succ, i64_w, i32_w]
        rfl
      refine pure_ (i := 5) (N := some 56) (v := ?_) (a' := ?_) #[true, false, true, true, true, true, false, false, false, false, false, false, false, false, false, false, false, false, false, false, false, false, false] rfl rfl (by kernel_rfl) (fun _ _ _ h => h) (Or.inl ⟨by rfl, ?_⟩) ?_ ?_
      rotate_left
      · intro w'
        go_simp
        with_reducible rfl
      rotate_left
      · simp only [Act.put, List.setIfInBounds_toArray, List.set_cons_zero, List.set_cons_succ, i64_w, i32_w]
        rfl
      refine pure_ (i := 6) (N := some 57) (v := ?_) (a' := ?_) #[true, false, true, true, true, true, true, false, false, false, false, false, false, false, false, false, false, false, false, false, false, false, false] rfl rfl (by kernel_rfl) (fun _ _ _ h => h) (Or.inl ⟨by rfl, ?_⟩) ?_ ?_
      rotate_left
      · intro w'
        go_simp
        with_reducible rfl
      rotate_left
      · simp only [Act.put, List.setIfInBounds_toArray, List.set_cons_zero, List.set_cons_succ, i64_w, i32_w]
        rfl
      refine pure_ (i := 7) (N := some 58) (v := ?_) (a' := ?_) #[true, false, true, true, true, true, true, true, false, false, false, false, false, false, false, false, false, false, false, false, false, false, false] rfl rfl (by kernel_rfl) (fun _ _ _ h => h) (Or.inl ⟨by rfl, ?_⟩) ?_ ?_
      rotate_left
      · intro w'
        go_simp
        with_reducible rfl
      rotate_left
      · simp only [Act.put, List.setIfInBounds_toArray, List.set_cons_zero, List.set_cons_succ, i64_w, i32_w]
        rfl
      refine pure_ (i := 8) (N := some 59) (v := ?_) (a' := ?_) #[true, false, true, true, true, true, true, true, true, false, false, false, false, false, false, false, false, false, false, false, false, false, false] rfl rfl (by kernel_rfl) (fun _ _ _ h => h) (Or.inl ⟨by rfl, ?_⟩) ?_ ?_
      rotate_left
      · intro w'
        go_simp
        with_reducible rfl
      rotate_left
      · simp only [Act.put, List.setIfInBounds_toArray, List.set_cons_zero, List.set_cons_succ, i64_w, i32_w]
        rfl
      refine one_ (i := 1) (N := some 52) #[true, true, true, true, true, true, true, true, true, false, false, false, false, false, false, false, false, false, false, false, false, false, false] rfl rfl (by kernel_rfl) (by decide) (fun K hK => ?_)
      refine goes_ Try.func24 (by kernel_rfl) rfl #[.pointer (some ⟨p, 0, none⟩)] (by rfl) rfl rfl (by simp only [List.map_toArray, List.map_cons, List.map_nil]; rfl) ?_
      with_reducible refine (win_Bytes.at_ p A m c (last n l1.length l1) wr.drew hc1d.out hCd.out hme.out).mono ?_
      rintro e w3 ⟨A5, c5, rfl, hR5, hb5⟩
      refine ⟨_, rfl, ?_⟩
      replace hR5 := Aside0.mk hR5
      have hB5 := Aside0.mk (below_step hBd.out hb5)
      have hP5 := Aside0.mk ((hb5.block p hszd.out).trans hPd.out)
      have hC5 := Aside0.mk (Kd.C_below HC0.out hB5.out)
      refine hK.out _ _ trivial (fun hHeld => ?_)
      clear hK K
      refine norm_ (a' := ?_) ?_ ?_
      rotate_left
      · show Act.put _ (some 52) _ = _
        simp only [Act.put, List.setIfInBounds_toArray, List.set_cons_zero, List.set_cons_succ, i64_w, i32_w]
        rfl
      refine one_ (i := 9) (N := some 60) #[true, true, true, true, true, true, true, true, true, true, false, false, false, false, false, false, false, false, false, false, false, false, false] rfl rfl (by kernel_rfl) (by decide) (fun K hK => ?_)
      refine goes_ Try.func23 (by kernel_rfl) rfl #[.slice A5 (last n l1.length l1).length c5, .slice B q1 q2] (by rfl) rfl rfl (by simp only [List.map_toArray, List.map_cons, List.map_nil]; rfl) ?_
      with_reducible refine (same_at A5 _ c5 B q1 q2 (last n l1.length l1) w3 (Kd.R_reads' hR5.out).2.2 ⟨rfl, (Kd.R_reads' hR5.out).2.1⟩ (hmid.out w3 hC5.out) hq.out).mono ?_
      rintro e w4 ⟨rfl, hb6⟩
      refine ⟨_, rfl, ?_⟩
      have hB6 := Aside0.mk (below_step hB5.out hb6)
      have hP6 := Aside0.mk ((hb6.block p (blk_lt hP5.out)).trans hP5.out)
      refine hK.out _ _ trivial (fun hHeld => ?_)
      clear hK K
      refine norm_ (a' := ?_) ?_ ?_
      rotate_left
      · show Act.put _ (some 60) _ = _
        simp only [Act.put, List.setIfInBounds_toArray, List.set_cons_zero, List.set_cons_succ, i64_w, i32_w]
        rfl
      refine pure_ (i := 10) (N := some 61) (v := ?_) (a' := ?_) #[true, true, true, true, true, true, true, true, true, true, true, false, false, false, false, false, false, false, false, false, false, false, false] rfl rfl (by kernel_rfl) (fun _ _ _ h => h) (Or.inl ⟨by rfl, ?_⟩) ?_ ?_
      rotate_left
      · intro w'
        go_simp
        with_reducible rfl
      rotate_left
      · simp only [Act.put, List.setIfInBounds_toArray, List.set_cons_zero, List.set_cons_succ, i64_w, i32_w]
        rfl
      refine pure_ (i := 11) (N := some 62) (v := ?_) (a' := ?_) #[true, true, true, true, true, true, true, true, true, true, true, true, false, false, false, false, false, false, false, false, false, false, false] rfl rfl (by kernel_rfl) (fun _ _ _ h => h) (Or.inl ⟨by rfl, ?_⟩) ?_ ?_
      rotate_left
      · intro w'
        go_simp
        with_reducible rfl
      rotate_left
      · simp only [Act.put, List.setIfInBounds_toArray, List.set_cons_zero, List.set_cons_succ, i64_w, i32_w]
        rfl
      refine pure_ (i := 13) (N := some 64) (v := ?_) (a' := ?_) #[true, true, true, true, true, true, true, true, true, true, true, true, false, true, false, false, false, false, false, false, false, false, false] rfl rfl (by kernel_rfl) (fun _ _ _ h => h) (Or.inl ⟨by rfl, ?_⟩) ?_ ?_
      rotate_left
      · intro w'
        go_simp
        with_reducible rfl
      rotate_left
      · simp only [Act.put, List.setIfInBounds_toArray, List.set_cons_zero, List.set_cons_succ, i64_w, i32_w]
        rfl
      refine pure_ (i := 14) (N := some 65) (v := ?_) (a' := ?_) #[true, true, true, true, true, true, true, true, true, true, true, true, false, true, true, false, false, false, false, false, false, false, false] rfl rfl (by kernel_rfl) (fun _ _ _ h => h) (Or.inl ⟨by rfl, ?_⟩) ?_ ?_
      rotate_left
      · intro w'
        go_simp
        with_reducible rfl
      rotate_left
      · simp only [Act.put, List.setIfInBounds_toArray, List.set_cons_zero, List.set_cons_succ, i64_w, i32_w]
        rfl
      refine pure_ (i := 15) (N := some 66) (v := ?_) (a' := ?_) #[true, true, true, true, true, true, true, true, true, true, true, true, false, true, true, true, false, false, false, false, false, false, false] rfl rfl (by kernel_rfl) (fun _ _ _ h => h) (Or.inl ⟨by rfl, ?_⟩) ?_ ?_
      rotate_left
      · intro w'
        go_simp
        with_reducible rfl
      rotate_left
      · simp only [Act.put, List.setIfInBounds_toArray, List.set_cons_zero, List.set_cons_succ, i64_w, i32_w]
        rfl
      refine pure_ (i := 16) (N := some 67) (v := ?_) (a' := ?_) #[true, true, true, true, true, true, true, true, true, true, true, true, false, true, true, true, true, false, false, false, false, false, false] rfl rfl (by kernel_rfl) (fun _ _ _ h => h) (Or.inl ⟨by rfl, ?_⟩) ?_ ?_
      rotate_left
      · intro w'
        go_simp
        with_reducible rfl
      rotate_left
      · simp only [Act.put, List.setIfInBounds_toArray, List.set_cons_zero, List.set_cons_succ, i64_w, i32_w]
        rfl
      refine one_ (i := 12) (N := some 63) #[true, true, true, true, true, true, true, true, true, true, true, true, true, true, true, true, true, false, false, false, false, false, false] rfl rfl (by kernel_rfl) (by decide) (fun K hK => ?_)
      refine goes_ Try.func25 (by kernel_rfl) rfl #[.pointer (some ⟨p, 0, none⟩)] (by rfl) rfl rfl (by simp only [List.map_toArray, List.map_cons, List.map_nil]; rfl) ?_
      with_reducible refine (win_Full.atb p (n : Int) A m c bq w4 (win_cells hP6.out).1 (win_cells hP6.out).2.1 hbq.out).mono ?_
      rintro e w5 ⟨rfl, hd7⟩
      refine ⟨_, rfl, ?_⟩
      have hB7 := Aside0.mk (below_step hB6.out hd7.below)
      refine hK.out _ _ trivial (fun hHeld => ?_)
      clear hK K
      refine norm_ (a' := ?_) ?_ ?_
      rotate_left
      · show Act.put _ (some 63) _ = _
        simp only [Act.put, List.setIfInBounds_toArray, List.set_cons_zero, List.set_cons_succ, i64_w, i32_w]
        rfl
      refine pure_ (i := 17) (N := some 68) (v := ?_) (a' := ?_) #[true, true, true, true, true, true, true, true, true, true, true, true, true, true, true, true, true, true, false, false, false, false, false] rfl rfl (by kernel_rfl) (fun _ _ _ h => h) (Or.inl ⟨by rfl, ?_⟩) ?_ ?_
      rotate_left
      · intro w'
        go_simp
        with_reducible rfl
      rotate_left
      · simp only [Act.put, List.setIfInBounds_toArray, List.set_cons_zero, List.set_cons_succ, i64_w, i32_w]
        rfl
      refine pure_ (i := 18) (N := some 69) (v := ?_) (a' := ?_) #[true, true, true, true, true, true, true, true, true, true, true, true, true, true, true, true, true, true, true, false, false, false, false] rfl rfl (by kernel_rfl) (fun _ _ _ h => h) (Or.inl ⟨by rfl, ?_⟩) ?_ ?_
      rotate_left
      · intro w'
        go_simp
        with_reducible rfl
      rotate_left
      · simp only [Act.put, List.setIfInBounds_toArray, List.set_cons_zero, List.set_cons_succ, i64_w, i32_w]
        rfl
      refine pure_ (i := 19) (N := some 70) (v := ?_) (a' := ?_) #[true, true, true, true, true, true, true, true, true, true, true, true, true, true, true, true, true, true, true, true, false, false, false] rfl rfl (by kernel_rfl) (fun _ _ _ h => h) (Or.inl ⟨by rfl, ?_⟩) ?_ ?_
      rotate_left
      · intro w'
        go_simp
        with_reducible rfl
      rotate_left
      · simp only [Act.put, List.setIfInBounds_toArray, List.set_cons_zero, List.set_cons_succ, i64_w, i32_w]
        rfl
      refine one_ (i := 20) (N := some 71) #[true, true, true, true, true, true, true, true, true, true, true, true, true, true, true, true, true, true, true, true, true, false, false] rfl rfl (by kernel_rfl) (by decide) (fun K hK => ?_)
      refine goes_ Try.func12 (by kernel_rfl) rfl #[] (by rfl) rfl rfl (by simp) ?_
      with_reducible refine (remoralaw04_awake.calls true w5 rfl).mono ?_
      rintro e w6 ⟨rfl, hb8⟩
      refine ⟨_, rfl, ?_⟩
      have hB8 := Aside0.mk (below_step hB7.out hb8)
      refine hK.out _ _ trivial (fun hHeld => ?_)
      clear hK K
      refine norm_ (a' := ?_) ?_ ?_
      rotate_left
      · show Act.put _ (some 71) _ = _
        simp only [Act.put, List.setIfInBounds_toArray, List.set_cons_zero, List.set_cons_succ, i64_w, i32_w]
        rfl
      refine pure_ (i := 21) (N := some 72) (v := ?_) (a' := ?_) #[true, true, true, true, true, true, true, true, true, true, true, true, true, true, true, true, true, true, true, true, true, true, false] rfl rfl (by kernel_rfl) (fun _ _ _ h => h) (Or.inl ⟨by rfl, ?_⟩) ?_ ?_
      rotate_left
      · intro w'
        go_simp
        with_reducible rfl
      rotate_left
      · simp only [Act.put, List.setIfInBounds_toArray, List.set_cons_zero, List.set_cons_succ, i64_w, i32_w]
        rfl
      refine pure_ (i := 22) (N := some 4) (v := ?_) (a' := ?_) #[true, true, true, true, true, true, true, true, true, true, true, true, true, true, true, true, true, true, true, true, true, true, true] rfl rfl (by kernel_rfl) (fun _ _ _ h => h) (Or.inl ⟨by rfl, ?_⟩) ?_ ?_
      rotate_left
      · intro w'
        go_simp
        with_reducible rfl
      rotate_left
      · simp only [Act.put, List.setIfInBounds_toArray, List.set_cons_zero, List.set_cons_succ, i64_w, i32_w]
        rfl
      refine done_ (by kernel_rfl) ?_
      go_wp2
      go_ret
      exact ⟨rfl, hB8.out⟩
def remoralaw04_RollSlides.Pure : Prop := ∃ S : List Int → Int, slSums S
theorem remoralaw04_RollSlides.walk (P : remoralaw04_RollSlides.Pure) (a0 : Int) (a1 : Option Addr) (len1 cap1 : Nat) (z1 : List Int) (w : World) (w0 : (Lit.int .u8 a0).wf = true) (w1 : (a1 = none ∧ len1 = 0 ∧ cap1 = 0 ∧ z1 = []) ∨ ∃ x, a1 = some x ∧ len1 ≤ cap1 ∧ cap1 ≤ maxLen ∧ z1.length = cap1 ∧ (∀ i, i < z1.length → w.cell? (x.add i) = some (.int .u8 (z1.getD i 0))) ∧ ∀ n ∈ z1, (Lit.int .u8 n).wf = true) (y1 : len1 * 1 ≤ 140737488351232) :
    Calls Try.prog 7 #[.int .u8 a0, .slice a1 len1 cap1] w fun e w' => e = .returned (.bool true) ∧ Below w.heap.size w w' := by
  obtain ⟨S, hS⟩ := P
  obtain ⟨l1, rfl, hr1, hm1, hw1, hc1⟩ := ReadsInt.ofRowC w1
  have u8 : ∀ x, (Lit.int .u8 x).wf = true → 0 ≤ x ∧ x ≤ 255 := fun x h => by
    simp [Lit.wf, IntKind.min, IntKind.max, IntKind.signed, IntKind.bits] at h; omega
  exact remoralaw04_RollSlides.calls S hS _ _ l1 a0 true w (Kd.C_of_reads (d := (0 : Int)) (h1 := fun _ => rfl) hr1) hc1 (u8 a0 w0) (fun x hx => u8 x (hw1 x hx)) rfl


end Go.Proofs.Ytnbekpmkjpjneaa.P
