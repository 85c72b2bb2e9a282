/- crc.Of, seal, Seal: walked by hand; the table in block 0 as a hypothesis. -/
import Derived.Test.YthehhbfiaaadgaaDoorProg
import Derived.Below
import Derived.Deep.Draws
import Derived.Deep.AppendLies
import Derived.Maps.AppendAt
import Derived.OwnWalk
import Derived.Laws.BytesArg
import Derived.Laws.MakeOwn
import Derived.Laws.OwnMore
import Derived.Deep.OwnRows
import Derived.Tactics
import Derived.Lib.ConvBytes
import Derived.Laws.Slices
import Derived.WalkKit
import Derived.KernelRfl
import Derived.RowKit3
import Derived.Deep.LoopGhost
import Derived.Deep.QuietTactic
import Derived.BigQuiet
import Derived.WideLaws
import Derived.Deep.DeepCutAuto
import Derived.Deep.CutBlock
import Derived.Deep.RegionHeld3
import Derived.Laws.Rows
import Derived.Lib.AppendStr
import Derived.ArgAppend
import Derived.Laws.IdiomCopy
import Derived.OrdersHeld
import Derived.Laws.BitsLemmas
import Derived.RowKit
import Derived.Test.YthehhbfiaaadgaaDoorWWords
import Derived.Test.YthehhbfiaaadgaaDoorWLast
import Derived.Test.YthehhbfiaaadgaaDoorWTab
import Derived.Test.YthehhbfiaaadgaaDoorWFour
import Derived.Test.YthehhbfiaaadgaaDoorWQPut
import Derived.Test.YthehhbfiaaadgaaDoorWApart
import Derived.Test.YthehhbfiaaadgaaDoorWArr
import Derived.Test.YthehhbfiaaadgaaDoorWZeros
import Derived.Test.YthehhbfiaaadgaaDoorWFoot
import Derived.Test.YthehhbfiaaadgaaDoorWKept
import Derived.Test.YthehhbfiaaadgaaDoorWShare
import Derived.Test.YthehhbfiaaadgaaDoorWN
import Derived.Test.YthehhbfiaaadgaaDoorWFootNe
import Derived.Test.YthehhbfiaaadgaaDoorWAt
import Derived.Test.YthehhbfiaaadgaaDoorWEqStruct
import Derived.Test.YthehhbfiaaadgaaDoorWRepsOne
import Derived.Test.YthehhbfiaaadgaaDoorWInv
import Derived.Test.YthehhbfiaaadgaaDoorWInvWords
import Derived.Test.YthehhbfiaaadgaaDoorWGuard
import Derived.Test.YthehhbfiaaadgaaDoorWNEv
import Derived.Test.YthehhbfiaaadgaaDoorWMore
import Derived.Test.YthehhbfiaaadgaaDoorOwn
namespace Go.Proofs.YthehhbfiaaadgaaDoor.P
open Go.RowKit Go.Proofs.YthehhbfiaaadgaaDoorW.PrintWords Go.Proofs.YthehhbfiaaadgaaDoorW.PrintLast Go.Proofs.YthehhbfiaaadgaaDoorW.PrintMore
attribute [local go_sem] max2_int min2_int max_two min_two max_three min_three max_four min_four   -- for this text's walks alone
set_option linter.unusedVariables false
set_option linter.unusedSimpArgs false
/-- The table: what four bits that fall out leave. -/
def crcTab : List Int := [0, 498536548, 997073096, 651767980, 1994146192, 1802195444, 1303535960, 1342533948, 3988292384, 4027552580, 3604390888, 3412177804, 2607071920, 2262029012, 2685067896, 3183342108]
def GT (w : World) : Prop := ∀ j : Nat, j < 16 → w.cell? ⟨0, j, none⟩ = some (.int .u32 (crcTab.getD j 0))
theorem GT.drawN {w : World} {n : Nat} (h : GT w) : GT (w.drewN n) := fun j hj => by simpa using h j hj
theorem and15 (Y : Int) : 0 ≤ Go.bits .and .u32 Y 15 ∧ Go.bits .and .u32 Y 15 < 16 := by
  have h1 : Go.bits .and .u32 Y 15 = IntKind.u32.wrap (((BitVec.ofInt 32 Y &&& BitVec.ofInt 32 15).toNat : Nat) : Int) := rfl
  have h2 : (BitVec.ofInt 32 Y &&& BitVec.ofInt 32 15).toNat ≤ 15 := by
    rw [BitVec.toNat_and]; exact Nat.le_trans Nat.and_le_right (by decide)
  rw [h1, IntKind.wrap_u32]; omega
def crcTb (j : Int) : Int := crcTab.getD j.toNat 0
theorem GT.at {w : World} (h : GT w) (Y : Int) : w.cell? ⟨0, (Go.bits .and .u32 Y 15).toNat, none⟩ = some (.int .u32 (crcTb (Go.bits .and .u32 Y 15))) :=
  h _ (by have := and15 Y; omega)
def crcNib (x : Int) : Int := Go.bits .xor .u32 (x / 16) (crcTb (Go.bits .and .u32 x 15))
def crcByte (x c : Int) : Int := crcNib (crcNib (Go.bits .xor .u32 x (c % 4294967296)))
def crcFold (x : Int) (l : List Int) : Int := l.foldl crcByte x
/-- Parts, as they lie: where, how long, with what room. -/
def Parts (w : World) (A : Option Addr) (ps : List (Option Addr × Nat × List Int)) : Prop :=
  ∀ i, ∀ h : i < ps.length, (∃ a, A = some a ∧ w.cell? (a.add i) = some (.slice ps[i].1 ps[i].2.2.length ps[i].2.1)) ∧ Kd.C (Kd.int .u8) w ps[i].1 ps[i].2.2.length ps[i].2.2 ∧ ps[i].2.2.length ≤ ps[i].2.1 ∧ ps[i].2.2.length ≤ 9223372036854775807
def crcOfPs (x : Int) (ps : List (Option Addr × Nat × List Int)) : Int := ps.foldl (fun x p => crcFold x p.2.2) x
theorem crcFold_succ (x : Int) (l : List Int) (m : Nat) (h : m < l.length) : crcFold x (l.take (m + 1)) = crcByte (crcFold x (l.take m)) (rd l (m : Int)) := by
  have e : l.take (m + 1) = l.take m ++ [rd l (m : Int)] := by
    rw [List.take_succ_eq_append_getElem h]
    simp [rd, List.getD_eq_getElem?_getD, List.getElem?_eq_getElem h]
  rw [e]; unfold crcFold; rw [List.foldl_append]; rfl
theorem crcOfPs_succ (x : Int) (ps : List (Option Addr × Nat × List Int)) (i : Nat) (h : i < ps.length) : crcOfPs x (ps.take (i + 1)) = crcFold (crcOfPs x (ps.take i)) ps[i].2.2 := by
  rw [List.take_succ_eq_append_getElem h]; unfold crcOfPs; rw [List.foldl_append]; rfl
set_option maxHeartbeats 8000000 in
set_option maxRecDepth 100000 in
theorem crc_Of.walked (A0 : Option Addr) (c0 : Nat) (ps : List (Option Addr × Nat × List Int)) (w : World) (hG : GT w) (hP : Parts w A0 ps) (hn : ps.length ≤ 9223372036854775807) :
    Calls Tryd.prog 67 #[.slice A0 ps.length c0] w fun e w' => e = .returned (.int .u32 (Go.bits .xor .u32 4294967295 (crcOfPs 4294967295 ps))) ∧ w' = w := by
  have HP := Aside0.mk hP
  have HG := Aside0.mk hG
  clear hP hG
  go_enter Tryd.func67, Tryd.ntmps67
  go_wp2
  go_loopg [3, 10] ps.length (fun g v3 v10 w' => w' = w ∧ ∃ i : Nat, i ≤ ps.length ∧ g = ps.length - i ∧ v10 = .int .i64 i ∧ v3 = .int .u32 (crcOfPs 4294967295 (ps.take i)))
  case atStart => exact ⟨rfl, 0, Nat.zero_le _, rfl, rfl, rfl⟩
  case round =>
    obtain ⟨rfl, i, hi, rfl, rfl, rfl⟩ := hrel
    by_cases hlt : i < ps.length
    · obtain ⟨⟨a, hA, hcell⟩, hC, hcap, hlen⟩ := HP.out i hlt
      subst hA
      have hb0 : decide ((i : Int) < (ps.length : Int)) = true := decide_eq_true (by omega)
      have hb1 : decide (i < ps.length) = true := decide_eq_true hlt
      obtain ⟨⟨pA, pc, l⟩, hpi⟩ : ∃ p, ps[i] = p := ⟨_, rfl⟩
      rw [hpi] at hcell hC hcap hlen
      dsimp only at hcell hC hcap hlen
      have hq0 : (0 ≤ (i : Int)) = True := eq_true (by omega)
      have hq1 : ((i : Int) < (ps.length : Int)) = True := eq_true (by omega)
      have hq2 : (i < ps.length) = True := eq_true (by omega)
      have HC := Aside0.mk hC
      clear hC
      go_wp2
      go_loopg [3, 16] l.length (fun g v3 v16 w' => w' = wr ∧ ∃ m : Nat, m ≤ l.length ∧ g = l.length - m ∧ v16 = .int .i64 m ∧ v3 = .int .u32 (crcFold (crcOfPs 4294967295 (ps.take i)) (l.take m)))
      case atStart => exact ⟨rfl, 0, Nat.zero_le _, rfl, rfl, rfl⟩
      case round =>
        obtain ⟨rfl, m, hm, rfl, rfl, rfl⟩ := hrel
        generalize hX : crcFold (crcOfPs 4294967295 (ps.take i)) (l.take m) = X
        by_cases hml : m < l.length
        · have hb2 : decide ((m : Int) < (l.length : Int)) = true := decide_eq_true (by omega)
          have hb3 : decide (m < l.length) = true := decide_eq_true hml
          obtain ⟨ad, e, hx⟩ := Kd.at_int HC.out (m : Int) (by omega) (by omega)
          cases e
          have hx' : wr.cell? (ad.add m) = some (.int .u8 (rd l m)) := by simpa using hx
          clear hx
          obtain ⟨Y1, hY1⟩ : ∃ Y, Y = Go.bits .xor .u32 X (rd l (m : Int) % 4294967296) := ⟨_, rfl⟩
          have hn1 := HG.out.at Y1
          have ha1 := and15 Y1
          have hn2 := HG.out.at (crcNib Y1)
          have ha2 := and15 (crcNib Y1)
          have hm1 := eq_true ha1.1
          have hm2 := eq_true ha1.2
          have hm3 := eq_true ha2.1
          have hm4 := eq_true ha2.2
          clear ha1 ha2
          unfold crcNib at hn2 hm3 hm4
          rw [hY1] at hn1 hn2 hm1 hm2 hm3 hm4
          have HY := Aside0.mk hY1
          clear hY1
          have hq3 : (0 ≤ (m : Int)) = True := eq_true (by omega)
          have hq4 : ((m : Int) < (l.length : Int)) = True := eq_true (by omega)
          have hq5 : (m < l.length) = True := eq_true (by omega)
          go_wp2
          go_roundg (l.length - (m + 1))
          case measure => omega
          case rel => exact ⟨rfl, m + 1, by omega, rfl, rfl, by rw [crcFold_succ _ _ _ hml, hX]; rfl⟩
        · have hme : m = l.length := by omega
          subst hme
          have hb2 : decide ((l.length : Int) < (l.length : Int)) = false := decide_eq_false (by omega)
          have hb3 : decide (l.length < l.length) = false := decide_eq_false (by omega)
          go_wp2
          go_roundg (ps.length - (i + 1))
          case measure => omega
          case rel => exact ⟨rfl, i + 1, by omega, rfl, rfl, by rw [← hX, List.take_length, crcOfPs_succ _ _ _ hlt, hpi]⟩
    · have hb0 : decide ((i : Int) < (ps.length : Int)) = false := decide_eq_false (by omega)
      have hb1 : decide (i < ps.length) = false := decide_eq_false hlt
      have hie : i = ps.length := by omega
      subst hie
      go_wp2
      go_ret
      exact ⟨rfl, rfl⟩
theorem GT.below {w w' : World} (h : GT w) (hb : Below w.heap.size w w') : GT w' := fun j hj => (hb.cell (World.block_lt_of_cell? w _ (h j hj))).trans (h j hj)
theorem GT.alloc {w : World} (h : GT w) (o : Obj) : GT (w.alloc o) := h.below (below_alloc (Below.refl _ w) _)
def crcSum (l : List Int) : Int := Go.bits .xor .u32 4294967295 (crcFold 4294967295 l)
theorem crc_Of.one (a : Addr) (c0 : Nat) (pA : Option Addr) (pc : Nat) (l : List Int) (w : World) (hG : GT w) (hcell : w.cell? a = some (.slice pA l.length pc)) (hC : Kd.C (Kd.int .u8) w pA l.length l) (hcap : l.length ≤ pc) (hlen : l.length ≤ 9223372036854775807) :
    Calls Tryd.prog 67 #[.slice (some a) 1 c0] w fun e w' => e = .returned (.int .u32 (crcSum l)) ∧ w' = w := by
  refine (crc_Of.walked (some a) c0 [(pA, pc, l)] w hG ?_ (by simp)).mono fun e w' h => h
  intro i hi
  obtain rfl : i = 0 := by simpa using hi
  exact ⟨⟨a, rfl, by rw [Addr.add_zero']; exact hcell⟩, hC, hcap, hlen⟩
def crc_Of1.f (l0 : List Int) : Option Int := some (crcSum l0)
theorem crc_Of.oneV (a : Addr) (n c : Nat) (A : Option Addr) (l : List Int) (t : Int) (w : World) (hG : GT w) (hcell : w.cell? a = some (.slice A n c)) (hC : Kd.C (Kd.int .u8) w A n l) (hcap : n ≤ c) (hn : l.length = n) (ht : crcSum l = t) :
    Calls Tryd.prog 67 #[.slice (some a) 1 1] w fun e w' => e = .returned (.int .u32 t) ∧ w' = w := by
  subst hn
  subst ht
  exact crc_Of.one a 1 A c l w hG hcell hC hcap hC.2.1
theorem crc_Of.nil (w : World) (hG : GT w) :
    Calls Tryd.prog 67 #[.slice none 0 0] w fun e w' => e = .returned (.int .u32 0) ∧ w' = w :=
  crc_Of.walked none 0 [] w hG (fun i hi => absurd hi (by simp)) (by simp)
theorem results_c1 {P : Program} {fn : Func} {p : Tmp} {ty : TypeId} (h : fn.results = #[.cell p ty]) (tmps : Array Value) (w : World) (g : Nat) (t : TypeId) (cs : Array Value) (fr : Nat × Nat) (d : TypeDesc)
    (hp : tmps.getD p undef = .pointer (some ⟨g, 0, none⟩)) (hg : w.heap[g]? = some (.cells cs t fr))
    (hu : P.underlying ty = some d) (hd : (match d with | .struct _ | .array _ _ => true | _ => false) = true) (hi : (P.info? ty).map (·.size) = some cs.size) :
    (results fn tmps).run P w = .ok (.agg cs) w := by
  have hp' : tmps[p]?.getD undef = .pointer (some ⟨g, 0, none⟩) := by simpa using hp
  simp [results, h, hp', asAddr, run_loadVar_row w g t ty cs fr d hg hu hd hi]
theorem four_cells {w : World} {g : Nat} {t : TypeId} (x0 x1 x2 x3 y0 y1 y2 y3 : Value) (h : w.heap[g]? = some (.cells #[y0, y1, y2, y3] t (0, 0))) :
    ((((w.setCell ⟨g, 0, none⟩ x0).setCell ⟨g, 1, none⟩ x1).setCell ⟨g, 2, none⟩ x2).setCell ⟨g, 3, none⟩ x3).heap[g]? = some (.cells #[x0, x1, x2, x3] t (0, 0)) :=
  blk_put (blk_put (blk_put (blk_put h 0 x0 rfl) 1 x1 rfl) 2 x2 rfl) 3 x3 rfl
theorem four_kept {w0 w : World} {g : Nat} (x0 x1 x2 x3 : Value) (h : Below w0.heap.size w0 w) (hg : w0.heap.size ≤ g) :
    Below w0.heap.size w0 ((((w.setCell ⟨g, 0, none⟩ x0).setCell ⟨g, 1, none⟩ x1).setCell ⟨g, 2, none⟩ x2).setCell ⟨g, 3, none⟩ x3) :=
  below_set (below_set (below_set (below_set h hg) hg) hg) hg
/-- A sum's four bytes. -/
def sealL (s : Int) : List Int := [s % 256, s / 256 % 256, s / 65536 % 256, s / 16777216 % 256]
def sealV (s : Int) : Value := .agg #[.int .u8 (s % 256), .int .u8 (s / 256 % 256), .int .u8 (s / 65536 % 256), .int .u8 (s / 16777216 % 256)]
set_option maxHeartbeats 1000000 in
theorem crc_seal.calls (A : Option Addr) (c : Nat) (l : List Int) (w : World) (hG : GT w) (hC : Kd.C (Kd.int .u8) w A l.length l) (hcap : l.length ≤ c) (hlen : l.length ≤ 9223372036854775807) :
    Calls Tryd.prog 62 #[.slice A l.length c] w fun e w' => e = .returned (sealV (crcSum l)) ∧ Below w.heap.size w w' := by
  have HG := Aside0.mk hG
  clear hG
  have HC := Aside0.mk hC
  clear hC
  go_enter Tryd.func62, Tryd.ntmps62
  go_wp2_with fail
  refine (crc_Of.one _ _ A c l _ ?hG ?hc ?hC hcap hlen).mono ?_
  case hG => exact (HG.out.alloc _).alloc _
  case hc => simp
  case hC => exact Kd.C_alloc (Kd.C_alloc HC.out _) _
  rintro e w2 ⟨rfl, hw⟩
  have A0 : w2.heap[w.heap.size]? = some (.cells #[.int .u8 0, .int .u8 0, .int .u8 0, .int .u8 0] 113 (0, 0)) := by rw [hw]; exact blk_below (blk_new w _) (below_alloc (Below.refl _ _) _)
  have HB : Aside0 (Below w.heap.size w w2) := ⟨by rw [hw]; exact below_alloc (below_alloc (Below.refl _ w) _) _⟩
  clear hw
  have HA := Aside0.mk A0
  have cr0 : w2.cell? ⟨w.heap.size, 0, none⟩ = some (.int .u8 0) := (blk_cell A0 0).trans rfl
  have fr0 : w2.frozen? ⟨w.heap.size, 0, none⟩ = false := blk_frozen A0 0
  have cr1 : w2.cell? ⟨w.heap.size, 1, none⟩ = some (.int .u8 0) := (blk_cell A0 1).trans rfl
  have fr1 : w2.frozen? ⟨w.heap.size, 1, none⟩ = false := blk_frozen A0 1
  have cr2 : w2.cell? ⟨w.heap.size, 2, none⟩ = some (.int .u8 0) := (blk_cell A0 2).trans rfl
  have fr2 : w2.frozen? ⟨w.heap.size, 2, none⟩ = false := blk_frozen A0 2
  have cr3 : w2.cell? ⟨w.heap.size, 3, none⟩ = some (.int .u8 0) := (blk_cell A0 3).trans rfl
  have fr3 : w2.frozen? ⟨w.heap.size, 3, none⟩ = false := blk_frozen A0 3
  clear A0
  go_wp2
  refine bodyPost_ret (results_c1 rfl _ _ w.heap.size 113 _ (0, 0) _ rfl (four_cells _ _ _ _ _ _ _ _ HA.out) Tryd.underlying113 rfl (by kernel_rfl)) rfl ?_
  exact ⟨rfl, four_kept _ _ _ _ HB.out (Nat.le_refl _)⟩
theorem info5_ : (Tryd.prog.info? 5).map (fun i => (i.zero, i.size, i.bytes)) = some (some (Value.int .u8 0), 1, 1) := by kernel_rfl
theorem seal_row {w : World} {g : Nat} (s : Int) (h : w.heap[g]? = some (.cells #[.int .u8 (s % 256), .int .u8 (s / 256 % 256), .int .u8 (s / 65536 % 256), .int .u8 (s / 16777216 % 256)] 113 (0, 0))) : Kd.C (Kd.int .u8) w (some ⟨g, 0, none⟩) 4 (sealL s) := by
  refine Kd.C_of_reads (enc := Value.int .u8) (d := (0 : Int)) (h1 := fun _ => rfl) ⟨rfl, (by decide : 4 ≤ 9223372036854775807), fun _ => ⟨_, rfl, fun j hj => ?_⟩⟩
  rw [add_plain]
  have : j = 0 ∨ j = 1 ∨ j = 2 ∨ j = 3 := by omega
  rcases this with rfl | rfl | rfl | rfl <;> exact (blk_cell h _).trans rfl
set_option maxHeartbeats 2000000 in
theorem crc_Seal.walked (A : Option Addr) (c : Nat) (l : List Int) (w : World) (hG : GT w) (hC : Kd.C (Kd.int .u8) w A l.length l) (hcap : l.length ≤ c) (hlen : l.length + 4 ≤ 140737488355328) :
    Calls Tryd.prog 53 #[.slice A l.length c] w fun e w' => ∃ v, e = .returned v ∧ Kd.R (Kd.int .u8) 5 w' w.heap.size (fun _ => True) v (l ++ sealL (crcSum l)) ∧ Below w.heap.size w w' := by
  have HG := Aside0.mk hG
  clear hG
  have HC := Aside0.mk hC
  clear hC
  go_enter Tryd.func53, Tryd.ntmps53
  go_wp2_with fail
  refine (crc_seal.calls A c l _ ?hG ?hC hcap (by omega)).mono ?_
  case hG => exact HG.out
  case hC => exact HC.out
  rintro e w2 ⟨rfl, hb⟩
  have HB := Aside0.mk hb
  clear hb
  unfold sealV
  have hl1 : (l.length : Int) ≤ 140737488355324 := by omega
  go_wp2_with (first | ((with_reducible refine gate_dst (N := 10) rfl ?_); refine Kd.R_makecap (Kd.int .u8) _ 5 rfl (N := 10) rfl 32 _ _ rfl ((l.length : Int) + 4) rfl rfl Tryd.underlying32 (.int .u8 0) 1 info5_ rfl (by decide) (by omega) 0 (ok := fun _ => True) (okp := fun _ => True) rfl (fun _ hk => hk) trivial (by omega) (by omega) (Below.refl _ _) (Nat.le_refl _) ?_; intro v1 w3 ho hb hg hn; have HO := Aside0.mk ho; have HB3 := Aside0.mk hb; have HN := Aside0.mk hn; clear ho hb hg hn) | ((with_reducible refine gate_builtin (b := .append) (xs := #[.tmp 11, .tmp 12]) rfl ?_); (try (refine gate_guard (by rfl) ?_; dsimp only)); at_builtin; refine Kd.R_append_rows (Kd.int .u8) (w0 := w) w.heap.size rfl (.tmp 11) (.tmp 12) 32 5 (.int .u8 0) 1 rfl Tryd.underlying32 info5_ rfl (by decide) (by omega) v1 ([] : List Int) l _ _ _ (fun _ => True) (fun _ => False) rfl rfl ?aO ?aR (fun _ _ h => h) (fun _ h => h.elim) ?aF ?aB ?aS ?aL ?_; (case aR => exact Kd.C_below HC.out (below_step (below_alloc HB.out _) HB3.out)); (case aB => exact below_step (below_alloc HB.out _) HB3.out); (case aF => exact (fun _ _ => trivial)); (case aO => exact Kd.R_lower HO.out (below_size (below_alloc HB.out _))); (case aS => exact (below_size (below_step (below_alloc HB.out _) HB3.out))); (case aL => simp; omega); intro v2 w4 ho hb hg hat; have HO4 := Aside0.mk ho; have HB4 := Aside0.mk hb; have HG4 := Aside0.mk hg; have HAT := Aside0.mk hat; have HROW := Aside0.mk (seal_row (crcSum l) (w := w4) (g := w2.heap.size) (by obtain ⟨b, hb1, hb2⟩ := HN.out; rw [hg.block w2.heap.size (Nat.lt_of_lt_of_le (by simp) (below_size HB3.out)) (by rw [hb1]; intro h; injection h with h; simp at hb2; omega)]; exact blk_below (blk_new w2 _) HB3.out)); clear ho hb hg hat) | ((with_reducible refine gate_builtin (b := .append) (xs := #[.tmp 14, .tmp 15]) rfl ?_); (try (refine gate_guard (by rfl) ?_; dsimp only)); at_builtin; refine Kd.R_append_rows (Kd.int .u8) (w0 := w) w.heap.size rfl (.tmp 14) (.tmp 15) 32 5 (.int .u8 0) 1 rfl Tryd.underlying32 info5_ rfl (by decide) (by omega) v2 ([] ++ l) (sealL (crcSum l)) _ _ _ (fun _ => True) (fun _ => False) rfl rfl ?aO ?aR (fun _ _ h => h) (fun _ h => h.elim) ?aF ?aB ?aS ?aL ?_; (case aR => exact HROW.out); (case aB => exact HB4.out); (case aF => exact (fun _ _ => trivial)); (case aO => exact HO4.out); (case aS => exact (below_size HB4.out)); (case aL => simp; omega); intro v3 w5 ho hb hg hat; have HO5 := Aside0.mk ho; have HB5 := Aside0.mk hb; clear ho hb hg hat))
  go_ret
  exact ⟨_, rfl, HO5.out, HB5.out⟩
end Go.Proofs.YthehhbfiaaadgaaDoor.P
