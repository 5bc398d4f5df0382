/- The contracts of sum.table and sum.More: the table of sixteen numbers, and what becomes of a sum byte by byte. -/
import Derived.Test.YtgflafifemhmgaaProg
import Derived.WalkSpells
import Derived.Lib.SlBytesConst
import Derived.Lib.SmallJoins
import Derived.Deep.AppendLies
import Derived.OwnWalk
import Derived.Test.YtgflafifemhmgaaWApart

import Derived.Laws.Tables
import Derived.Test.YtgflafifemhmgaaWWords
import Derived.Test.YtgflafifemhmgaaWLast
import Derived.Test.YtgflafifemhmgaaWMore
import Derived.Deep.LoopGhost
import Derived.Laws.Rows
import Derived.KernelRfl
namespace Go.Proofs.Ytgflafifemhmgaa.Hand
open Go.RowKit Go.Proofs.YtgflafifemhmgaaW.PrintWords Go.Proofs.YtgflafifemhmgaaW.PrintLast Go.Proofs.YtgflafifemhmgaaW.PrintMore

mutual
def sum_table.l0 : Nat → List Int → Int → Option (List Int)
  | 0, _, _ => none
  | k + 1, xs, i => if i < 16 then sum_table.l1 k xs i ((i) % 4294967296) 0 else some xs
def sum_table.l1 : Nat → List Int → Int → Int → Int → Option (List Int)
  | 0, _, _, _, _ => none
  | k + 1, xs, i, c, j => if j < 4 then (if Go.bits .and .u32 c 1 = 1 then sum_table.l1 k xs i (Go.bits .xor .u32 (c / 2) 2197175160) (wrap64 (j + 1)) else sum_table.l1 k xs i (c / 2) (wrap64 (j + 1))) else (if 0 ≤ i then sum_table.l0 k (xs.set i.toNat c) (wrap64 (i + 1)) else none)
end
def zeros16 : List Int := [0, 0, 0, 0, 0, 0, 0, 0, 0, 0, 0, 0, 0, 0, 0, 0]

def Row16 (w : World) (g : Nat) (xs : List Int) : Prop := xs.length = 16 ∧ w.heap[g]? = some (.cells (nums .u32 xs).toArray 105 (0, 0))

theorem info105 : (Try.prog.info? 105).map (·.size) = some 16 := by kernel_rfl
theorem below_setRow {B : Nat} {w W : World} (h : Below B w W) {g : Nat} (hg : B ≤ g) (cs : Array Value) : Below B w (W.setRow g cs) :=
  ⟨h.os, h.tape, h.output, by rw [size_setRow]; exact h.size, fun i hi => by rw [setRow_other W g i cs (by omega)]; exact h.block i hi⟩
theorem row_read {w : World} {g : Nat} {xs : List Int} (h : Row16 w g xs) (i : Int) (h0 : 0 ≤ i) (h1 : i < 16) : w.cell? ⟨g, i.toNat, none⟩ = some (.int .u32 (rd xs i)) := by
  have hl := h.1
  rw [cell_of_row w g _ _ _ _ h.2]
  simp only [nums, List.getElem?_toArray, List.getElem?_map, rd]
  rw [List.getElem?_eq_getElem (by omega), List.getD_eq_getElem?_getD, List.getElem?_eq_getElem (by omega)]
  rfl
theorem row_free {w : World} {g : Nat} {xs : List Int} (h : Row16 w g xs) (j : Nat) : w.frozen? ⟨g, j, none⟩ = false := frozen_of_row w g j _ 105 h.2
theorem row_set {w : World} {g : Nat} {xs : List Int} (h : Row16 w g xs) (i : Nat) (c : Int) : Row16 (w.setCell ⟨g, i, none⟩ (.int .u32 c)) g (xs.set i c) := by
  refine ⟨by rw [List.length_set]; exact h.1, ?_⟩
  rw [heap_setCell_same w g i _ 105 _ h.2]
  simp only [nums, List.map_set, List.setIfInBounds_toArray]
theorem row_other {w : World} {g : Nat} {xs : List Int} (h : Row16 w g xs) (a : Addr) (v : Value) (hne : g ≠ a.block) : Row16 (w.setCell a v) g xs := ⟨h.1, by rw [heap_setCell_other w a g v hne]; exact h.2⟩
theorem row_drew {w : World} {g : Nat} {xs : List Int} (h : Row16 w g xs) (n : Nat) : Row16 (w.drewN n) g xs := h

set_option maxHeartbeats 2000000 in
set_option maxRecDepth 100000 in
theorem sum_table.calls0 (k : Nat) (r : List Int) (w : World) (h : sum_table.l0 k zeros16 0 = some r) :
    Calls Try.prog 66 #[] w fun e w' => e = .returned (.agg (nums .u32 r).toArray) ∧ Below w.heap.size w w' := by
  have H := Aside0.mk h
  clear h
  go_enter Try.func66, Try.ntmps66
  go_wp2
  go_loopg [4] k (fun kq v4 w' => ∃ (xs : List Int) (i : Int), v4 = .int .i64 i ∧ Aside0 (sum_table.l0 kq xs i = some r) ∧ Aside0 (kq ≤ k) ∧ Aside0 (Row16 w' w.heap.size zeros16) ∧ Aside0 (Row16 w' (w.heap.size + 1) xs) ∧ Aside0 (Below w.heap.size w w'))
  case atStart =>
    refine ⟨zeros16, 0, rfl, H, ⟨Nat.le_refl _⟩, ⟨rfl, heap_alloc2_old w _ _⟩, ⟨rfl, heap_alloc2_new w _ _⟩, ⟨?_⟩⟩
    exact below_alloc (below_alloc (Below.refl _ _) _) _
  case round =>
    clear H
    obtain ⟨xs, i, rfl, HA, HK1, HZ, HX, HB⟩ := hrel
    cases gk with
    | zero => exact absurd HA.out (by simp [sum_table.l0])
    | succ k1 =>
      have H := HA.out
      clear HA
      simp only [sum_table.l0] at H
      by_cases c2 : i < 16
      · rw [if_pos c2] at H
        have c2b0 : decide (i < 16) = true := decide_eq_true c2
        have C2 := Aside0.mk c2
        clear c2
        have H' := Aside0.mk H
        clear H
        go_wp2
        go_loopg [3, 9] k1 (fun kq v3 v9 w' => ∃ (c j : Int), v3 = .int .u32 c ∧ v9 = .int .i64 j ∧ Aside0 (sum_table.l1 kq xs i c j = some r) ∧ Aside0 (kq ≤ k1) ∧ Aside0 (Row16 w' w.heap.size zeros16) ∧ Aside0 (Row16 w' (w.heap.size + 1) xs) ∧ Aside0 (Below w.heap.size w w'))
        case atStart => exact ⟨_, _, rfl, rfl, H', ⟨Nat.le_refl _⟩, HZ, HX, HB⟩
        case round =>
          clear H' HZ HX HB
          obtain ⟨c, j, rfl, rfl, HA, HK2, HZ, HX, HB⟩ := hrel
          cases gk with
          | zero => exact absurd HA.out (by simp [sum_table.l1])
          | succ k2 =>
            have H := HA.out
            clear HA
            simp only [sum_table.l1] at H
            by_cases c4 : j < 4
            · rw [if_pos c4] at H
              have c4b0 : decide (j < 4) = true := decide_eq_true c4
              clear c4
              by_cases c5 : Go.bits .and .u32 c 1 = 1
              · rw [if_pos c5] at H
                have c5b0 : ((Go.bits .and .u32 c 1) == 1) = true := beq_iff_eq.mpr c5
                clear c5
                have H' := Aside0.mk H
                clear H
                go_wp2
                go_roundg k2
                case measure => have := HK1.out; have := HK2.out; omega
                case rel => exact ⟨_, _, rfl, rfl, H', ⟨by have := HK1.out; have := HK2.out; omega⟩, HZ, HX, HB⟩
              · rw [if_neg c5] at H
                have c5b0 : ((Go.bits .and .u32 c 1) == 1) = false := beq_eq_false_iff_ne.mpr c5
                clear c5
                have H' := Aside0.mk H
                clear H
                go_wp2
                go_roundg k2
                case measure => have := HK1.out; have := HK2.out; omega
                case rel => exact ⟨_, _, rfl, rfl, H', ⟨by have := HK1.out; have := HK2.out; omega⟩, HZ, HX, HB⟩
            · rw [if_neg c4] at H
              have c4b0 : decide (j < 4) = false := decide_eq_false c4
              clear c4
              by_cases c6 : 0 ≤ i
              · rw [if_pos c6] at H
                have H' := Aside0.mk H
                clear H
                have hc := row_read HX.out i c6 C2.out
                have hf := row_free HX.out i.toNat
                have p6 := eq_true c6
                have q6 := eq_true C2.out
                clear c6
                go_wp2
                go_roundg k2
                case measure => have := HK1.out; have := HK2.out; omega
                case rel => exact ⟨_, _, rfl, H', ⟨by have := HK1.out; have := HK2.out; omega⟩, ⟨row_other HZ.out _ _ (by simp)⟩, ⟨row_set HX.out _ _⟩, ⟨HB.out.setCell (by simp) _⟩⟩
              · rw [if_neg c6] at H
                exact absurd H (by simp)
      · rw [if_neg c2] at H
        have c2b0 : decide (i < 16) = false := decide_eq_false c2
        clear c2
        obtain rfl := Option.some.inj H
        have hrow := HX.out.2
        have hrow0 := HZ.out.2
        have hi16 : (Try.prog.info? 105).map (·.size) = some (nums .u32 xs).toArray.size := by rw [List.size_toArray, nums_length, HX.out.1]; exact info105
        have hold16 : (nums .u32 zeros16).toArray.size = (nums .u32 xs).toArray.size := by rw [List.size_toArray, nums_length, List.size_toArray, nums_length, HX.out.1]; rfl
        have hone : (nums .u32 xs).toArray.all (·.oneCell') = true := by simp [nums, Value.oneCell']
        have hnew : (wr.setRow w.heap.size (nums .u32 xs).toArray).heap[w.heap.size]? = some (.cells (nums .u32 xs).toArray 105 (0, 0)) := setRow_heap _ _ _ _ _ _ HZ.out.2
        have HR := Aside0.mk hrow
        have HR0 := Aside0.mk hrow0
        have HI := Aside0.mk hi16
        have HO := Aside0.mk hold16
        have HN := Aside0.mk hone
        have HW := Aside0.mk hnew
        clear hrow hrow0 hi16 hold16 hone hnew
        go_wp2_with (first | (refine wpList_load_row rfl 105 _ rfl (w.heap.size + 1) rfl 105 _ (0, 0) _ HR.out Try.underlying105 rfl HI.out ?_) | (refine wpList_store_row rfl 105 _ _ rfl w.heap.size _ rfl rfl 105 _ HR0.out HI.out HO.out HN.out ?_))
        refine bodyPost_ret (results_cell_row rfl _ _ w.heap.size 105 _ (0, 0) _ rfl HW.out Try.underlying105 rfl HI.out) rfl ?_
        exact ⟨rfl, below_setRow HB.out (Nat.le_refl _) _⟩

def tab : List Int := [0, 274646895, 549293790, 820201905, 1098587580, 1361435347, 1640403810, 1905808397, 2197175160, 2460548119, 2722870694, 2987750089, 3280807620, 3553878443, 3811616794, 4084100981]
theorem tab_is : sum_table.l0 200 zeros16 0 = some tab := by decide +kernel
theorem sum_table.calls (w : World) : Calls Try.prog 66 #[] w fun e w' => e = .returned (.agg (nums .u32 tab).toArray) ∧ Below w.heap.size w w' := sum_table.calls0 200 tab w tab_is

/-- Four bits go by. -/
def nib (c : Int) : Int := Go.bits .xor .u32 (rd tab (Go.bits .and .u32 c 15)) (c / 16)
/-- A byte goes by. -/
def rnd (c x : Int) : Int := nib (nib (Go.bits .xor .u32 c (x % 4294967296)))

theorem and15 (c : Int) : 0 ≤ Go.bits .and .u32 c 15 ∧ Go.bits .and .u32 c 15 < 16 := by
  have h : (BitVec.ofInt IntKind.u32.bits c &&& BitVec.ofInt IntKind.u32.bits 15).toNat ≤ 15 := by
    rw [BitVec.toNat_and]
    exact Nat.and_le_right
  have e : Go.bits .and .u32 c 15 = IntKind.u32.wrap ((BitVec.ofInt IntKind.u32.bits c &&& BitVec.ofInt IntKind.u32.bits 15).toNat : Int) := rfl
  rw [e, IntKind.wrap_u32]
  omega

theorem rnd_snoc (l : List Int) (i : Nat) (h : i < l.length) (c : Int) : (l.drop i).foldl rnd c = (l.drop (i + 1)).foldl rnd (rnd c (rd l i)) := by
  rw [List.drop_eq_getElem_cons h, List.foldl_cons]
  congr 2
  unfold rd
  rw [List.getD_eq_getElem?_getD, Int.toNat_natCast, List.getElem?_eq_getElem h]
  rfl

set_option maxHeartbeats 2000000 in
set_option maxRecDepth 100000 in
theorem sum_More.calls0 (a0 : Int) (A1 : Option Addr) (c1 : Nat) (l1 : List Int) (w : World) (hr1 : Kd.C (Kd.int .u8) w A1 l1.length l1) (hc1 : l1.length ≤ c1) :
    Calls Try.prog 65 #[.int .u32 a0, .slice A1 l1.length c1] w fun e w' => e = .returned (.int .u32 (Go.bits .xor .u32 IntKind.u32.max (l1.foldl rnd (Go.bits .xor .u32 IntKind.u32.max a0)))) ∧ Below w.heap.size w w' := by
  have HR1 := Aside0.mk hr1
  have HC1 := Aside0.mk hc1
  clear hr1 hc1
  go_enter Try.func65, Try.ntmps65
  go_wp2_with fail
  go_at_call 66
  refine (sum_table.calls _).mono ?_
  rintro e w1 ⟨rfl, hb⟩
  have HB := Aside0.mk hb
  clear hb
  have hi16 := Aside0.mk (show (Try.prog.info? 105).map (·.size) = some (nums .u32 tab).toArray.size from info105)
  have hone := Aside0.mk (show (nums .u32 tab).toArray.all (·.oneCell') = true by simp [nums, Value.oneCell'])
  go_wp2_with (refine wpList_store_row rfl 105 _ _ rfl w1.heap.size _ rfl rfl 105 _ (heap_alloc_new w1 _) hi16.out rfl hone.out ?_)
  go_loopg [6, 14] (l1.length + 1) (fun kq v6 v14 w' => ∃ (c i : Int), v6 = .int .u32 c ∧ v14 = .int .i64 i ∧ Aside0 (0 ≤ i ∧ i.toNat ≤ l1.length ∧ i.toNat + kq = l1.length + 1) ∧ Aside0 ((l1.drop i.toNat).foldl rnd c = l1.foldl rnd (Go.bits .xor .u32 IntKind.u32.max a0)) ∧ Aside0 (Row16 w' w1.heap.size tab) ∧ Aside0 (Kd.C (Kd.int .u8) w' A1 l1.length l1) ∧ Aside0 (Below w.heap.size w w'))
  case atStart =>
    have hB2 : Below w.heap.size w ((w1.alloc (Obj.cells (nums IntKind.u32 zeros16).toArray 105)).setRow w1.heap.size (nums IntKind.u32 tab).toArray) :=
      below_setRow (HB.out.alloc HB.out.size _) HB.out.size _
    refine ⟨_, 0, rfl, rfl, ⟨by omega, Nat.zero_le _, by simp⟩, ⟨rfl⟩, ⟨rfl, setRow_heap _ _ _ _ _ _ (heap_alloc_new w1 _)⟩, ⟨Kd.C_below HR1.out hB2⟩, ⟨hB2⟩⟩
  case round =>
    clear HB HR1
    obtain ⟨c, i, rfl, rfl, HK, HF, HX, HR, HB⟩ := hrel
    cases gk with
    | zero => exact absurd HK.out (by omega)
    | succ k1 =>
      by_cases hlt : i < (l1.length : Int)
      · have b2 : decide (i < (l1.length : Int)) = true := decide_eq_true hlt
        have hK := HK.out
        obtain ⟨ad, ead, hx⟩ := Kd.at_int HR.out i hK.1 hlt
        cases ead
        obtain ⟨p1, q1⟩ := and15 (Go.bits .xor .u32 c (rd l1 i % 4294967296))
        obtain ⟨p2, q2⟩ := and15 (nib (Go.bits .xor .u32 c (rd l1 i % 4294967296)))
        have r1 := row_read HX.out _ p1 q1
        have r2 := row_read HX.out _ p2 q2
        have p0 := eq_true hK.1
        have q0 := eq_true hlt
        have HI := Aside0.mk hlt
        clear hlt hK
        unfold nib at p2 q2 r2
        replace p1 := eq_true p1
        replace q1 := eq_true q1
        replace p2 := eq_true p2
        replace q2 := eq_true q2
        go_wp2
        go_roundg k1
        case measure => omega
        case rel =>
          have hk := HK.out
          have hi := HI.out
          have hm := HR.out.2.1
          have ew : wrap64 (i + 1) = i + 1 := by unfold wrap64; omega
          have en : (i + 1).toNat = i.toNat + 1 := by omega
          have hs := rnd_snoc l1 i.toNat (by omega) c
          rw [show ((i.toNat : Nat) : Int) = i by omega] at hs
          exact ⟨_, i + 1, rfl, by first | rfl | rw [ew], ⟨by omega, by omega, by omega⟩, ⟨by rw [en]; exact hs.symm.trans HF.out⟩, HX, HR, HB⟩
      · have b2 : decide (i < (l1.length : Int)) = false := decide_eq_false hlt
        have HI := Aside0.mk hlt
        clear hlt
        go_wp2
        go_ret
        have hk := HK.out
        have hi := HI.out
        have e := HF.out
        rw [List.drop_of_length_le (by omega), List.foldl_nil] at e
        exact ⟨by rw [← e]; rfl, HB.out⟩

/-- What sum.More tells. -/
def sum_More.f (a0 : Int) (l1 : List Int) : Option Int := some (Go.bits .xor .u32 4294967295 (l1.foldl rnd (Go.bits .xor .u32 4294967295 a0)))
theorem sum_More.calls (a0 : Int) (A1 : Option Addr) (c1 : Nat) (l1 : List Int) (r : Int) (w : World) (hr1 : Kd.C (Kd.int .u8) w A1 l1.length l1) (hc1 : l1.length ≤ c1) (h : sum_More.f a0 l1 = some r) :
    Calls Try.prog 65 #[.int .u32 a0, .slice A1 l1.length c1] w fun e w' => e = .returned (.int .u32 r) ∧ Below w.heap.size w w' := by
  obtain rfl := Option.some.inj h
  exact sum_More.calls0 a0 A1 c1 l1 w hr1 hc1

theorem infoU8 : (Try.prog.info? 5).map (fun i => (i.zero, i.size, i.bytes)) = some (some (.int .u8 0), 1, 1) := by kernel_rfl
/-- What bytes.Clone tells: the same bytes. -/
def bytes_Clone.f (l0 : List Int) : Option (List Int) := if l0.length < 140737488355328 then some l0 else none
set_option maxHeartbeats 2000000 in
set_option maxRecDepth 100000 in
theorem bytes_Clone.calls (A0 : Option Addr) (c0 : Nat) (l0 : List Int) (r : List Int) (w : World) (hr0 : Kd.C (Kd.int .u8) w A0 l0.length l0) (hc0 : l0.length ≤ c0) (h : bytes_Clone.f l0 = some r) :
    Calls Try.prog 40 #[.slice A0 l0.length c0] w fun e w' => ∃ v0_ : Value, e = .returned (v0_) ∧ Kd.R (Kd.int .u8) 5 w' w.heap.size (fun _ => True) v0_ r ∧ Below w.heap.size w w' := by
  unfold bytes_Clone.f at h
  by_cases hl : l0.length < 140737488355328
  · rw [if_pos hl] at h
    obtain rfl := Option.some.inj h
    clear h
    have HR0 := Aside0.mk hr0
    have HC0 := Aside0.mk hc0
    have HL := Aside0.mk hl
    clear hc0 hl
    cases A0 with
    | none =>
      have hn : l0 = [] := by
        rcases Nat.eq_zero_or_pos l0.length with h0 | h0
        · exact List.eq_nil_of_length_eq_zero h0
        · obtain ⟨ad, e, _⟩ := hr0.2.2 h0
          cases e
      subst hn
      clear hr0
      have q := fun (W : World) => Lib.run_eql_slice_nil (P := Try.prog) W 22 5 none ([] : List Int).length c0 0 0 Try.underlying22
      simp only [List.length_nil] at q ⊢
      go_enter Try.func40, Try.ntmps40
      go_wp2
      go_ret
      exact ⟨_, rfl, Kd.R_nil _ _ _ _ _, Below.refl _ _⟩
    | some ad =>
      clear hr0
      have q := fun (W : World) => Lib.run_eql_slice_nil (P := Try.prog) W 22 5 (some ad) l0.length c0 0 0 Try.underlying22
      have HB := Aside0.mk (Below.refl w.heap.size w)
      go_enter Try.func40, Try.ntmps40
      go_wp2_with (first | ((with_reducible refine gate_dst (N := 5) rfl ?_); refine Kd.R_lit (Kd.int .u8) _ 5 ?hg (N := 5) ?hd (xs := ([] : List Int)) (inner := []) (ok := fun _ => True) (okp := fun _ => True) ?hr ?hp (fun _ hk => hk) trivial (Below.refl _ _) (Nat.le_refl _) (by simp) ?_; (case hd => rfl); (case hg => rfl); (case hr => first | (go_simp; done) | (go_simp; rfl)); (case hp => exact (Reps.none _ _)); intro v112 w5 ho6 hb hg_ hnew_; clear hg_ hnew_; have HO := Aside0.mk (Kd.R_lower ho6 (below_size HB.out)); have n1_ := Aside0.mk (below_step HB.out hb); clear HB; have HB := n1_; clear n1_; clear hb ho6) | ((with_reducible refine gate_builtin (b := .append) (xs := #[.tmp 5, .tmp 6]) rfl ?_); at_builtin; refine Kd.R_append_rows (Kd.int .u8) (w0 := w) w.heap.size rfl (.tmp 5) (.tmp 6) 22 5 (.int .u8 0) 1 rfl Try.underlying22 infoU8 rfl (by decide) (by omega) v112 ([] : List Int) l0 _ _ _ (fun _ => True) (fun _ => False) rfl rfl ?aO ?aR (fun _ _ h => h) (fun _ h => h.elim) ?aF ?aB ?aS ?aL ?_; (case aR => exact (Kd.C_below HR0.out HB.out)); (case aB => exact HB.out); (case aF => exact (fun _ _ => trivial)); (case aO => exact HO.out); (case aS => exact (below_size HB.out)); (case aL => have := HL.out; simp only [List.length_nil]; omega); intro v115 w7 ho hb hg hat; have n0_ := Aside0.mk (hb); have n1_ := Aside0.mk (ho); clear HB; clear HO; have HB := n0_; have HO := n1_; clear n0_ n1_; clear ho hb hg hat))
      go_ret
      exact ⟨_, rfl, by have := HO.out; rwa [List.nil_append] at this, HB.out⟩
  · rw [if_neg hl] at h
    cases h
theorem cells_C {W : World} {g : Nat} {l : List Int} {fz : Nat × Nat} (h : W.heap[g]? = some (.cells (nums .u8 l).toArray 5 fz)) (hl : l.length ≤ 9223372036854775807) : Kd.C (Kd.int .u8) W (some ⟨g, 0, none⟩) l.length l := by
  refine ⟨rfl, hl, fun _ => ⟨⟨g, 0, none⟩, rfl, ?_⟩⟩
  intro j p hp
  refine ⟨[.int .u8 p], rfl, rfl, fun i u hu => ?_⟩
  have hi : i = 0 := by
    cases i with
    | zero => rfl
    | succ i => simp at hu
  subst hi
  rw [add_plain, cell_of_row W g _ _ _ _ h]
  have e : j * (Kd.int IntKind.u8).sz + 0 = j := by show j * 1 + 0 = j; omega
  rw [e]
  simp only [nums, List.getElem?_toArray, List.getElem?_map, hp]
  simpa using hu
theorem cells_CC {W : World} {g g1 g2 : Nat} {l1 l2 : List Int} {t : TypeId} {fz : Nat × Nat} (h : W.heap[g]? = some (.cells #[.slice (some ⟨g1, 0, none⟩) l1.length l1.length, .slice (some ⟨g2, 0, none⟩) l2.length l2.length] t fz))
    (h1 : Kd.C (Kd.int .u8) W (some ⟨g1, 0, none⟩) l1.length l1) (h2 : Kd.C (Kd.int .u8) W (some ⟨g2, 0, none⟩) l2.length l2) : Kd.C (Kd.slice 5 (Kd.int .u8)) W (some ⟨g, 0, none⟩) 2 [l1, l2] := by
  refine ⟨rfl, by decide, fun _ => ⟨⟨g, 0, none⟩, rfl, ?_⟩⟩
  intro j p hp
  match j, hp with
  | 0, hp =>
    obtain rfl := Option.some.inj hp
    refine ⟨[.slice (some ⟨g1, 0, none⟩) l1.length l1.length], rfl, ⟨_, _, rfl, Nat.le_refl _, h1⟩, fun i u hu => ?_⟩
    have hi : i = 0 := by
      cases i with
      | zero => rfl
      | succ i => simp at hu
    subst hi
    rw [add_plain, cell_of_row W g _ _ _ _ h]
    simpa using hu
  | 1, hp =>
    obtain rfl := Option.some.inj hp
    refine ⟨[.slice (some ⟨g2, 0, none⟩) l2.length l2.length], rfl, ⟨_, _, rfl, Nat.le_refl _, h2⟩, fun i u hu => ?_⟩
    have hi : i = 0 := by
      cases i with
      | zero => rfl
      | succ i => simp at hu
    subst hi
    rw [add_plain, cell_of_row W g _ _ _ _ h]
    show #[Value.slice (some ⟨g1, 0, none⟩) l1.length l1.length, Value.slice (some ⟨g2, 0, none⟩) l2.length l2.length][1]? = some u
    simpa using hu
  | j + 2, hp => simp at hp
theorem heap3 (w : World) (A B C : Obj) : (((w.alloc A).alloc B).alloc C).heap[w.heap.size]? = some A ∧ (((w.alloc A).alloc B).alloc C).heap[w.heap.size + 1]? = some B ∧ (((w.alloc A).alloc B).alloc C).heap[w.heap.size + 2]? = some C := by
  show (((w.heap.push A).push B).push C)[w.heap.size]? = some A ∧ (((w.heap.push A).push B).push C)[w.heap.size + 1]? = some B ∧ (((w.heap.push A).push B).push C)[w.heap.size + 2]? = some C
  simp only [Array.getElem?_push, Array.size_push]
  refine ⟨?_, ?_, ?_⟩
  · rw [if_neg (by omega), if_neg (by omega), if_pos trivial]
  · rw [if_neg (by omega), if_pos trivial]
  · rw [if_pos trivial]
end Go.Proofs.Ytgflafifemhmgaa.Hand
