/- The contracts of root.read, root.Get and root.Choose. -/
import Derived.Test.YtgflafifemhmgaaRootRd
import Derived.Test.YtgflafifemhmgaaRPure
namespace Go.Proofs.Ytgflafifemhmgaa.MRt
open Go.RowKit Go.Proofs.Ytgflafifemhmgaa.Hand Go.Proofs.Ytgflafifemhmgaa.Crc Go.Proofs.Ytgflafifemhmgaa.RootV Go.Proofs.Ytgflafifemhmgaa.RSums Go.Proofs.Ytgflafifemhmgaa.RPure Go.Proofs.YtgflafifemhmgaaW.PrintWords Go.Proofs.YtgflafifemhmgaaW.PrintLast Go.Proofs.YtgflafifemhmgaaW.PrintMore
theorem min2_mn (k k' : IntKind) (x y : Int) : Builtin.min2 (.int k x) (.int k' y) = pure (.int k (mn x y)) := by simp only [Builtin.min2, mn]
theorem mn_T (l : List Int) (hb : ∀ x ∈ l, Byte x) : mn (rd l 16) 26 = ((cntT l : Nat) : Int) := by
  have := rd_byte l hb 16
  unfold Byte at this
  unfold mn cntT
  split <;> omega
theorem mn_M (l : List Int) (hb : ∀ x ∈ l, Byte x) : mn (rd l 17) 3 = ((cntM l : Nat) : Int) := by
  have := rd_byte l hb 17
  unfold Byte at this
  unfold mn cntM
  split <;> omega
attribute [local go_sem] max2_int min2_mn max_two min_two max_three min_three max_four min_four
set_option linter.unusedVariables false
set_option linter.unusedSimpArgs false
theorem get1' (l : List Int) (hl : ∀ x ∈ l, Byte x) (a : Nat) (h : a + 1 ≤ l.length) : num_Get.f 3 (l.drop a) ((1 : Nat) : Int) = some (rd l (a : Int), 0) := by
  have hlen : 1 ≤ (l.drop a).length := by rw [List.length_drop]; omega
  refine (get1 1 _ (fun x hx => hl x (List.mem_of_mem_drop hx)) hlen).trans ?_
  rw [show rd (l.drop a) 0 = rd l ((a + 0 : Nat) : Int) from rd_drop l a 0, Nat.add_zero, show 256 * 0 + rd l (a : Int) = rd l (a : Int) by omega]
theorem get2' (l : List Int) (hl : ∀ x ∈ l, Byte x) (a : Nat) (h : a + 2 ≤ l.length) : num_Get.f 3 (l.drop a) ((2 : Nat) : Int) = some (gn2 l a, 0) := by
  have hlen : 2 ≤ (l.drop a).length := by rw [List.length_drop]; omega
  refine (get2 0 _ (fun x hx => hl x (List.mem_of_mem_drop hx)) hlen).trans ?_
  rw [show rd (l.drop a) 0 = rd l ((a + 0 : Nat) : Int) from rd_drop l a 0, show rd (l.drop a) 1 = rd l ((a + 1 : Nat) : Int) from rd_drop l a 1, Nat.add_zero]
  unfold gn2
  rw [show 256 * 0 + rd l (a : Int) = rd l (a : Int) by omega]
/-- A struct of six cells, stored. -/
def put6 (W : World) (g : Nat) (a b c d e f : Value) : World := (((((W.setCell ⟨g, 0, none⟩ a).setCell ⟨g, 1, none⟩ b).setCell ⟨g, 2, none⟩ c).setCell ⟨g, 3, none⟩ d).setCell ⟨g, 4, none⟩ e).setCell ⟨g, 5, none⟩ f
theorem put6_heap {W : World} {g : Nat} {x0 x1 x2 x3 x4 x5 : Value} {t : TypeId} (h : W.heap[g]? = some (.cells #[x0, x1, x2, x3, x4, x5] t (0, 0))) (a b c d e f : Value) : (put6 W g a b c d e f).heap[g]? = some (.cells #[a, b, c, d, e, f] t (0, 0)) :=
  heap_setCell_same _ g 5 _ t _ (heap_setCell_same _ g 4 _ t _ (heap_setCell_same _ g 3 _ t _ (heap_setCell_same _ g 2 _ t _ (heap_setCell_same _ g 1 _ t _ (heap_setCell_same _ g 0 _ t _ h)))))
theorem put6_far (W : World) (g : Nat) (a b c d e f : Value) (q : Nat) (h : q ≠ g) : (put6 W g a b c d e f).heap[q]? = W.heap[q]? := by
  unfold put6
  rw [Below.heap_setCell _ ⟨g, 5, none⟩ _ q h, Below.heap_setCell _ ⟨g, 4, none⟩ _ q h, Below.heap_setCell _ ⟨g, 3, none⟩ _ q h, Below.heap_setCell _ ⟨g, 2, none⟩ _ q h, Below.heap_setCell _ ⟨g, 1, none⟩ _ q h, Below.heap_setCell _ ⟨g, 0, none⟩ _ q h]
theorem put6_below {B : Nat} {w W : World} (h : Below B w W) {g : Nat} (hg : B ≤ g) (a b c d e f : Value) : Below B w (put6 W g a b c d e f) :=
  (((((h.setCell (p := ⟨g, 0, none⟩) hg a).setCell (p := ⟨g, 1, none⟩) hg b).setCell (p := ⟨g, 2, none⟩) hg c).setCell (p := ⟨g, 3, none⟩) hg d).setCell (p := ⟨g, 4, none⟩) hg e).setCell (p := ⟨g, 5, none⟩) hg f
set_option maxHeartbeats 8000000 in
set_option maxRecDepth 100000 in
theorem root_read (A0 : Option Addr) (c0 : Nat) (l : List Int) (w : World) (hr : Kd.C (Kd.int .u8) w A0 l.length l) (hc : l.length ≤ c0) (hl : l.length = 256) (hb : ∀ x ∈ l, Byte x) :
    Calls Try.prog 52 #[.slice A0 l.length c0] w fun ex w' => ∃ vT vM, ex = .returned (.agg #[.int .i64 (rread l).ep, .int .i64 (rread l).bl, .int .i64 (rread l).nx, .int .i64 (rread l).st, vT, vM]) ∧ Kd.R (Kd.int .i64) 3 w' w.heap.size (fun _ => True) vT (rread l).tb ∧ Kd.R (Kd.int .i64) 3 w' w.heap.size (fun _ => True) vM (rread l).mp ∧ Below w.heap.size w w' := by
  have HL := Aside0.mk hl
  have HC := Aside0.mk hc
  have HBY := Aside0.mk hb
  have HR := Aside0.mk hr
  obtain ⟨i0, hi0, _, hsz, _⟩ := info_parts infoU8
  have q1 : (4 : Int) ≤ (l.length : Int) := by omega
  have q0 : (0 : Int) ≤ 4 := by omega
  have hcut := cut_from (P := Try.prog) 22 5 .i64 Try.underlying22 hi0 1 hsz A0 l.length c0 4 q0 q1
  have hF := Kd.C_drop (m := 4) (c := c0) hr (by omega) hc
  obtain ⟨A2, hA2⟩ : ∃ A1, A1 = (if c0 = (4 : Int).toNat then A0 else (A0 : Option Addr).map (·.add ((4 : Int).toNat * 1))) := ⟨_, rfl⟩
  replace hF : Kd.C (Kd.int .u8) w A2 (l.drop 4).length (l.drop 4) := by rw [hA2]; exact hF
  have ld : (l.drop 4).length = l.length - 4 := List.length_drop
  rw [← hA2] at hcut
  have HF := Aside0.mk hF
  clear hr hF hc hb hA2 hsz hi0 hl
  go_enter Try.func52, Try.ntmps52
  go_wp2_with fail
  go_at_call 38
  obtain ⟨g2, hg2⟩ : ∃ g, g = w.heap.size := ⟨_, rfl⟩
  have hW := below_alloc (Below.refl w.heap.size w) (Obj.cells #[Value.int IntKind.i64 0, Value.int IntKind.i64 0, Value.int IntKind.i64 0, Value.int IntKind.i64 0, Value.slice none 0 0, Value.slice none 0 0] 55)
  have hN := blk_new w (Obj.cells #[Value.int IntKind.i64 0, Value.int IntKind.i64 0, Value.int IntKind.i64 0, Value.int IntKind.i64 0, Value.slice none 0 0, Value.slice none 0 0] 55)
  rw [← hg2] at hN ⊢
  generalize w.alloc (Obj.cells #[Value.int IntKind.i64 0, Value.int IntKind.i64 0, Value.int IntKind.i64 0, Value.int IntKind.i64 0, Value.slice none 0 0, Value.slice none 0 0] 55) = W1 at hW hN ⊢
  have HB1 := Aside0.mk hW
  have HN1 := Aside0.mk hN
  have HG2 := Aside0.mk hg2
  have hnew := num_NewG A2 (c0 - 4) (l.drop 4) W1 (Kd.C_below HF.out hW) (by rw [ld]; have := HC.out; omega) (by rw [ld, HL.out]; decide)
  rw [ld] at hnew
  clear hW hN hg2
  refine hnew.mono ?_
  clear hnew
  rintro e W2 ⟨g, hg, rfl, hs, hbel⟩
  have HG := Aside0.mk hg
  have HS2 := Aside0.mk hs
  have HN2 := Aside0.mk (blk_below HN1.out hbel)
  have HGL := Aside0.mk hs.lt
  have HG12 := Aside0.mk (show g2 < g from Nat.lt_of_lt_of_le (blk_lt HN1.out) hg)
  have HB2 := Aside0.mk (below_step HB1.out hbel)
  clear hg hs hbel HN1
  go_wp2_with fail
  go_at_call 39
  refine (num_NumG 7 g (l.drop 4) (gn6 l) 6 _ HS2.out (get6' l HBY.out (by rw [HL.out]; decide)) (by rw [List.length_drop, HL.out]; decide)).mono ?_
  rintro e W3 ⟨rfl, hs, hk⟩
  have HS3 := Aside0.mk (show RdrG W3 g (l.drop 10) by have := hs; rwa [List.drop_drop] at this)
  have HK3 := Aside0.mk (hk)
  clear hs hk HS2 
  go_wp2_with fail
  go_at_call 39
  refine (num_NumG 3 g (l.drop 10) (gn2 l 10) 2 _ HS3.out (get2' l HBY.out 10 (by rw [HL.out]; decide)) (by rw [List.length_drop, HL.out]; decide)).mono ?_
  rintro e W4 ⟨rfl, hs, hk⟩
  have HS4 := Aside0.mk (show RdrG W4 g (l.drop 12) by have := hs; rwa [List.drop_drop] at this)
  have HK4 := Aside0.mk (HK3.out.trans hk)
  clear hs hk HS3 HK3
  go_wp2_with fail
  go_at_call 39
  refine (num_NumG 3 g (l.drop 12) (gn2 l 12) 2 _ HS4.out (get2' l HBY.out 12 (by rw [HL.out]; decide)) (by rw [List.length_drop, HL.out]; decide)).mono ?_
  rintro e W5 ⟨rfl, hs, hk⟩
  have HS5 := Aside0.mk (show RdrG W5 g (l.drop 14) by have := hs; rwa [List.drop_drop] at this)
  have HK5 := Aside0.mk (HK4.out.trans hk)
  clear hs hk HS4 HK4
  go_wp2_with fail
  go_at_call 39
  refine (num_NumG 3 g (l.drop 14) (gn2 l 14) 2 _ HS5.out (get2' l HBY.out 14 (by rw [HL.out]; decide)) (by rw [List.length_drop, HL.out]; decide)).mono ?_
  rintro e W6 ⟨rfl, hs, hk⟩
  have HS6 := Aside0.mk (show RdrG W6 g (l.drop 16) by have := hs; rwa [List.drop_drop] at this)
  have HK6 := Aside0.mk (HK5.out.trans hk)
  clear hs hk HS5 HK5
  go_wp2_with fail
  go_at_call 39
  obtain ⟨g4, hg4⟩ : ∃ g, g = W6.heap.size := ⟨_, rfl⟩
  have hW := below_alloc (Below.refl W6.heap.size W6) (Obj.cells #[Value.int IntKind.i64 (gn6 l), Value.int IntKind.i64 (gn2 l 10), Value.int IntKind.i64 (gn2 l 12), Value.int IntKind.i64 (gn2 l 14), Value.slice none 0 0, Value.slice none 0 0] 55)
  have hN := blk_new W6 (Obj.cells #[Value.int IntKind.i64 (gn6 l), Value.int IntKind.i64 (gn2 l 10), Value.int IntKind.i64 (gn2 l 12), Value.int IntKind.i64 (gn2 l 14), Value.slice none 0 0, Value.slice none 0 0] 55)
  rw [← hg4] at hN ⊢
  generalize W6.alloc (Obj.cells #[Value.int IntKind.i64 (gn6 l), Value.int IntKind.i64 (gn2 l 10), Value.int IntKind.i64 (gn2 l 12), Value.int IntKind.i64 (gn2 l 14), Value.slice none 0 0, Value.slice none 0 0] 55) = W7 at hW hN ⊢
  have HG4 := Aside0.mk hg4
  have HN7 := Aside0.mk hN
  have HB7 := Aside0.mk hW
  have HS7 := Aside0.mk (HS6.out.step (w1 := W7) (fun q hq => hW.block q (Nat.lt_of_le_of_lt hq HS6.out.lt)))
  clear hW hN hg4 HS6
  refine (num_NumG 3 g (l.drop 16) (rd l (16 : Nat)) 1 _ HS7.out (get1' l HBY.out 16 (by rw [HL.out]; decide)) (by rw [List.length_drop, HL.out]; decide)).mono ?_
  rintro e W8 ⟨rfl, hs, hk⟩
  have HS8 := Aside0.mk (show RdrG W8 g (l.drop 17) by have := hs; rwa [List.drop_drop] at this)
  have HK8 := Aside0.mk (hk)
  clear hs hk HS7 
  go_wp2_with fail
  go_at_call 39
  refine (num_NumG 3 g (l.drop 17) (rd l (17 : Nat)) 1 _ HS8.out (get1' l HBY.out 17 (by rw [HL.out]; decide)) (by rw [List.length_drop, HL.out]; decide)).mono ?_
  rintro e W9 ⟨rfl, hs, hk⟩
  have HS9 := Aside0.mk (show RdrG W9 g (l.drop 18) by have := hs; rwa [List.drop_drop] at this)
  have HK9 := Aside0.mk (HK8.out.trans hk)
  clear hs hk HS8 HK8
  go_wp2_with fail
  go_at_call 63
  have hT : cntT l ≤ 26 := Nat.min_le_right _ _
  have hM : cntM l ≤ 3 := Nat.min_le_right _ _
  rw [mn_T l HBY.out]
  refine (root_blocks g (l.drop 18) (cntT l) _ HS9.out (by rw [List.length_drop, HL.out]; omega) (by omega) (fun x hx => HBY.out x (List.mem_of_mem_drop hx))).mono ?_
  rintro e W10 ⟨vT, rfl, hr, hs, hk⟩
  obtain ⟨AT, cT, rfl⟩ := Kd.R_slice hr
  have HT := Aside0.mk hr
  have HS10 := Aside0.mk hs
  have h64 : g < W6.heap.size := Nat.lt_of_lt_of_le HGL.out HK6.out.size
  have hg4 := HG4.out
  have hg2 := HG2.out
  have hg12 := HG12.out
  have hgl := HGL.out
  have hB6 : Below w.heap.size w W6 := HB2.out.trans (HK6.out.below.mono (by omega))
  have hB7 : Below w.heap.size w W7 := below_step hB6 HB7.out
  have hB9 : Below w.heap.size w W9 := hB7.trans (HK9.out.below.mono (by omega))
  have hB10 : Below w.heap.size w W10 := hB9.trans (hk.below.mono (by omega))
  have hn9 : W9.heap[g4]? = _ := (HK9.out.block g4 (blk_lt HN7.out) (by omega)).trans HN7.out
  have hn10 : W10.heap[g4]? = _ := (hk.block g4 (blk_lt hn9) (by omega)).trans hn9
  have hm6 : W6.heap[g2]? = _ := (HK6.out.block g2 (blk_lt HN2.out) (by omega)).trans HN2.out
  have hm7 : W7.heap[g2]? = _ := (HB7.out.block g2 (by omega)).trans hm6
  have hm9 : W9.heap[g2]? = _ := (HK9.out.block g2 (blk_lt hm7) (by omega)).trans hm7
  have hm10 : W10.heap[g2]? = _ := (hk.block g2 (blk_lt hm9) (by omega)).trans hm9
  have HB10 := Aside0.mk hB10
  have HN10 := Aside0.mk hn10
  have HM10 := Aside0.mk hm10
  have HTB := Aside0.mk (show g4 < W9.heap.size from blk_lt hn9)
  have H64 := Aside0.mk (show g < g4 by omega)
  clear h64 hg4 hg2 hg12 hgl hB6 hB7 hB9 hB10 hn9 hm6 hm7 hm9 hr hs hk HK6 HK9 HB7 HN7 HN2 HB2 HS9
  have hc4 := blk_cell hn10 4
  have hf4 := blk_frozen hn10 4
  clear hn10 hm10
  go_wp2_with fail
  go_at_call 63
  rw [mn_M l HBY.out]
  have hn11 : (W10.setCell ⟨g4, 4, none⟩ (Value.slice AT (nums2 (List.drop 18 l) 0 (cntT l)).length cT)).heap[g4]? = _ := heap_setCell_same _ g4 4 _ 55 _ HN10.out
  have hs11 := HS10.out.step (w1 := W10.setCell ⟨g4, 4, none⟩ (Value.slice AT (nums2 (List.drop 18 l) 0 (cntT l)).length cT)) (fun q hq => Below.heap_setCell _ ⟨g4, 4, none⟩ _ q (by have := H64.out; show q ≠ g4; omega))
  have ht11 := Kd.R_far (Kd.R_bound HT.out) (p := ⟨g4, 4, none⟩) (fun q hq => by have := hq.2.1; have := HTB.out; show q ≠ g4; omega) (Value.slice AT (nums2 (List.drop 18 l) 0 (cntT l)).length cT)
  have hb11 := HB10.out.setCell (p := ⟨g4, 4, none⟩) (by have := HG2.out; have := HG12.out; have := H64.out; show w.heap.size ≤ g4; omega) (Value.slice AT (nums2 (List.drop 18 l) 0 (cntT l)).length cT)
  have hm11 : (W10.setCell ⟨g4, 4, none⟩ (Value.slice AT (nums2 (List.drop 18 l) 0 (cntT l)).length cT)).heap[g2]? = _ := (Below.heap_setCell _ ⟨g4, 4, none⟩ _ g2 (by have := HG12.out; have := H64.out; show g2 ≠ g4; omega)).trans HM10.out
  generalize W10.setCell ⟨g4, 4, none⟩ (Value.slice AT (nums2 (List.drop 18 l) 0 (cntT l)).length cT) = W11 at hn11 hs11 ht11 hb11 hm11 ⊢
  have HN11 := Aside0.mk hn11
  have HT11 := Aside0.mk ht11
  have HB11 := Aside0.mk hb11
  have HM11 := Aside0.mk hm11
  have HS11 := Aside0.mk hs11
  clear hn11 hs11 ht11 hb11 hm11 HN10 HS10 HT HB10 HM10 hc4 hf4
  refine (root_blocks g ((l.drop 18).drop (2 * cntT l)) (cntM l) _ HS11.out (by rw [List.length_drop, List.length_drop, HL.out]; omega) (by omega) (fun x hx => HBY.out x (List.mem_of_mem_drop (List.mem_of_mem_drop hx)))).mono ?_
  rintro e W12 ⟨vM, rfl, hr, hs, hk⟩
  obtain ⟨AM, cM, rfl⟩ := Kd.R_slice hr
  have hg4 := H64.out
  have hg12 := HG12.out
  have hn12 : W12.heap[g4]? = _ := (hk.block g4 (blk_lt HN11.out) (by omega)).trans HN11.out
  have hm12 : W12.heap[g2]? = _ := (hk.block g2 (blk_lt HM11.out) (by omega)).trans HM11.out
  have HM12 := Aside0.mk hm12
  have HN12 := Aside0.mk hn12
  have HB12 := Aside0.mk (HB11.out.trans (hk.below.mono (by have := HG2.out; omega)))
  have HT12 := Aside0.mk (Kd.R_step HT11.out (fun q hq hlt => hk.block q hlt (by have := hq.2.1; have := HTB.out; omega)))
  have HMM := Aside0.mk hr
  have HTB2 := Aside0.mk (show g4 < W11.heap.size from blk_lt HN11.out)
  have hc5 := blk_cell hn12 5
  have hf5 := blk_frozen hn12 5
  clear hn12 hm12 hr hs hk HN11 HT11 HB11 HM11 HS11 hg4 hg12
  have hdd : (l.drop 18).drop (2 * cntT l) = l.drop (18 + 2 * cntT l) := by rw [List.drop_drop]
  rw [hdd] at HMM ⊢
  have hn13 : (W12.setCell ⟨g4, 5, none⟩ (Value.slice AM (nums2 (List.drop (18 + 2 * cntT l) l) 0 (cntM l)).length cM)).heap[g4]? = _ := heap_setCell_same _ g4 5 _ 55 _ HN12.out
  have hm13 : (W12.setCell ⟨g4, 5, none⟩ (Value.slice AM (nums2 (List.drop (18 + 2 * cntT l) l) 0 (cntM l)).length cM)).heap[g2]? = _ := (Below.heap_setCell _ ⟨g4, 5, none⟩ _ g2 (by have := HG12.out; have := H64.out; show g2 ≠ g4; omega)).trans HM12.out
  have d0 := blk_cell hn13 0
  have d1 := blk_cell hn13 1
  have d2 := blk_cell hn13 2
  have d3 := blk_cell hn13 3
  have d4 := blk_cell hn13 4
  have d5 := blk_cell hn13 5
  have e0 := blk_cell hm13 0
  have f0 := blk_frozen hm13 0
  have e1 := blk_cell hm13 1
  have f1 := blk_frozen hm13 1
  have e2 := blk_cell hm13 2
  have f2 := blk_frozen hm13 2
  have e3 := blk_cell hm13 3
  have f3 := blk_frozen hm13 3
  have e4 := blk_cell hm13 4
  have f4 := blk_frozen hm13 4
  have e5 := blk_cell hm13 5
  have f5 := blk_frozen hm13 5
  have ht13 := Kd.R_far (Kd.R_bound HT12.out) (p := ⟨g4, 5, none⟩) (fun q hq => by have := hq.1.2.1; have := HTB.out; show q ≠ g4; omega) (Value.slice AM (nums2 (List.drop (18 + 2 * cntT l) l) 0 (cntM l)).length cM)
  have hmm13 := Kd.R_far (Kd.R_bound HMM.out) (p := ⟨g4, 5, none⟩) (fun q hq => by have := hq.2.1; have := HTB2.out; show q ≠ g4; omega) (Value.slice AM (nums2 (List.drop (18 + 2 * cntT l) l) 0 (cntM l)).length cM)
  have hb13 := HB12.out.setCell (p := ⟨g4, 5, none⟩) (by have := HG2.out; have := HG12.out; have := H64.out; show w.heap.size ≤ g4; omega) (Value.slice AM (nums2 (List.drop (18 + 2 * cntT l) l) 0 (cntM l)).length cM)
  have HT13 := Aside0.mk ht13
  have HMM13 := Aside0.mk hmm13
  have HB13 := Aside0.mk hb13
  have HM13 := Aside0.mk hm13
  clear ht13 hmm13 hb13
  go_wp2_with fail
  clear d0 d1 d2 d3 d4 d5 e0 e1 e2 e3 e4 e5 f0 f1 f2 f3 f4 f5 hn13 hm13
  refine bodyPost_ret (results_cell_row rfl _ _ g2 55 _ (0, 0) _ rfl (put6_heap HM13.out _ _ _ _ _ _) Try.underlying55 rfl (by kernel_rfl)) rfl ?_
  have r2 := HG2.out
  have r3 := HG12.out
  have r4 := H64.out
  have r5 := HTB.out
  have r6 := HTB2.out
  have r7 := HB12.out.size
  have eT : nums2 (l.drop 18) 0 (cntT l) = (rread l).tb := by rw [nums2_drop]; rfl
  have eM : nums2 (l.drop (18 + 2 * cntT l)) 0 (cntM l) = (rread l).mp := by rw [nums2_drop]; rfl
  refine ⟨_, _, rfl, ?_, ?_, put6_below HB13.out (by omega) _ _ _ _ _ _⟩
  · rw [← eT]
    exact Kd.R_lower (Kd.R_mono (Kd.R_step HT13.out (fun q hq _ => put6_far _ g2 _ _ _ _ _ _ q (by have := hq.2.1; omega))) (fun _ _ => trivial)) (by omega)
  · rw [← eM]
    exact Kd.R_lower (Kd.R_mono (Kd.R_step HMM13.out (fun q hq _ => put6_far _ g2 _ _ _ _ _ _ q (by have := hq.2.1; omega))) (fun _ _ => trivial)) (by omega)
end Go.Proofs.Ytgflafifemhmgaa.MRt
