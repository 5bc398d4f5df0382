/- The contracts of the reference's Reader (Num, Text), over pairs of what is left and an error. -/
import Derived.Test.YtgbjinonlfhciaaPutsP
namespace Go.Proofs.Ytgbjinonlfhciaa.BkV
open Go.RowKit Go.Proofs.Ytgbjinonlfhciaa.MBk Go.Proofs.YtgbjinonlfhciaaW.PrintWords Go.Proofs.YtgbjinonlfhciaaW.PrintLast
set_option linter.unusedVariables false
theorem rget_step (k : Nat) (l : List Int) (hl : ∀ x ∈ l, Byte x) (w n i : Int) (h0 : 0 ≤ n) (h1 : n < 1099511627776) (hi0 : 0 ≤ i) (hi : i < w) (hw : w ≤ l.length) (hw6 : w ≤ 6) : intarsiaref01_Get.l0 (k + 1) l w n i = intarsiaref01_Get.l0 k l w (256 * n + rd l i) (i + 1) := by
  obtain ⟨hb0, hb1⟩ := rd_byte l hl i
  rw [intarsiaref01_Get.l0, if_pos (by omega), if_pos (by omega), if_pos (by omega), wrap_id (x := 256 * n) (by omega) (by omega), wrap_id (x := rd l i) (by omega) (by omega), wrap_id (x := 256 * n + rd l i) (by omega) (by omega), wrap_id (x := i + 1) (by omega) (by omega)]
theorem rget_is (m : Nat) (hm : m = 1 ∨ m = 2) (l : List Int) (hl : ∀ x ∈ l, Byte x) : intarsiaref01_Get.f 5 l (m : Int) = some (if l.length < m then (0, 3) else (numV m l, 0)) := by
  have b0 := rd_byte l hl 0
  have b1 := rd_byte l hl 1
  unfold Byte at b0 b1
  unfold intarsiaref01_Get.f
  rcases hm with rfl | rfl
  · rw [if_neg (by omega), intarsiaref01_Get.j0, if_neg (by decide)]
    by_cases h : l.length < 1
    · rw [if_pos (by omega), if_pos h]
    · rw [if_neg (by omega), if_neg h, rget_step 3 l hl _ 0 0 (by omega) (by omega) (by omega) (by omega) (by omega) (by omega), intarsiaref01_Get.l0, if_neg (by omega)]
      congr 2
      unfold numV
      rw [if_pos rfl]
      omega
  · rw [if_neg (by omega), intarsiaref01_Get.j0, if_neg (by decide)]
    by_cases h : l.length < 2
    · rw [if_pos (by omega), if_pos h]
    · rw [if_neg (by omega), if_neg h, rget_step 3 l hl _ 0 0 (by omega) (by omega) (by omega) (by omega) (by omega) (by omega), rget_step 2 l hl _ _ _ (by omega) (by omega) (by omega) (by omega) (by omega) (by omega), intarsiaref01_Get.l0, if_neg (by omega)]
      congr 2
      unfold numV
      rw [if_neg (by decide)]
      show 256 * (256 * 0 + rd l 0) + rd l 1 = _
      omega
end Go.Proofs.Ytgbjinonlfhciaa.BkV
namespace Go.Proofs.Ytgbjinonlfhciaa.MBk
open Go.RowKit Go.Proofs.Ytgbjinonlfhciaa.BkV Go.Proofs.YtgbjinonlfhciaaW.PrintWords Go.Proofs.YtgbjinonlfhciaaW.PrintLast Go.Proofs.YtgbjinonlfhciaaW.PrintMore
set_option linter.unusedVariables false
set_option linter.unusedSimpArgs false
/-! A struct of two cells, stored whole. -/
theorem put2_far (w : World) (g : Nat) (a b : Value) {q : Nat} (h : q ≠ g) : ((w.setCell ⟨g, 0, none⟩ a).setCell ⟨g, 1, none⟩ b).heap[q]? = w.heap[q]? :=
  (heap_setCell_other _ ⟨g, 1, none⟩ q b h).trans (heap_setCell_other _ ⟨g, 0, none⟩ q a h)
theorem put2_heap {w : World} {g : Nat} {u v : Value} {t : TypeId} (h : w.heap[g]? = some (.cells #[u, v] t (0, 0))) (a b : Value) : ((w.setCell ⟨g, 0, none⟩ a).setCell ⟨g, 1, none⟩ b).heap[g]? = some (.cells #[a, b] t (0, 0)) :=
  heap_setCell_same _ g 1 _ t b (heap_setCell_same w g 0 _ t a h)
theorem put2_below {B : Nat} {w0 w : World} {g : Nat} (h : Below B w0 w) (hg : B ≤ g) (a b : Value) : Below B w0 ((w.setCell ⟨g, 0, none⟩ a).setCell ⟨g, 1, none⟩ b) := (h.setCell (p := ⟨g, 0, none⟩) hg a).setCell (p := ⟨g, 1, none⟩) hg b
/-- A reader's bytes lie in blocks of a kind that a world keeps. -/
abbrev RF (w : World) (g : Nat) (A : Option Addr) (l : List Int) : Prop := Kd.F (Kd.int .u8) w (fun k => k < g) A l.length l
set_option maxHeartbeats 8000000 in
set_option maxRecDepth 100000 in
theorem rnum_Num (B : Nat) (s : St) (m : Nat) (hm : m = 1 ∨ m = 2) (A : Option Addr) (c : Nat) (w : World) (hF : RF w B A s.1) (hc : s.1.length ≤ c) (hb : ∀ x ∈ s.1, Byte x) (hB : B ≤ w.heap.size) :
    Calls Try.prog 51 #[.agg #[.slice A s.1.length c, .int .i64 s.2], .int .i64 (m : Int)] w fun ex w' => ∃ A' c', ex = .returned (.tuple #[.agg #[.slice A' (numR m s).2.1.length c', .int .i64 (numR m s).2.2], .int .i64 (numR m s).1]) ∧ (numR m s).2.1.length ≤ c' ∧ RF w' B A' (numR m s).2.1 ∧ Below w.heap.size w w' := by
  obtain ⟨l, e⟩ := s
  replace hb : ∀ x ∈ l, Byte x := hb
  replace hc : l.length ≤ c := hc
  replace hF : RF w B A l := hF
  have HBY := Aside0.mk hb
  have HC := Aside0.mk hc
  have HF := Aside0.mk hF
  have HBB := Aside0.mk hB
  clear hb hc hF hB
  go_enter Try.func51, Try.ntmps51
  go_upto_region 1 with fail
  have hW1 := below_alloc (Below.refl w.heap.size w) (Obj.cells #[Value.slice A l.length c, Value.int IntKind.i64 e] 83)
  have hN1 := blk_new w (Obj.cells #[Value.slice A l.length c, Value.int IntKind.i64 e] 83)
  have hS1 : (w.alloc (Obj.cells #[Value.slice A l.length c, Value.int IntKind.i64 e] 83)).heap.size = w.heap.size + 1 := World.size_alloc _ _
  obtain ⟨g, hg⟩ : ∃ g, g = w.heap.size := ⟨_, rfl⟩
  rw [← hg] at hN1 hS1 ⊢
  generalize w.alloc (Obj.cells #[Value.slice A l.length c, Value.int IntKind.i64 e] 83) = W1 at hW1 hN1 hS1 ⊢
  have hW2 := below_alloc (Below.refl W1.heap.size W1) (Obj.cells #[Value.slice none 0 0, Value.int IntKind.i64 0] 83)
  have hN2 := blk_new W1 (Obj.cells #[Value.slice none 0 0, Value.int IntKind.i64 0] 83)
  rw [hS1] at hN2
  generalize W1.alloc (Obj.cells #[Value.slice none 0 0, Value.int IntKind.i64 0] 83) = W2 at hW2 hN2 ⊢
  have HB := Aside0.mk (below_step hW1 hW2)
  have K1 := Aside0.mk (blk_below hN1 hW2)
  have K2 := Aside0.mk hN2
  have nF := Aside0.mk (show RF W2 B A l from Kd.F_below (Kd.F_below HF.out hW1) hW2)
  have HG := Aside0.mk (show w.heap.size ≤ g ∧ B ≤ g by have := HBB.out; omega)
  clear HF hW1 hN1 hS1 hW2 hN2 hg
  have HF := nF
  clear nF
  have HGT := Aside0.mk (rget_is m hm l HBY.out)
  have HM := Aside0.mk hm
  clear hm
  have k0 := blk_cell K1.out 0
  have k1 := blk_cell K1.out 1
  have m0 := blk_cell K2.out 0
  have m1 := blk_cell K2.out 1
  have f0 := blk_frozen K2.out 0
  have f1 := blk_frozen K2.out 1
  by_cases he : e = 0
  · subst he
    by_cases hl : l.length < m
    · have HN := Aside0.mk (show numR m (l, 0) = (0, (l, 3)) by unfold numR; rw [if_neg (fun h => h rfl), if_pos hl])
      have hgt := HGT.out
      rw [if_pos hl] at hgt
      go_wp2_with fail
      go_at_call 62
      refine (intarsiaref01_Get.calls 5 A c l (m : Int) 0 3 W2 (Kd.F_now HF.out) HC.out hgt).mono ?_
      clear hgt hl k0 k1 m0 m1 f0 f1
      rintro ex W3 ⟨rfl, hd_⟩
      have hb := hd_.below
      clear hd_
      have nB := Aside0.mk (below_step HB.out hb)
      have n1 := Aside0.mk (blk_below K1.out hb)
      have n2 := Aside0.mk (blk_below K2.out hb)
      have nF := Aside0.mk (show RF W3 B A l from Kd.F_below HF.out hb)
      clear hb HB K1 K2 HF
      have HB := nB
      have K1 := n1
      have K2 := n2
      have HF := nF
      clear nB n1 n2 nF
      have k0 := blk_cell K1.out 0
      have k1 := blk_cell K1.out 1
      have m0 := blk_cell K2.out 0
      have m1 := blk_cell K2.out 1
      have f0 := blk_frozen K2.out 0
      have f1 := blk_frozen K2.out 1
      go_wp2_with fail
      clear k0 k1 m0 m1 f0 f1
      refine bodyPost_ret (results_ct rfl _ _ (g + 1) 83 #[.slice A l.length c, .int .i64 3] (0, 0) _ rfl (put2_heap K2.out _ _) Try.underlying83 rfl (by kernel_rfl)) rfl ?_
      rw [HN.out]
      exact ⟨A, c, rfl, HC.out, Kd.F_step HF.out (fun k hk _ => put2_far _ _ _ _ (by have := HG.out; have := hk; omega)), put2_below HB.out (by have := HG.out; omega) _ _⟩
    · have HN := Aside0.mk (show numR m (l, 0) = (numV m l, (l.drop m, 0)) by unfold numR; rw [if_neg (fun h => h rfl), if_neg hl])
      have hgt := HGT.out
      rw [if_neg hl] at hgt
      have HLM := Aside0.mk (show m ≤ l.length by omega)
      go_wp2_with fail
      go_at_call 62
      refine (intarsiaref01_Get.calls 5 A c l (m : Int) (numV m l) 0 W2 (Kd.F_now HF.out) HC.out hgt).mono ?_
      clear hgt hl k0 k1 m0 m1 f0 f1
      rintro ex W3 ⟨rfl, hd_⟩
      have hb := hd_.below
      clear hd_
      have nB := Aside0.mk (below_step HB.out hb)
      have n1 := Aside0.mk (blk_below K1.out hb)
      have n2 := Aside0.mk (blk_below K2.out hb)
      have nF := Aside0.mk (show RF W3 B A l from Kd.F_below HF.out hb)
      clear hb HB K1 K2 HF
      have HB := nB
      have K1 := n1
      have K2 := n2
      have HF := nF
      clear nB n1 n2 nF
      have k0 := blk_cell K1.out 0
      have k1 := blk_cell K1.out 1
      have m0 := blk_cell K2.out 0
      have m1 := blk_cell K2.out 1
      have f0 := blk_frozen K2.out 0
      have f1 := blk_frozen K2.out 1
      obtain ⟨i0, hi0, _, hsz, _⟩ := info_parts info5
      have hcut := cut_from (P := Try.prog) 43 5 .i64 Try.underlying43 hi0 1 hsz A l.length c (m : Int) (by omega) (by have := HLM.out; omega)
      rw [Int.toNat_natCast] at hcut
      have hr := Kd.F_cut (m := m) (c := c) HF.out HLM.out HC.out
      obtain ⟨A2, hA2⟩ : ∃ A1, A1 = (if c = m then A else (A : Option Addr).map (·.add (m * 1))) := ⟨_, rfl⟩
      replace hr : RF W3 B A2 (l.drop m) := by rw [hA2]; exact hr
      rw [← hA2] at hcut
      have HR := Aside0.mk hr
      clear hr hA2 hsz hi0
      go_wp2_with fail
      clear k0 k1 m0 m1 f0 f1 hcut
      refine bodyPost_ret (results_ct rfl _ _ (g + 1) 83 #[.slice A2 (l.length - m) (c - m), .int .i64 0] (0, 0) _ rfl (put2_heap K2.out _ _) Try.underlying83 rfl (by kernel_rfl)) rfl ?_
      rw [HN.out]
      have hdl : (l.drop m).length = l.length - m := List.length_drop
      refine ⟨A2, c - m, by rw [hdl]; rfl, by show (l.drop m).length ≤ _; rw [hdl]; have := HC.out; omega, ?_, put2_below HB.out (by have := HG.out; omega) _ _⟩
      exact Kd.F_step HR.out (fun k hk _ => put2_far _ _ _ _ (by have := HG.out; have := hk; omega))
  · have HN := Aside0.mk (show numR m (l, e) = (0, (l, e)) from if_pos he)
    have hee : (e != 0) = true := bne_iff_ne.mpr he
    clear he
    go_wp2_with fail
    clear k0 k1 m0 m1 f0 f1
    refine bodyPost_ret (results_ct rfl _ _ (g + 1) 83 #[.slice A l.length c, .int .i64 e] (0, 0) _ rfl (put2_heap K2.out _ _) Try.underlying83 rfl (by kernel_rfl)) rfl ?_
    rw [HN.out]
    exact ⟨A, c, rfl, HC.out, Kd.F_step HF.out (fun k hk _ => put2_far _ _ _ _ (by have := HG.out; have := hk; omega)), put2_below HB.out (by have := HG.out; omega) _ _⟩
def rtext.T6 : Bool × List (List Nat × List Nat) := (true, [([], []), ([0], [0]), ([], []), ([2], [2]), ([1, 3], [1, 3]), ([4], [4]), ([], []), ([6], [6]), ([], []), ([8], [8]), ([7, 9], [7, 9]), ([10], [10]), ([5, 0, 1, 2, 3, 4, 5], [5]), ([11, 12, 0, 1, 2, 3, 4, 5, 6, 7, 8, 9, 10, 11, 12], [11])])
def rtext.B6 : List Nat := [0, 1, 0, 4, 15, 31, 0, 64, 0, 256, 960, 1984, 63, 8191]
theorem rtext.tab6 : rtab .any (opsOf Try.f52 6) = rtext.T6 := by kernel_rfl
theorem rtext.bits6 : waitsOk rtext.T6.2 rtext.B6 = true := by kernel_rfl
set_option maxHeartbeats 8000000 in
set_option maxRecDepth 100000 in
theorem rnum_Text (B : Nat) (s : St) (A : Option Addr) (c : Nat) (w : World) (hF : RF w B A s.1) (hc : s.1.length ≤ c) (hb : ∀ x ∈ s.1, Byte x) (hl : s.1.length ≤ 1000000) (hB : B ≤ w.heap.size) :
    Calls Try.prog 52 #[.agg #[.slice A s.1.length c, .int .i64 s.2]] w fun ex w' => ∃ A' c', ex = .returned (.tuple #[.agg #[.slice A' (textR s).2.1.length c', .int .i64 (textR s).2.2], .string (textR s).1]) ∧ (textR s).2.1.length ≤ c' ∧ RF w' B A' (textR s).2.1 ∧ Below w.heap.size w w' := by
  obtain ⟨l, e⟩ := s
  replace hb : ∀ x ∈ l, Byte x := hb
  replace hc : l.length ≤ c := hc
  replace hF : RF w B A l := hF
  have HBY := Aside0.mk hb
  replace hl : l.length ≤ 1000000 := hl
  have HLL := Aside0.mk hl
  clear hl
  have HC := Aside0.mk hc
  have HF := Aside0.mk hF
  have HBB := Aside0.mk hB
  clear hb hc hF hB
  go_enter Try.func52, Try.ntmps52
  go_upto_region 1 with fail
  have hW1 := below_alloc (Below.refl w.heap.size w) (Obj.cells #[Value.slice A l.length c, Value.int IntKind.i64 e] 83)
  have hN1 := blk_new w (Obj.cells #[Value.slice A l.length c, Value.int IntKind.i64 e] 83)
  have hS1 : (w.alloc (Obj.cells #[Value.slice A l.length c, Value.int IntKind.i64 e] 83)).heap.size = w.heap.size + 1 := World.size_alloc _ _
  obtain ⟨g, hg⟩ : ∃ g, g = w.heap.size := ⟨_, rfl⟩
  rw [← hg] at hN1 hS1 ⊢
  generalize w.alloc (Obj.cells #[Value.slice A l.length c, Value.int IntKind.i64 e] 83) = W1 at hW1 hN1 hS1 ⊢
  have hW2 := below_alloc (Below.refl W1.heap.size W1) (Obj.cells #[Value.slice none 0 0, Value.int IntKind.i64 0] 83)
  have hN2 := blk_new W1 (Obj.cells #[Value.slice none 0 0, Value.int IntKind.i64 0] 83)
  rw [hS1] at hN2
  generalize W1.alloc (Obj.cells #[Value.slice none 0 0, Value.int IntKind.i64 0] 83) = W2 at hW2 hN2 ⊢
  have HB := Aside0.mk (below_step hW1 hW2)
  have K1 := Aside0.mk (blk_below hN1 hW2)
  have K2 := Aside0.mk hN2
  have nF := Aside0.mk (show RF W2 B A l from Kd.F_below (Kd.F_below HF.out hW1) hW2)
  have HG := Aside0.mk (show w.heap.size ≤ g ∧ B ≤ g by have := HBB.out; omega)
  clear HF hW1 hN1 hS1 hW2 hN2 hg
  have HF := nF
  clear nF
  have k0 := blk_cell K1.out 0
  have k1 := blk_cell K1.out 1
  have m0 := blk_cell K2.out 0
  have m1 := blk_cell K2.out 1
  have f0 := blk_frozen K2.out 0
  have f1 := blk_frozen K2.out 1
  by_cases he : e = 0
  · subst he
    by_cases hz : l.length = 0
    · have HN := Aside0.mk (show textR (l, 0) = (⟨#[]⟩, (l, 3)) by unfold textR; rw [if_neg (fun h => h rfl), if_pos (.inl hz)])
      have q0 : ((l.length : Int) == 0) = true := by rw [hz]; rfl
      have q1 : (l.length == 0) = true := by rw [hz]; rfl
      clear hz
      go_upto_region 3 with fail
      repeat (go_quiet (fail); try go_upto_region 4 with fail)
      have hb := pw_below_drewN (Below.refl W2.heap.size W2) nq
      generalize W2.drewN nq = W3 at hb ⊢
      clear k0 k1 m0 m1 f0 f1
      have hd_ : Below W2.heap.size W2 W3 := hb
      clear hb
      have hb := hd_
      clear hd_
      have nB := Aside0.mk (below_step HB.out hb)
      have n1 := Aside0.mk (blk_below K1.out hb)
      have n2 := Aside0.mk (blk_below K2.out hb)
      have nF := Aside0.mk (show RF W3 B A l from Kd.F_below HF.out hb)
      clear hb HB K1 K2 HF
      have HB := nB
      have K1 := n1
      have K2 := n2
      have HF := nF
      clear nB n1 n2 nF
      have k0 := blk_cell K1.out 0
      have k1 := blk_cell K1.out 1
      have m0 := blk_cell K2.out 0
      have m1 := blk_cell K2.out 1
      have f0 := blk_frozen K2.out 0
      have f1 := blk_frozen K2.out 1
      go_wp2_with fail
      clear k0 k1 m0 m1 f0 f1
      refine bodyPost_ret (results_ct rfl _ _ (g + 1) 83 #[.slice A l.length c, .int .i64 3] (0, 0) _ rfl (put2_heap K2.out _ _) Try.underlying83 rfl (by kernel_rfl)) rfl ?_
      rw [HN.out]
      exact ⟨A, c, rfl, HC.out, Kd.F_step HF.out (fun k hk _ => put2_far _ _ _ _ (by have := HG.out; have := hk; omega)), put2_below HB.out (by have := HG.out; omega) _ _⟩
    · have hpos : 0 < l.length := by omega
      obtain ⟨ad, e1, hx0⟩ := Kd.at_int (Kd.F_now HF.out) 0 (by decide) (by omega)
      subst e1
      have ead : ad.add ((0 : Int).toNat) = ad := by cases ad; rfl
      rw [ead] at hx0
      have q0 : ((l.length : Int) == 0) = false := beq_eq_false_iff_ne.mpr (by omega)
      have q1 : (l.length == 0) = false := beq_eq_false_iff_ne.mpr (by omega)
      have p1 := eq_true hpos
      have hw : wrap64 ((l.length : Int) - 1) = (l.length : Int) - 1 := sub1w HLL.out
      have hby := rd_byte l HBY.out 0
      have hwr : wrap64 (rd l 0) = rd l 0 := wrap_id (by have := hby.1; omega) (by have := hby.2; omega)
      have HB0 := Aside0.mk hby
      have HPOS := Aside0.mk hpos
      clear hz ead hby hpos
      by_cases hlt : (l.length : Int) - 1 < rd l 0
      · have HN := Aside0.mk (show textR (l, 0) = (⟨#[]⟩, (l, 3)) by unfold textR; rw [if_neg (fun h => h rfl), if_pos (.inr hlt)])
        have b1 : decide ((l.length : Int) - 1 < rd l 0) = true := decide_eq_true hlt
        clear hlt
        go_upto_region 3 with fail
        repeat (go_quiet (fail); try go_upto_region 4 with fail)
        have hb := pw_below_drewN (Below.refl W2.heap.size W2) nq
        generalize W2.drewN nq = W3 at hb ⊢
        clear k0 k1 m0 m1 f0 f1 hx0
        have hd_ : Below W2.heap.size W2 W3 := hb
        clear hb
        have hb := hd_
        clear hd_
        have nB := Aside0.mk (below_step HB.out hb)
        have n1 := Aside0.mk (blk_below K1.out hb)
        have n2 := Aside0.mk (blk_below K2.out hb)
        have nF := Aside0.mk (show RF W3 B (some ad) l from Kd.F_below HF.out hb)
        clear hb HB K1 K2 HF
        have HB := nB
        have K1 := n1
        have K2 := n2
        have HF := nF
        clear nB n1 n2 nF
        have k0 := blk_cell K1.out 0
        have k1 := blk_cell K1.out 1
        have m0 := blk_cell K2.out 0
        have m1 := blk_cell K2.out 1
        have f0 := blk_frozen K2.out 0
        have f1 := blk_frozen K2.out 1
        go_wp2_with fail
        clear k0 k1 m0 m1 f0 f1
        refine bodyPost_ret (results_ct rfl _ _ (g + 1) 83 #[.slice (some ad) l.length c, .int .i64 3] (0, 0) _ rfl (put2_heap K2.out _ _) Try.underlying83 rfl (by kernel_rfl)) rfl ?_
        rw [HN.out]
        exact ⟨some ad, c, rfl, HC.out, Kd.F_step HF.out (fun k hk _ => put2_far _ _ _ _ (by have := HG.out; have := hk; omega)), put2_below HB.out (by have := HG.out; omega) _ _⟩
      · have HN := Aside0.mk (show textR (l, 0) = (strOfNums ((l.drop 1).take (rd l 0).toNat), (l.drop (1 + (rd l 0).toNat), 0)) by unfold textR; rw [if_neg (fun h => h rfl), if_neg (fun h => h.elim (Nat.ne_of_gt HPOS.out) hlt)])
        have b1 : decide ((l.length : Int) - 1 < rd l 0) = false := decide_eq_false hlt
        obtain ⟨m, hm⟩ : ∃ m : Nat, rd l 0 = (m : Int) := ⟨(rd l 0).toNat, by have := HB0.out.1; omega⟩
        have HM := Aside0.mk (show m ≤ 255 ∧ m + 1 ≤ l.length by have := HB0.out.2; have := HPOS.out; omega)
        rw [hm, Int.toNat_natCast] at HN
        rw [hm] at hx0 hwr b1
        clear hlt hm HB0
        have HX0 := Aside0.mk hx0
        go_upto_region 3 with fail
        repeat (go_quiet (fail); try go_upto_region 5 with fail)
        have hd_ := pw_below_drewN (Below.refl W2.heap.size W2) nq
        generalize W2.drewN nq = W3 at hd_ ⊢
        clear k0 k1 m0 m1 f0 f1 hx0
        have nX := Aside0.mk ((hd_.cell (World.block_lt_of_cell? _ _ HX0.out)).trans HX0.out)
        clear HX0
        have HX0 := nX
        clear nX
        have hb := hd_
        clear hd_
        have nB := Aside0.mk (below_step HB.out hb)
        have n1 := Aside0.mk (blk_below K1.out hb)
        have n2 := Aside0.mk (blk_below K2.out hb)
        have nF := Aside0.mk (show RF W3 B (some ad) l from Kd.F_below HF.out hb)
        clear hb HB K1 K2 HF
        have HB := nB
        have K1 := n1
        have K2 := n2
        have HF := nF
        clear nB n1 n2 nF
        have k0 := blk_cell K1.out 0
        have k1 := blk_cell K1.out 1
        have m0 := blk_cell K2.out 0
        have m1 := blk_cell K2.out 1
        have f0 := blk_frozen K2.out 0
        have f1 := blk_frozen K2.out 1
        have hx0 := HX0.out
        go_upto_region 6 with fail
        clear k0 k1 m0 m1 f0 f1 hx0 HX0 q0 q1 b1 hw
        have hD := below_drew1 (Below.refl W3.heap.size W3)
        have hd_ := hD
        have nF := Aside0.mk (show RF W3.drew B (some ad) l from Kd.F_below HF.out hD)
        have nB := Aside0.mk (below_step HB.out hD)
        have n1 := Aside0.mk (blk_below K1.out hD)
        have n2 := Aside0.mk (blk_below K2.out hD)
        obtain ⟨i0, hi0, _, hsz, _⟩ := info_parts info5
        have hwa : wrap64 (1 + (m : Int)) = 1 + (m : Int) := wrap_id (by omega) (by have := HM.out; omega)
        have hcutM := cut_mid (P := Try.prog) 43 5 .i64 .i64 Try.underlying43 hi0 1 hsz (some ad) l.length c 1 (1 + (m : Int)) (by decide) (by omega) (by have := HM.out; omega) HC.out
        have hcutD := cut_from (P := Try.prog) 43 5 .i64 Try.underlying43 hi0 1 hsz (some ad) l.length c (1 + (m : Int)) (by omega) (by have := HM.out; omega)
        have t1 : (1 + (m : Int)).toNat = 1 + m := by omega
        have t2 : (1 : Int).toNat = 1 := rfl
        rw [t1, t2, show 1 + m - 1 = m by omega] at hcutM
        rw [t1] at hcutD
        obtain ⟨AM, hAM⟩ : ∃ A1, A1 = (if c = 1 then (some ad : Option Addr) else (some ad : Option Addr).map (·.add (1 * 1))) := ⟨_, rfl⟩
        obtain ⟨AD, hAD⟩ : ∃ A1, A1 = (if c = 1 + m then (some ad : Option Addr) else (some ad : Option Addr).map (·.add ((1 + m) * 1))) := ⟨_, rfl⟩
        rw [← hAM] at hcutM
        rw [← hAD] at hcutD
        have hFM := Kd.F_imp nF.out (fun W' h => Kd.C_take (m := m) (Kd.C_drop (m := 1) (c := c) h (by have := HM.out; omega) HC.out) (by rw [List.length_drop]; have := HM.out; omega))
        replace hFM : RF W3.drew B AM ((l.drop 1).take m) := by rw [hAM]; exact hFM
        have lM : ((l.drop 1).take m).length = m := by rw [List.length_take, List.length_drop]; have := HM.out; omega
        obtain ⟨st, hst⟩ : ∃ st, strOfNums ((l.drop 1).take m) = st := ⟨_, rfl⟩
        have HCV := Aside0.mk (fun (W' : World) (h : RF W' B AM ((l.drop 1).take m)) => (by have hv := Kd.C_string (P := Try.prog) (c := c - 1) Try.underlying43 Try.underlying5 Try.underlying9 (Kd.F_now h); rw [lM, hst] at hv; exact hv : (convert 43 9 (.slice AM m (c - 1))).run Try.prog W' = .ok (.string st) W'))
        have hN := HN.out
        rw [hst] at hN
        clear HN
        have HN := Aside0.mk hN
        have hFD := Kd.F_cut (m := 1 + m) (c := c) nF.out (by have := HM.out; omega) HC.out
        replace hFD : RF W3.drew B AD (l.drop (1 + m)) := by rw [hAD]; exact hFD
        have nD := Aside0.mk hFD
        have nM := Aside0.mk hFM
        clear hN hst hFD hFM lM hAM hAD t1 t2 hi0 hsz hD hd_ HB K1 K2 HF
        refine start_ (n := 14) (S := fun w' => w'.cell? ⟨g, 0, none⟩ = some (.slice (some ad) l.length c) ∧ (convert 43 9 (.slice AM m (c - 1))).run Try.prog w' = .ok (.string st) w') (ds := []) #[false, false, false, false, false, false, false, false, false, false, false, false, false, false] (by kernel_rfl) rfl rfl ⟨(blk_cell n1.out 0).trans rfl, HCV.out _ nM.out⟩ (fun hHeld => ?_); refine with_tabW rtext.tab6 rtext.bits6 (fun HT_ HW_ => ?_)
        generalize W3.drew = U0 at nF nB n1 n2 nD nM hHeld ⊢
        have HF := nF
        have HB := nB
        have K1 := n1
        have K2 := n2
        have FD := nD
        have FM := nM
        clear nF nB n1 n2 nD nM
        refine pure_ (i := 0) (N := some 35) (v := ?_) (a' := ?_) #[true, false, false, false, false, false, false, false, false, false, false, false, false, false] rfl rfl (any_of HT_.out (by kernel_rfl)) (fun _ _ _ h => h) (Or.inl ⟨by rfl, ?_⟩) ?_ ?_
        rotate_left
        · intro w'
          go_simp
          with_reducible rfl
        rotate_left
        · simp only [Act.put, List.setIfInBounds_toArray, List.set_cons_zero, List.set_cons_succ, i64_w, i32_w]
          rfl
        refine take_ (i := 1) (N := some 36) (v := ?_) (a' := ?_) #[true, true, false, false, false, false, false, false, false, false, false, false, false, false] rfl rfl (take_ofW HT_.out HW_.out (by kernel_rfl)) (fun _ _ _ h => h) (Or.inl ⟨by rfl, ?_⟩) hHeld ?_ ?_
        rotate_left
        · rintro w' ⟨s0, s1⟩
          go_simp
          with_reducible rfl
        rotate_left
        · simp only [Act.put, List.setIfInBounds_toArray, List.set_cons_zero, List.set_cons_succ, i64_w, i32_w]
          rfl
        refine pure_ (i := 2) (N := some 37) (v := ?_) (a' := ?_) #[true, true, true, false, false, false, false, false, false, false, false, false, false, false] rfl rfl (any_of HT_.out (by kernel_rfl)) (fun _ _ _ h => h) (Or.inl ⟨by rfl, ?_⟩) ?_ ?_
        rotate_left
        · intro w'
          go_simp
          with_reducible rfl
        rotate_left
        · simp only [Act.put, List.setIfInBounds_toArray, List.set_cons_zero, List.set_cons_succ, i64_w, i32_w]
          rfl
        refine pure_ (i := 3) (N := some 38) (v := ?_) (a' := ?_) #[true, true, true, true, false, false, false, false, false, false, false, false, false, false] rfl rfl (any_of HT_.out (by kernel_rfl)) (fun _ _ _ h => h) (Or.inl ⟨by rfl, ?_⟩) ?_ ?_
        rotate_left
        · intro w'
          go_simp
          with_reducible rfl
        rotate_left
        · simp only [Act.put, List.setIfInBounds_toArray, List.set_cons_zero, List.set_cons_succ, i64_w, i32_w]
          rfl
        refine pure_ (i := 4) (N := some 39) (v := ?_) (a' := ?_) #[true, true, true, true, true, false, false, false, false, false, false, false, false, false] rfl rfl (any_of HT_.out (by kernel_rfl)) (fun _ _ _ h => h) (Or.inl ⟨by rfl, ?_⟩) ?_ ?_
        rotate_left
        · intro w'
          go_simp
          with_reducible rfl
        rotate_left
        · simp only [Act.put, List.setIfInBounds_toArray, List.set_cons_zero, List.set_cons_succ, i64_w, i32_w]
          rfl
        refine pure_ (i := 5) (N := some 40) (v := ?_) (a' := ?_) #[true, true, true, true, true, true, false, false, false, false, false, false, false, false] rfl rfl (any_of HT_.out (by kernel_rfl)) (fun _ _ _ h => h) (Or.inl ⟨by rfl, ?_⟩) ?_ ?_
        rotate_left
        · intro w'
          go_simp
          with_reducible rfl
        rotate_left
        · simp only [Act.put, List.setIfInBounds_toArray, List.set_cons_zero, List.set_cons_succ, i64_w, i32_w]
          rfl
        refine pure_ (i := 6) (N := some 41) (v := ?_) (a' := ?_) #[true, true, true, true, true, true, true, false, false, false, false, false, false, false] rfl rfl (any_of HT_.out (by kernel_rfl)) (fun _ _ _ h => h) (Or.inl ⟨by rfl, ?_⟩) ?_ ?_
        rotate_left
        · intro w'
          go_simp
          with_reducible rfl
        rotate_left
        · simp only [Act.put, List.setIfInBounds_toArray, List.set_cons_zero, List.set_cons_succ, i64_w, i32_w]
          rfl
        refine take_ (i := 7) (N := some 42) (v := ?_) (a' := ?_) #[true, true, true, true, true, true, true, true, false, false, false, false, false, false] rfl rfl (take_ofW HT_.out HW_.out (by kernel_rfl)) (fun _ _ _ h => h) (Or.inl ⟨by rfl, ?_⟩) hHeld ?_ ?_
        rotate_left
        · rintro w' ⟨s0, s1⟩
          go_simp
          with_reducible rfl
        rotate_left
        · simp only [Act.put, List.setIfInBounds_toArray, List.set_cons_zero, List.set_cons_succ, i64_w, i32_w]
          rfl
        refine pure_ (i := 8) (N := some 43) (v := ?_) (a' := ?_) #[true, true, true, true, true, true, true, true, true, false, false, false, false, false] rfl rfl (any_of HT_.out (by kernel_rfl)) (fun _ _ _ h => h) (Or.inl ⟨by rfl, ?_⟩) ?_ ?_
        rotate_left
        · intro w'
          go_simp
          with_reducible rfl
        rotate_left
        · simp only [Act.put, List.setIfInBounds_toArray, List.set_cons_zero, List.set_cons_succ, i64_w, i32_w]
          rfl
        refine pure_ (i := 9) (N := some 44) (v := ?_) (a' := ?_) #[true, true, true, true, true, true, true, true, true, true, false, false, false, false] rfl rfl (any_of HT_.out (by kernel_rfl)) (fun _ _ _ h => h) (Or.inl ⟨by rfl, ?_⟩) ?_ ?_
        rotate_left
        · intro w'
          go_simp
          with_reducible rfl
        rotate_left
        · simp only [Act.put, List.setIfInBounds_toArray, List.set_cons_zero, List.set_cons_succ, i64_w, i32_w]
          rfl
        refine pure_ (i := 10) (N := some 45) (v := ?_) (a' := ?_) #[true, true, true, true, true, true, true, true, true, true, true, false, false, false] rfl rfl (any_of HT_.out (by kernel_rfl)) (fun _ _ _ h => h) (Or.inl ⟨by rfl, ?_⟩) ?_ ?_
        rotate_left
        · intro w'
          go_simp
          with_reducible rfl
        rotate_left
        · simp only [Act.put, List.setIfInBounds_toArray, List.set_cons_zero, List.set_cons_succ, i64_w, i32_w]
          rfl
        refine take_ (i := 11) (N := some 46) (v := ?_) (a' := ?_) #[true, true, true, true, true, true, true, true, true, true, true, true, false, false] rfl rfl (take_ofW HT_.out HW_.out (by kernel_rfl)) (fun _ _ _ h => h) (Or.inl ⟨by rfl, ?_⟩) hHeld ?_ ?_
        rotate_left
        · rintro w' ⟨s0, s1⟩
          go_simp
          with_reducible rfl
        rotate_left
        · simp only [Act.put, List.setIfInBounds_toArray, List.set_cons_zero, List.set_cons_succ, i64_w, i32_w]
          rfl
        refine one_ (i := 12) (N := none) #[true, true, true, true, true, true, true, true, true, true, true, true, true, false] rfl rfl (one_of HT_.out (by kernel_rfl)) (by decide) (fun K hK => ?_)
        have m0 := blk_cell K2.out 0
        have m1 := blk_cell K2.out 1
        have f0 := blk_frozen K2.out 0
        have f1 := blk_frozen K2.out 1
        refine skip_step (w1 := ((U0.setCell ⟨g + 1, 0, none⟩ (Value.slice AD (l.length - (1 + m)) (c - (1 + m)))).setCell ⟨g + 1, 1, none⟩ (Value.int IntKind.i64 0))) (by rfl) rfl (by first | (go_simp; done) | (go_simp; rfl)) ?_
        clear m0 m1 f0 f1
        have nM := Aside0.mk (show RF ((U0.setCell ⟨g + 1, 0, none⟩ (Value.slice AD (l.length - (1 + m)) (c - (1 + m)))).setCell ⟨g + 1, 1, none⟩ (Value.int IntKind.i64 0)) B AM ((l.drop 1).take m) from Kd.F_step FM.out (fun k hk _ => put2_far _ _ _ _ (by have := HG.out; have := hk; omega)))
        have nD := Aside0.mk (show RF ((U0.setCell ⟨g + 1, 0, none⟩ (Value.slice AD (l.length - (1 + m)) (c - (1 + m)))).setCell ⟨g + 1, 1, none⟩ (Value.int IntKind.i64 0)) B AD (l.drop (1 + m)) from Kd.F_step FD.out (fun k hk _ => put2_far _ _ _ _ (by have := HG.out; have := hk; omega)))
        have n1 := Aside0.mk ((put2_far U0 (g + 1) (Value.slice AD (l.length - (1 + m)) (c - (1 + m))) (Value.int IntKind.i64 0) (show g ≠ g + 1 by omega)).trans K1.out)
        have n2 := Aside0.mk (put2_heap K2.out (Value.slice AD (l.length - (1 + m)) (c - (1 + m))) (Value.int IntKind.i64 0))
        have nB := Aside0.mk (put2_below HB.out (show w.heap.size ≤ g + 1 by have := HG.out; omega) (Value.slice AD (l.length - (1 + m)) (c - (1 + m))) (Value.int IntKind.i64 0))
        clear HF HB K1 K2 FD FM
        generalize ((U0.setCell ⟨g + 1, 0, none⟩ (Value.slice AD (l.length - (1 + m)) (c - (1 + m)))).setCell ⟨g + 1, 1, none⟩ (Value.int IntKind.i64 0)) = U1 at nM nD n1 n2 nB ⊢
        have HB := nB
        have K1 := n1
        have K2 := n2
        have FD := nD
        have FM := nM
        clear nB n1 n2 nD nM
        refine hK.out _ _ ⟨(blk_cell K1.out 0).trans rfl, HCV.out _ FM.out⟩ (fun hHeld => ?_)
        clear hK K
        refine pure_ (i := 13) (N := some 3) (v := ?_) (a' := ?_) #[true, true, true, true, true, true, true, true, true, true, true, true, true, true] rfl rfl (any_of HT_.out (by kernel_rfl)) (fun _ _ _ h => h) (Or.inl ⟨by rfl, ?_⟩) ?_ ?_
        rotate_left
        · intro w'
          go_simp
          with_reducible rfl
        rotate_left
        · simp only [Act.put, List.setIfInBounds_toArray, List.set_cons_zero, List.set_cons_succ, i64_w, i32_w]
          rfl
        refine done_ (done_of HT_.out (by kernel_rfl)) ?_
        clear hHeld HT_ HW_ HCV
        go_wp2_with fail
        clear hcutM hcutD hwa hwr
        refine bodyPost_ret (results_ct rfl _ _ (g + 1) 83 #[.slice AD (l.length - (1 + m)) (c - (1 + m)), .int .i64 0] (0, 0) _ rfl K2.out Try.underlying83 rfl (by kernel_rfl)) rfl ?_
        rw [HN.out]
        have hdl : (l.drop (1 + m)).length = l.length - (1 + m) := List.length_drop
        exact ⟨AD, c - (1 + m), by rw [hdl]; rfl, by show (l.drop (1 + m)).length ≤ _; rw [hdl]; have := HC.out; omega, FD.out, HB.out⟩
  · have HN := Aside0.mk (show textR (l, e) = (⟨#[]⟩, (l, e)) from if_pos he)
    have hee : (e != 0) = true := bne_iff_ne.mpr he
    clear he
    go_wp2_with fail
    clear k0 k1 m0 m1 f0 f1
    refine bodyPost_ret (results_ct rfl _ _ (g + 1) 83 #[.slice A l.length c, .int .i64 e] (0, 0) _ rfl (put2_heap K2.out _ _) Try.underlying83 rfl (by kernel_rfl)) rfl ?_
    rw [HN.out]
    exact ⟨A, c, rfl, HC.out, Kd.F_step HF.out (fun k hk _ => put2_far _ _ _ _ (by have := HG.out; have := hk; omega)), put2_below HB.out (by have := HG.out; omega) _ _⟩
end Go.Proofs.Ytgbjinonlfhciaa.MBk
