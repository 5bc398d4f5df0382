/- The contract of the reference's Get: it tells what the code's does. -/
import Derived.Test.YtgbjinonlfhciaaHandE15
import Derived.Test.YtgbjinonlfhciaaPutsR
namespace Go.Proofs.Ytgbjinonlfhciaa.BkV
open Go.RowKit Go.Proofs.Ytgbjinonlfhciaa.MBk Go.Proofs.YtgbjinonlfhciaaW.PrintWords Go.Proofs.YtgbjinonlfhciaaW.PrintLast
theorem run_eq (b : List Int) : runT b = (((numR 1 (b, 0)).1, (numR 2 (numR 1 (b, 0)).2).1, (readP (numR 1 (numR 2 (numR 1 (b, 0)).2).2).1.toNat (numR 1 (numR 2 (numR 1 (b, 0)).2).2).2).1), (readP (numR 1 (numR 2 (numR 1 (b, 0)).2).2).1.toNat (numR 1 (numR 2 (numR 1 (b, 0)).2).2).2).2) := rfl
theorem text_stuck {s : St} (h : s.2 ≠ 0) : textR s = (⟨#[]⟩, s) := by unfold textR; rw [if_pos h]
theorem pairs_stuck : ∀ (m : Nat) {s : St}, s.2 ≠ 0 → (readP m s).2 = s
  | 0, _, _ => rfl
  | m + 1, s, h => by
    have e : (textR (textR s).2).2 = s := by rw [text_stuck h, text_stuck h]
    rw [readP, e]
    exact pairs_stuck m h
theorem toList_ne {a b : ByteArray} (h : a ≠ b) : (a.toList != b.toList) = true := by
  rw [bne_iff_ne]
  intro he
  rw [Lib.toList_data, Lib.toList_data] at he
  refine h ?_
  cases a
  cases b
  exact congrArg ByteArray.mk (Array.toList_inj.mp he)
end Go.Proofs.Ytgbjinonlfhciaa.BkV
namespace Go.Proofs.Ytgbjinonlfhciaa.MBk
open Go.RowKit Go.Proofs.Ytgbjinonlfhciaa.BkV Go.Proofs.YtgbjinonlfhciaaW.PrintWords Go.Proofs.YtgbjinonlfhciaaW.PrintLast Go.Proofs.YtgbjinonlfhciaaW.PrintMore
set_option linter.unusedVariables false
set_option linter.unusedSimpArgs false
theorem put1_far (w : World) (g i : Nat) (a : Value) {q : Nat} (h : q ≠ g) : (w.setCell ⟨g, i, none⟩ a).heap[q]? = w.heap[q]? := heap_setCell_other _ ⟨g, i, none⟩ q a h
set_option maxHeartbeats 8000000 in
set_option maxRecDepth 100000 in
theorem ref_Get (body : List Int) (A : Option Addr) (c : Nat) (w : World) (hC : Kd.C (Kd.int .u8) w A body.length body) (hc : body.length ≤ c) (hby : ∀ x ∈ body, Byte x) (hl : body.length ≤ 100000) :
    Calls Try.prog 23 #[.slice A body.length c] w fun e w' => ∃ v, e = .returned (.tuple #[.agg #[.int .i64 (getT body).1.1, .int .i64 (getT body).1.2.1, v], .int .i64 (getT body).2]) ∧ Kd.R k27 27 w' w.heap.size (fun _ => True) v (getT body).1.2.2 ∧ Below w.heap.size w w' := by
  have HF := Aside0.mk (show RF w w.heap.size A body from Kd.C_F (Kd.heap_int _) hC)
  have HCc := Aside0.mk hc
  have HBY := Aside0.mk hby
  have HBL := Aside0.mk hl
  have HOKA := Aside0.mk (show StOk body.length (body, 0) from ⟨hby, Nat.le_refl _⟩)
  have hrun := run_eq body
  obtain ⟨res, hres⟩ : ∃ r, getT body = r := ⟨_, rfl⟩
  rw [hres]
  have HRES := Aside0.mk hres
  have HRUN := Aside0.mk hrun
  obtain ⟨B, hB⟩ : ∃ b, b = w.heap.size := ⟨_, rfl⟩
  rw [← hB] at HF
  have HBW := Aside0.mk hB
  clear hC hc hby hl hres hrun
  go_enter Try.func23, Try.ntmps23
  go_upto_region 2 with fail
  have hW1 := below_alloc (Below.refl w.heap.size w) (Obj.cells #[Value.int IntKind.i64 0, Value.int IntKind.i64 0, Value.slice none 0 0] 42)
  have hN1 := blk_new w (Obj.cells #[Value.int IntKind.i64 0, Value.int IntKind.i64 0, Value.slice none 0 0] 42)
  have hS1 : (w.alloc (Obj.cells #[Value.int IntKind.i64 0, Value.int IntKind.i64 0, Value.slice none 0 0] 42)).heap.size = w.heap.size + 1 := World.size_alloc _ _
  obtain ⟨g, hg⟩ : ∃ g, g = w.heap.size := ⟨_, rfl⟩
  rw [← hg] at hN1 hS1 ⊢
  generalize w.alloc (Obj.cells #[Value.int IntKind.i64 0, Value.int IntKind.i64 0, Value.slice none 0 0] 42) = W1 at hW1 hN1 hS1 ⊢
  have hW2 := below_alloc (Below.refl W1.heap.size W1) (Obj.cells #[Value.int IntKind.i64 0, Value.int IntKind.i64 0, Value.slice none 0 0] 42)
  have hN2 := blk_new W1 (Obj.cells #[Value.int IntKind.i64 0, Value.int IntKind.i64 0, Value.slice none 0 0] 42)
  rw [hS1] at hN2
  generalize W1.alloc (Obj.cells #[Value.int IntKind.i64 0, Value.int IntKind.i64 0, Value.slice none 0 0] 42) = W2 at hW2 hN2 ⊢
  have HB := Aside0.mk (below_step hW1 hW2)
  have K2 := Aside0.mk (blk_below hN1 hW2)
  have K4 := Aside0.mk hN2
  have nF := Aside0.mk (show RF W2 B A body from Kd.F_below (Kd.F_below HF.out hW1) hW2)
  have HG := Aside0.mk (show B = g ∧ w.heap.size = g by omega)
  clear HF hW1 hN1 hS1 hW2 hN2 hg hB
  have HF := nF
  clear nF
  by_cases hbig : 246 < body.length
  · skip
    have b1 : decide ((246 : Int) < (body.length : Int)) = true := decide_eq_true (by omega)
    have b1n : decide (246 < body.length) = true := decide_eq_true hbig
    have HRES2 := Aside0.mk ((getT_big body HBY.out hbig).symm.trans HRES.out)
    clear hbig
    have c0 := blk_cell K2.out 0
    have c1 := blk_cell K2.out 1
    have c2 := blk_cell K2.out 2
    have f0 := blk_frozen K2.out 0
    have f1 := blk_frozen K2.out 1
    have f2 := blk_frozen K2.out 2
    go_wp2_with fail
    clear c0 c1 c2 f0 f1 f2
    refine bodyPost_ret (results_ct rfl _ _ g 42 #[Value.int IntKind.i64 0, Value.int IntKind.i64 0, Value.slice none 0 0] (0, 0) _ rfl (put3_heap K2.out _ _ _) Try.underlying42 rfl (by kernel_rfl)) rfl ?_
    rw [← HRES2.out]
    exact ⟨_, rfl, Kd.R_nil _ _ _ _ _, put3_below HB.out (by have := HG.out; omega) _ _ _⟩
  · skip
    have b1 : decide ((246 : Int) < (body.length : Int)) = false := decide_eq_false (by omega)
    have b1n : decide (246 < body.length) = false := decide_eq_false hbig
    clear hbig
    go_wp2_with fail
    go_at_call 51
    refine (rnum_Num B (body, 0) 1 (by decide) A c W2 HF.out HCc.out HOKA.out.1 (by have := HB.out.size; have := HBW.out; omega)).mono ?_
    rintro ex W3 ⟨A1, c1, rfl, hc1, hf1, hb⟩
    have n_HB := Aside0.mk (below_step HB.out hb)
    have n_K2 := Aside0.mk (blk_below K2.out hb)
    have n_K4 := Aside0.mk (blk_below K4.out hb)
    have n_HF := Aside0.mk (show RF W3 B A body from Kd.F_below HF.out hb)
    clear HB K2 K4 HF hb b1 b1n
    have HB := n_HB
    have K2 := n_K2
    have K4 := n_K4
    have HF := n_HF
    clear n_HB n_K2 n_K4 n_HF
    obtain ⟨d, hd⟩ : ∃ d, (numR 1 (body, 0)).1 = d := ⟨_, rfl⟩
    obtain ⟨s1, hs1⟩ : ∃ s, (numR 1 (body, 0)).2 = s := ⟨_, rfl⟩
    have hok := num_ok HOKA.out 1
    rw [hs1] at hok hc1 hf1
    rw [hd, hs1] at HRUN
    rw [hd, hs1]
    have HOK1 := Aside0.mk hok
    have HC1 := Aside0.mk hc1
    have HF1 := Aside0.mk hf1
    clear hd hs1 hok hc1 hf1
    go_upto_region 5 with fail
    have hW := below_alloc (Below.refl W3.heap.size W3) (Obj.cells #[Value.slice A1 s1.1.length c1, Value.int IntKind.i64 s1.2] 83)
    have hN := blk_new W3 (Obj.cells #[Value.slice A1 s1.1.length c1, Value.int IntKind.i64 s1.2] 83)
    have hS : (W3.alloc (Obj.cells #[Value.slice A1 s1.1.length c1, Value.int IntKind.i64 s1.2] 83)).heap.size = W3.heap.size + 1 := World.size_alloc _ _
    obtain ⟨g5, hg5⟩ : ∃ g, g = W3.heap.size := ⟨_, rfl⟩
    rw [← hg5] at hN hS ⊢
    generalize W3.alloc (Obj.cells #[Value.slice A1 s1.1.length c1, Value.int IntKind.i64 s1.2] 83) = W4 at hW hN hS ⊢
    have hlt4 := blk_lt K4.out
    have n_HB := Aside0.mk (below_step HB.out hW)
    have n_K2 := Aside0.mk (blk_below K2.out hW)
    have n_K4 := Aside0.mk (blk_below K4.out hW)
    have n_HF := Aside0.mk (show RF W4 B A body from Kd.F_below HF.out hW)
    have n_HF1 := Aside0.mk (show RF W4 B A1 s1.1 from Kd.F_below HF1.out hW)
    clear HB K2 K4 HF HF1
    have HB := n_HB
    have K2 := n_K2
    have K4 := n_K4
    have HF := n_HF
    have HF1 := n_HF1
    clear n_HB n_K2 n_K4 n_HF n_HF1
    have K5 := Aside0.mk hN
    have HGG := Aside0.mk (show g + 1 < g5 by omega)
    obtain ⟨b5, hb5⟩ : ∃ b, b = W4.heap.size := ⟨_, rfl⟩
    have HBB := Aside0.mk (show g5 < b5 by omega)
    have HZ := Aside0.mk (show b5 ≤ W4.heap.size by omega)
    clear hW hN hS hg5 hb5 hlt4
    have k0 := blk_cell K5.out 0
    have k1 := blk_cell K5.out 1
    go_wp2_with fail
    go_at_call 51
    clear k0 k1
    refine (rnum_Num B s1 2 (by decide) A1 c1 W4 HF1.out HC1.out HOK1.out.1 (by have := HB.out.size; have := HBW.out; omega)).mono ?_
    rintro ex W5 ⟨A2, c2, rfl, hc1, hf1, hb⟩
    have n_HB := Aside0.mk (below_step HB.out hb)
    have n_K2 := Aside0.mk (blk_below K2.out hb)
    have n_K4 := Aside0.mk (blk_below K4.out hb)
    have n_HF := Aside0.mk (show RF W5 B A body from Kd.F_below HF.out hb)
    have n_K5 := Aside0.mk (blk_below K5.out hb)
    have n_HZ := Aside0.mk (Nat.le_trans HZ.out (hb).size)
    clear HB K2 K4 HF K5 HZ hb HF1 HC1
    have HB := n_HB
    have K2 := n_K2
    have K4 := n_K4
    have HF := n_HF
    have K5 := n_K5
    have HZ := n_HZ
    clear n_HB n_K2 n_K4 n_HF n_K5 n_HZ
    obtain ⟨n, hn⟩ : ∃ d, (numR 2 s1).1 = d := ⟨_, rfl⟩
    obtain ⟨s2, hs2⟩ : ∃ s, (numR 2 s1).2 = s := ⟨_, rfl⟩
    have hok := num_ok HOK1.out 2
    rw [hs2] at hok hc1 hf1
    rw [hn, hs2] at HRUN
    rw [hn, hs2]
    have HOK2 := Aside0.mk hok
    have HC2 := Aside0.mk hc1
    have HF2 := Aside0.mk hf1
    clear hn hs2 hok hc1 hf1 HOK1
    have k0 := blk_cell K5.out 0
    have k1 := blk_cell K5.out 1
    have f0 := blk_frozen K5.out 0
    have f1 := blk_frozen K5.out 1
    go_upto_region 6 with fail
    clear k0 k1 f0 f1
    have n_HB := Aside0.mk (((HB.out).setCell (p := ⟨g5, 0, none⟩) (show w.heap.size ≤ g5 by (have := HG.out; have := HGG.out; have := HBB.out; omega)) (Value.slice A2 s2.1.length c2)).setCell (p := ⟨g5, 1, none⟩) (show w.heap.size ≤ g5 by (have := HG.out; have := HGG.out; have := HBB.out; omega)) (Value.int IntKind.i64 s2.2))
    have n_K2 := Aside0.mk (((put1_far (W5.setCell ⟨g5, 0, none⟩ (Value.slice A2 s2.1.length c2)) g5 1 (Value.int IntKind.i64 s2.2) (show g ≠ g5 by (have := HG.out; have := HGG.out; have := HBB.out; omega))).trans (put1_far W5 g5 0 (Value.slice A2 s2.1.length c2) (show g ≠ g5 by (have := HG.out; have := HGG.out; have := HBB.out; omega)))).trans K2.out)
    have n_K4 := Aside0.mk (((put1_far (W5.setCell ⟨g5, 0, none⟩ (Value.slice A2 s2.1.length c2)) g5 1 (Value.int IntKind.i64 s2.2) (show (g + 1) ≠ g5 by (have := HG.out; have := HGG.out; have := HBB.out; omega))).trans (put1_far W5 g5 0 (Value.slice A2 s2.1.length c2) (show (g + 1) ≠ g5 by (have := HG.out; have := HGG.out; have := HBB.out; omega)))).trans K4.out)
    have n_HF := Aside0.mk (show RF ((W5.setCell ⟨g5, 0, none⟩ (Value.slice A2 s2.1.length c2)).setCell ⟨g5, 1, none⟩ (Value.int IntKind.i64 s2.2)) B A body from Kd.F_step HF.out (fun k hk _ => by have hk' := hk; exact ((put1_far (W5.setCell ⟨g5, 0, none⟩ (Value.slice A2 s2.1.length c2)) g5 1 (Value.int IntKind.i64 s2.2) (show k ≠ g5 by (have := HG.out; have := HGG.out; have := HBB.out; omega))).trans (put1_far W5 g5 0 (Value.slice A2 s2.1.length c2) (show k ≠ g5 by (have := HG.out; have := HGG.out; have := HBB.out; omega))))))
    have n_K5 := Aside0.mk (heap_setCell_same _ g5 1 _ 83 (Value.int IntKind.i64 s2.2) (heap_setCell_same W5 g5 0 _ 83 (Value.slice A2 s2.1.length c2) K5.out))
    have n_HZ := Aside0.mk (Nat.le_trans HZ.out ((((Below.refl 0 W5).setCell (p := ⟨g5, 0, none⟩) (Nat.zero_le _) (Value.slice A2 s2.1.length c2)).setCell (p := ⟨g5, 1, none⟩) (Nat.zero_le _) (Value.int IntKind.i64 s2.2)).size))
    have n_HF2 := Aside0.mk (show RF ((W5.setCell ⟨g5, 0, none⟩ (Value.slice A2 s2.1.length c2)).setCell ⟨g5, 1, none⟩ (Value.int IntKind.i64 s2.2)) B A2 s2.1 from Kd.F_step HF2.out (fun k hk _ => by have hk' := hk; exact ((put1_far (W5.setCell ⟨g5, 0, none⟩ (Value.slice A2 s2.1.length c2)) g5 1 (Value.int IntKind.i64 s2.2) (show k ≠ g5 by (have := HG.out; have := HGG.out; have := HBB.out; omega))).trans (put1_far W5 g5 0 (Value.slice A2 s2.1.length c2) (show k ≠ g5 by (have := HG.out; have := HGG.out; have := HBB.out; omega))))))
    clear HB K2 K4 HF K5 HZ HF2
    generalize ((W5.setCell ⟨g5, 0, none⟩ (Value.slice A2 s2.1.length c2)).setCell ⟨g5, 1, none⟩ (Value.int IntKind.i64 s2.2)) = W6 at n_HB n_K2 n_K4 n_HF n_K5 n_HZ n_HF2 ⊢
    have HB := n_HB
    have K2 := n_K2
    have K4 := n_K4
    have HF := n_HF
    have K5 := n_K5
    have HZ := n_HZ
    have HF2 := n_HF2
    clear n_HB n_K2 n_K4 n_HF n_K5 n_HZ n_HF2
    have k0 := blk_cell K5.out 0
    have k1 := blk_cell K5.out 1
    go_wp2_with fail
    go_at_call 51
    clear k0 k1
    refine (rnum_Num B s2 1 (by decide) A2 c2 W6 HF2.out HC2.out HOK2.out.1 (by have := HB.out.size; have := HBW.out; omega)).mono ?_
    rintro ex W7 ⟨A3, c3, rfl, hc1, hf1, hb⟩
    have n_HB := Aside0.mk (below_step HB.out hb)
    have n_K2 := Aside0.mk (blk_below K2.out hb)
    have n_K4 := Aside0.mk (blk_below K4.out hb)
    have n_HF := Aside0.mk (show RF W7 B A body from Kd.F_below HF.out hb)
    have n_K5 := Aside0.mk (blk_below K5.out hb)
    have n_HZ := Aside0.mk (Nat.le_trans HZ.out (hb).size)
    clear HB K2 K4 HF K5 HZ hb HF2 HC2
    have HB := n_HB
    have K2 := n_K2
    have K4 := n_K4
    have HF := n_HF
    have K5 := n_K5
    have HZ := n_HZ
    clear n_HB n_K2 n_K4 n_HF n_K5 n_HZ
    obtain ⟨cn0, hcn0⟩ : ∃ d, (numR 1 s2).1 = d := ⟨_, rfl⟩
    obtain ⟨s3, hs3⟩ : ∃ s, (numR 1 s2).2 = s := ⟨_, rfl⟩
    have hok := num_ok HOK2.out 1
    have hrg := num1_range HOK2.out
    rw [hcn0] at hrg
    rw [hs3] at hok hc1 hf1
    rw [hcn0, hs3] at HRUN
    rw [hcn0, hs3]
    have HOK3 := Aside0.mk hok
    have HC3 := Aside0.mk hc1
    have HF3 := Aside0.mk hf1
    clear hcn0 hs3 hok hc1 hf1 HOK2
    have k0 := blk_cell K5.out 0
    have k1 := blk_cell K5.out 1
    have f0 := blk_frozen K5.out 0
    have f1 := blk_frozen K5.out 1
    go_upto_region 7 with fail
    clear k0 k1 f0 f1
    have n_HB := Aside0.mk (((HB.out).setCell (p := ⟨g5, 0, none⟩) (show w.heap.size ≤ g5 by (have := HG.out; have := HGG.out; have := HBB.out; omega)) (Value.slice A3 s3.1.length c3)).setCell (p := ⟨g5, 1, none⟩) (show w.heap.size ≤ g5 by (have := HG.out; have := HGG.out; have := HBB.out; omega)) (Value.int IntKind.i64 s3.2))
    have n_K2 := Aside0.mk (((put1_far (W7.setCell ⟨g5, 0, none⟩ (Value.slice A3 s3.1.length c3)) g5 1 (Value.int IntKind.i64 s3.2) (show g ≠ g5 by (have := HG.out; have := HGG.out; have := HBB.out; omega))).trans (put1_far W7 g5 0 (Value.slice A3 s3.1.length c3) (show g ≠ g5 by (have := HG.out; have := HGG.out; have := HBB.out; omega)))).trans K2.out)
    have n_K4 := Aside0.mk (((put1_far (W7.setCell ⟨g5, 0, none⟩ (Value.slice A3 s3.1.length c3)) g5 1 (Value.int IntKind.i64 s3.2) (show (g + 1) ≠ g5 by (have := HG.out; have := HGG.out; have := HBB.out; omega))).trans (put1_far W7 g5 0 (Value.slice A3 s3.1.length c3) (show (g + 1) ≠ g5 by (have := HG.out; have := HGG.out; have := HBB.out; omega)))).trans K4.out)
    have n_HF := Aside0.mk (show RF ((W7.setCell ⟨g5, 0, none⟩ (Value.slice A3 s3.1.length c3)).setCell ⟨g5, 1, none⟩ (Value.int IntKind.i64 s3.2)) B A body from Kd.F_step HF.out (fun k hk _ => by have hk' := hk; exact ((put1_far (W7.setCell ⟨g5, 0, none⟩ (Value.slice A3 s3.1.length c3)) g5 1 (Value.int IntKind.i64 s3.2) (show k ≠ g5 by (have := HG.out; have := HGG.out; have := HBB.out; omega))).trans (put1_far W7 g5 0 (Value.slice A3 s3.1.length c3) (show k ≠ g5 by (have := HG.out; have := HGG.out; have := HBB.out; omega))))))
    have n_K5 := Aside0.mk (heap_setCell_same _ g5 1 _ 83 (Value.int IntKind.i64 s3.2) (heap_setCell_same W7 g5 0 _ 83 (Value.slice A3 s3.1.length c3) K5.out))
    have n_HZ := Aside0.mk (Nat.le_trans HZ.out ((((Below.refl 0 W7).setCell (p := ⟨g5, 0, none⟩) (Nat.zero_le _) (Value.slice A3 s3.1.length c3)).setCell (p := ⟨g5, 1, none⟩) (Nat.zero_le _) (Value.int IntKind.i64 s3.2)).size))
    have n_HF3 := Aside0.mk (show RF ((W7.setCell ⟨g5, 0, none⟩ (Value.slice A3 s3.1.length c3)).setCell ⟨g5, 1, none⟩ (Value.int IntKind.i64 s3.2)) B A3 s3.1 from Kd.F_step HF3.out (fun k hk _ => by have hk' := hk; exact ((put1_far (W7.setCell ⟨g5, 0, none⟩ (Value.slice A3 s3.1.length c3)) g5 1 (Value.int IntKind.i64 s3.2) (show k ≠ g5 by (have := HG.out; have := HGG.out; have := HBB.out; omega))).trans (put1_far W7 g5 0 (Value.slice A3 s3.1.length c3) (show k ≠ g5 by (have := HG.out; have := HGG.out; have := HBB.out; omega))))))
    clear HB K2 K4 HF K5 HZ HF3
    generalize ((W7.setCell ⟨g5, 0, none⟩ (Value.slice A3 s3.1.length c3)).setCell ⟨g5, 1, none⟩ (Value.int IntKind.i64 s3.2)) = W8 at n_HB n_K2 n_K4 n_HF n_K5 n_HZ n_HF3 ⊢
    have HB := n_HB
    have K2 := n_K2
    have K4 := n_K4
    have HF := n_HF
    have K5 := n_K5
    have HZ := n_HZ
    have HF3 := n_HF3
    clear n_HB n_K2 n_K4 n_HF n_K5 n_HZ n_HF3
    obtain ⟨cnt, hcnt⟩ : ∃ m : Nat, cn0 = (m : Int) := ⟨cn0.toNat, by omega⟩
    subst hcnt
    rw [Int.toNat_natCast] at HRUN
    have HCN := Aside0.mk (show cnt ≤ 255 by omega)
    clear hrg
    have k0 := blk_cell K4.out 0
    have k1 := blk_cell K4.out 1
    have k2 := blk_cell K4.out 2
    have f0 := blk_frozen K4.out 0
    have f1 := blk_frozen K4.out 1
    have f2 := blk_frozen K4.out 2
    go_upto_region 8 with fail
    clear k0 k1 k2 f0 f1 f2
    have n_HB := Aside0.mk (((HB.out).setCell (p := ⟨(g + 1), 0, none⟩) (show w.heap.size ≤ (g + 1) by (have := HG.out; have := HGG.out; have := HBB.out; omega)) (Value.int IntKind.i64 d)).setCell (p := ⟨(g + 1), 1, none⟩) (show w.heap.size ≤ (g + 1) by (have := HG.out; have := HGG.out; have := HBB.out; omega)) (Value.int IntKind.i64 n))
    have n_K2 := Aside0.mk (((put1_far (W8.setCell ⟨(g + 1), 0, none⟩ (Value.int IntKind.i64 d)) (g + 1) 1 (Value.int IntKind.i64 n) (show g ≠ (g + 1) by (have := HG.out; have := HGG.out; have := HBB.out; omega))).trans (put1_far W8 (g + 1) 0 (Value.int IntKind.i64 d) (show g ≠ (g + 1) by (have := HG.out; have := HGG.out; have := HBB.out; omega)))).trans K2.out)
    have n_K4 := Aside0.mk (heap_setCell_same _ (g + 1) 1 _ 42 (Value.int IntKind.i64 n) (heap_setCell_same W8 (g + 1) 0 _ 42 (Value.int IntKind.i64 d) K4.out))
    have n_HF := Aside0.mk (show RF ((W8.setCell ⟨(g + 1), 0, none⟩ (Value.int IntKind.i64 d)).setCell ⟨(g + 1), 1, none⟩ (Value.int IntKind.i64 n)) B A body from Kd.F_step HF.out (fun k hk _ => by have hk' := hk; exact ((put1_far (W8.setCell ⟨(g + 1), 0, none⟩ (Value.int IntKind.i64 d)) (g + 1) 1 (Value.int IntKind.i64 n) (show k ≠ (g + 1) by (have := HG.out; have := HGG.out; have := HBB.out; omega))).trans (put1_far W8 (g + 1) 0 (Value.int IntKind.i64 d) (show k ≠ (g + 1) by (have := HG.out; have := HGG.out; have := HBB.out; omega))))))
    have n_K5 := Aside0.mk (((put1_far (W8.setCell ⟨(g + 1), 0, none⟩ (Value.int IntKind.i64 d)) (g + 1) 1 (Value.int IntKind.i64 n) (show g5 ≠ (g + 1) by (have := HG.out; have := HGG.out; have := HBB.out; omega))).trans (put1_far W8 (g + 1) 0 (Value.int IntKind.i64 d) (show g5 ≠ (g + 1) by (have := HG.out; have := HGG.out; have := HBB.out; omega)))).trans K5.out)
    have n_HZ := Aside0.mk (Nat.le_trans HZ.out ((((Below.refl 0 W8).setCell (p := ⟨(g + 1), 0, none⟩) (Nat.zero_le _) (Value.int IntKind.i64 d)).setCell (p := ⟨(g + 1), 1, none⟩) (Nat.zero_le _) (Value.int IntKind.i64 n)).size))
    have n_HF3 := Aside0.mk (show RF ((W8.setCell ⟨(g + 1), 0, none⟩ (Value.int IntKind.i64 d)).setCell ⟨(g + 1), 1, none⟩ (Value.int IntKind.i64 n)) B A3 s3.1 from Kd.F_step HF3.out (fun k hk _ => by have hk' := hk; exact ((put1_far (W8.setCell ⟨(g + 1), 0, none⟩ (Value.int IntKind.i64 d)) (g + 1) 1 (Value.int IntKind.i64 n) (show k ≠ (g + 1) by (have := HG.out; have := HGG.out; have := HBB.out; omega))).trans (put1_far W8 (g + 1) 0 (Value.int IntKind.i64 d) (show k ≠ (g + 1) by (have := HG.out; have := HGG.out; have := HBB.out; omega))))))
    clear HB K2 K4 HF K5 HZ HF3
    generalize ((W8.setCell ⟨(g + 1), 0, none⟩ (Value.int IntKind.i64 d)).setCell ⟨(g + 1), 1, none⟩ (Value.int IntKind.i64 n)) = W9 at n_HB n_K2 n_K4 n_HF n_K5 n_HZ n_HF3 ⊢
    have HB := n_HB
    have K2 := n_K2
    have K4 := n_K4
    have HF := n_HF
    have K5 := n_K5
    have HZ := n_HZ
    have HF3 := n_HF3
    clear n_HB n_K2 n_K4 n_HF n_K5 n_HZ n_HF3
    go_wp2_with fail
    go_loopw [9] (fun i wr => ∃ (j : Nat) (acc : List S27) (s : St) (A1 : Option Addr) (c1 : Nat) (T : Option Addr) (cT : Nat), j ≤ cnt ∧ i = .int .i64 (j : Int) ∧ acc.length = j ∧ (acc ++ (readP (cnt - j) s).1 = (readP cnt s3).1 ∧ (readP (cnt - j) s).2 = (readP cnt s3).2) ∧ (∀ y ∈ acc, y.f0.size ≤ 255 ∧ y.f1.size ≤ 255) ∧ StOk body.length s ∧ s.1.length ≤ c1 ∧ RF wr B A1 s.1 ∧ wr.heap[g5]? = some (.cells #[.slice A1 s.1.length c1, .int .i64 s.2] 83 (0, 0)) ∧ wr.heap[g + 1]? = some (.cells #[.int .i64 d, .int .i64 n, .slice T acc.length cT] 42 (0, 0)) ∧ wr.heap[g]? = some (.cells #[Value.int IntKind.i64 0, Value.int IntKind.i64 0, Value.slice none 0 0] 42 (0, 0)) ∧ Kd.R k27 27 wr b5 (fun k => b5 ≤ k) (.slice T acc.length cT) acc ∧ Below w.heap.size w wr ∧ b5 ≤ wr.heap.size ∧ RF wr B A body)
      (fun i _ => cnt - (intOf i).toNat)
    case atStart => exact ⟨0, [], s3, A3, c3, none, 0, Nat.zero_le _, rfl, rfl, ⟨rfl, rfl⟩, (fun y hy => by cases hy), HOK3.out, HC3.out, HF3.out, K5.out, K4.out, K2.out, Kd.R_nil _ _ _ _ _, HB.out, HZ.out, HF.out⟩
    case round =>
      clear HOK3 HC3 HF3 K5 K4 K2 HB HZ HF
      obtain ⟨j, acc, s, A1, c1, T, cT, hj, rfl, hal, htot, hfp, hok, hc1, hf1, h5, h4, h2, hv, hb, hz, hf⟩ := hrel
      have HAL2 := Aside0.mk hal
      have HTOT := Aside0.mk htot
      have HFP := Aside0.mk hfp
      have HOK := Aside0.mk hok
      have HC1 := Aside0.mk hc1
      have HF1 := Aside0.mk hf1
      have K5 := Aside0.mk h5
      have K4 := Aside0.mk h4
      have K2 := Aside0.mk h2
      have HV := Aside0.mk hv
      have HB := Aside0.mk hb
      have HZ := Aside0.mk hz
      have HF := Aside0.mk hf
      have HAL := Aside0.mk (show acc.length ≤ 255 by have := HCN.out; omega)
      have HJ := Aside0.mk hj
      clear hal htot hfp hok hc1 hf1 h5 h4 h2 hv hb hz hf
      by_cases hgo : j < cnt ∧ s.2 = 0
      · skip
        have b1 : decide ((j : Int) < (cnt : Int)) = true := decide_eq_true (by omega)
        have b1n : decide (j < cnt) = true := decide_eq_true hgo.1
        have q0 : (s.2 == 0) = true := by rw [hgo.2]; rfl
        have HLT := Aside0.mk hgo.1
        clear hgo
        have k0 := blk_cell K5.out 0
        have k1 := blk_cell K5.out 1
        go_upto_region 12 with fail
        clear b1 b1n q0 k0 k1
        have hW := below_alloc (Below.refl wr.heap.size wr) (Obj.cells #[Value.string ⟨#[]⟩, Value.string ⟨#[]⟩] 27)
        have hN := blk_new wr (Obj.cells #[Value.string ⟨#[]⟩, Value.string ⟨#[]⟩] 27)
        have hS : (wr.alloc (Obj.cells #[Value.string ⟨#[]⟩, Value.string ⟨#[]⟩] 27)).heap.size = wr.heap.size + 1 := World.size_alloc _ _
        obtain ⟨g10, hg10⟩ : ∃ g, g = wr.heap.size := ⟨_, rfl⟩
        have hv2 := Kd.R_mono (Kd.R_bound HV.out) (ok' := fun k => b5 ≤ k ∧ k < g10) (fun k hk => ⟨hk.1, by have := hk.2.2.1; omega⟩)
        clear HV
        have HV := Aside0.mk hv2
        clear hv2
        have HG10 := Aside0.mk (show b5 ≤ g10 by have := HZ.out; omega)
        rw [← hg10] at hN hS ⊢
        generalize wr.alloc (Obj.cells #[Value.string ⟨#[]⟩, Value.string ⟨#[]⟩] 27) = U1 at hW hN hS ⊢
        have n_HB := Aside0.mk (below_step HB.out hW)
        have n_K2 := Aside0.mk (blk_below K2.out hW)
        have n_K4 := Aside0.mk (blk_below K4.out hW)
        have n_HF := Aside0.mk (show RF U1 B A body from Kd.F_below HF.out hW)
        have n_K5 := Aside0.mk (blk_below K5.out hW)
        have n_HZ := Aside0.mk (Nat.le_trans HZ.out (hW).size)
        have n_HF1 := Aside0.mk (show RF U1 B A1 s.1 from Kd.F_below HF1.out hW)
        have n_HV := Aside0.mk (Kd.R_below HV.out hW)
        clear HB K2 K4 HF K5 HZ HF1 HV
        have HB := n_HB
        have K2 := n_K2
        have K4 := n_K4
        have HF := n_HF
        have K5 := n_K5
        have HZ := n_HZ
        have HF1 := n_HF1
        have HV := n_HV
        clear n_HB n_K2 n_K4 n_HF n_K5 n_HZ n_HF1 n_HV
        have K10 := Aside0.mk hN
        clear hW hN hS hg10
        have k0 := blk_cell K5.out 0
        have k1 := blk_cell K5.out 1
        go_wp2_with fail
        go_at_call 52
        clear k0 k1
        refine (rnum_Text B s A1 c1 U1 HF1.out HC1.out HOK.out.1 (by have := HOK.out.2; have := HBL.out; omega) (by have := HB.out.size; have := HBW.out; omega)).mono ?_
        rintro ex U2 ⟨A4, c4, rfl, hc1, hf1, hb⟩
        have n_HB := Aside0.mk (below_step HB.out hb)
        have n_K2 := Aside0.mk (blk_below K2.out hb)
        have n_K4 := Aside0.mk (blk_below K4.out hb)
        have n_HF := Aside0.mk (show RF U2 B A body from Kd.F_below HF.out hb)
        have n_K5 := Aside0.mk (blk_below K5.out hb)
        have n_HZ := Aside0.mk (Nat.le_trans HZ.out (hb).size)
        have n_HV := Aside0.mk (Kd.R_below HV.out hb)
        have n_K10 := Aside0.mk (blk_below K10.out hb)
        clear HB K2 K4 HF K5 HZ HV K10 hb HF1 HC1
        have HB := n_HB
        have K2 := n_K2
        have K4 := n_K4
        have HF := n_HF
        have K5 := n_K5
        have HZ := n_HZ
        have HV := n_HV
        have K10 := n_K10
        clear n_HB n_K2 n_K4 n_HF n_K5 n_HZ n_HV n_K10
        obtain ⟨x0, hx0⟩ : ∃ x, (textR s).1 = x := ⟨_, rfl⟩
        obtain ⟨s4, hs4⟩ : ∃ z, (textR s).2 = z := ⟨_, rfl⟩
        have hok := text_ok HOK.out
        have hsz := text_size HOK.out
        rw [hx0] at hsz
        rw [hs4] at hok hc1 hf1
        rw [hx0, hs4]
        have HOK4 := Aside0.mk hok
        have HC4 := Aside0.mk hc1
        have HF4 := Aside0.mk hf1
        have HEx0 := Aside0.mk hx0
        have HEs4 := Aside0.mk hs4
        have HSx0 := Aside0.mk hsz
        clear hx0 hs4 hok hc1 hf1 hsz
        have k0 := blk_cell K5.out 0
        have k1 := blk_cell K5.out 1
        have f0 := blk_frozen K5.out 0
        have f1 := blk_frozen K5.out 1
        have p0 := blk_cell K10.out 0
        have p1 := blk_cell K10.out 1
        have r0 := blk_frozen K10.out 0
        have r1 := blk_frozen K10.out 1
        have ne1 := eq_false (show ¬ g5 = g10 by (have := HG.out; have := HGG.out; have := HBB.out; have := HG10.out; omega))
        have ne2 := eq_false (show ¬ g10 = g5 by (have := HG.out; have := HGG.out; have := HBB.out; have := HG10.out; omega))
        go_upto_region 13 with fail
        clear k0 k1 f0 f1 p0 p1 r0 r1 ne1 ne2
        have n_HB := Aside0.mk ((((HB.out).setCell (p := ⟨g5, 0, none⟩) (show w.heap.size ≤ g5 by (have := HG.out; have := HGG.out; have := HBB.out; have := HG10.out; omega)) (Value.slice A4 s4.1.length c4)).setCell (p := ⟨g5, 1, none⟩) (show w.heap.size ≤ g5 by (have := HG.out; have := HGG.out; have := HBB.out; have := HG10.out; omega)) (Value.int IntKind.i64 s4.2)).setCell (p := ⟨g10, 0, none⟩) (show w.heap.size ≤ g10 by (have := HG.out; have := HGG.out; have := HBB.out; have := HG10.out; omega)) (Value.string x0))
        have n_K2 := Aside0.mk (((put1_far ((U2.setCell ⟨g5, 0, none⟩ (Value.slice A4 s4.1.length c4)).setCell ⟨g5, 1, none⟩ (Value.int IntKind.i64 s4.2)) g10 0 (Value.string x0) (show g ≠ g10 by (have := HG.out; have := HGG.out; have := HBB.out; have := HG10.out; omega))).trans ((put1_far (U2.setCell ⟨g5, 0, none⟩ (Value.slice A4 s4.1.length c4)) g5 1 (Value.int IntKind.i64 s4.2) (show g ≠ g5 by (have := HG.out; have := HGG.out; have := HBB.out; have := HG10.out; omega))).trans (put1_far U2 g5 0 (Value.slice A4 s4.1.length c4) (show g ≠ g5 by (have := HG.out; have := HGG.out; have := HBB.out; have := HG10.out; omega))))).trans K2.out)
        have n_K4 := Aside0.mk (((put1_far ((U2.setCell ⟨g5, 0, none⟩ (Value.slice A4 s4.1.length c4)).setCell ⟨g5, 1, none⟩ (Value.int IntKind.i64 s4.2)) g10 0 (Value.string x0) (show (g + 1) ≠ g10 by (have := HG.out; have := HGG.out; have := HBB.out; have := HG10.out; omega))).trans ((put1_far (U2.setCell ⟨g5, 0, none⟩ (Value.slice A4 s4.1.length c4)) g5 1 (Value.int IntKind.i64 s4.2) (show (g + 1) ≠ g5 by (have := HG.out; have := HGG.out; have := HBB.out; have := HG10.out; omega))).trans (put1_far U2 g5 0 (Value.slice A4 s4.1.length c4) (show (g + 1) ≠ g5 by (have := HG.out; have := HGG.out; have := HBB.out; have := HG10.out; omega))))).trans K4.out)
        have n_HF := Aside0.mk (show RF (((U2.setCell ⟨g5, 0, none⟩ (Value.slice A4 s4.1.length c4)).setCell ⟨g5, 1, none⟩ (Value.int IntKind.i64 s4.2)).setCell ⟨g10, 0, none⟩ (Value.string x0)) B A body from Kd.F_step HF.out (fun k hk _ => by have hk' := hk; exact ((put1_far ((U2.setCell ⟨g5, 0, none⟩ (Value.slice A4 s4.1.length c4)).setCell ⟨g5, 1, none⟩ (Value.int IntKind.i64 s4.2)) g10 0 (Value.string x0) (show k ≠ g10 by (have := HG.out; have := HGG.out; have := HBB.out; have := HG10.out; omega))).trans ((put1_far (U2.setCell ⟨g5, 0, none⟩ (Value.slice A4 s4.1.length c4)) g5 1 (Value.int IntKind.i64 s4.2) (show k ≠ g5 by (have := HG.out; have := HGG.out; have := HBB.out; have := HG10.out; omega))).trans (put1_far U2 g5 0 (Value.slice A4 s4.1.length c4) (show k ≠ g5 by (have := HG.out; have := HGG.out; have := HBB.out; have := HG10.out; omega)))))))
        have n_K5 := Aside0.mk ((put1_far ((U2.setCell ⟨g5, 0, none⟩ (Value.slice A4 s4.1.length c4)).setCell ⟨g5, 1, none⟩ (Value.int IntKind.i64 s4.2)) g10 0 (Value.string x0) (show g5 ≠ g10 by (have := HG.out; have := HGG.out; have := HBB.out; have := HG10.out; omega))).trans (heap_setCell_same (U2.setCell ⟨g5, 0, none⟩ (Value.slice A4 s4.1.length c4)) g5 1 _ 83 (Value.int IntKind.i64 s4.2) (heap_setCell_same U2 g5 0 _ 83 (Value.slice A4 s4.1.length c4) K5.out)))
        have n_HZ := Aside0.mk (Nat.le_trans HZ.out (((((Below.refl 0 U2).setCell (p := ⟨g5, 0, none⟩) (Nat.zero_le _) (Value.slice A4 s4.1.length c4)).setCell (p := ⟨g5, 1, none⟩) (Nat.zero_le _) (Value.int IntKind.i64 s4.2)).setCell (p := ⟨g10, 0, none⟩) (Nat.zero_le _) (Value.string x0)).size))
        have n_HV := Aside0.mk (Kd.R_step HV.out (fun k hk _ => by have hk' := hk; exact ((put1_far ((U2.setCell ⟨g5, 0, none⟩ (Value.slice A4 s4.1.length c4)).setCell ⟨g5, 1, none⟩ (Value.int IntKind.i64 s4.2)) g10 0 (Value.string x0) (show k ≠ g10 by (have := HG.out; have := HGG.out; have := HBB.out; have := HG10.out; omega))).trans ((put1_far (U2.setCell ⟨g5, 0, none⟩ (Value.slice A4 s4.1.length c4)) g5 1 (Value.int IntKind.i64 s4.2) (show k ≠ g5 by (have := HG.out; have := HGG.out; have := HBB.out; have := HG10.out; omega))).trans (put1_far U2 g5 0 (Value.slice A4 s4.1.length c4) (show k ≠ g5 by (have := HG.out; have := HGG.out; have := HBB.out; have := HG10.out; omega)))))))
        have n_K10 := Aside0.mk (heap_setCell_same ((U2.setCell ⟨g5, 0, none⟩ (Value.slice A4 s4.1.length c4)).setCell ⟨g5, 1, none⟩ (Value.int IntKind.i64 s4.2)) g10 0 _ 27 (Value.string x0) (((put1_far (U2.setCell ⟨g5, 0, none⟩ (Value.slice A4 s4.1.length c4)) g5 1 (Value.int IntKind.i64 s4.2) (show g10 ≠ g5 by (have := HG.out; have := HGG.out; have := HBB.out; have := HG10.out; omega))).trans (put1_far U2 g5 0 (Value.slice A4 s4.1.length c4) (show g10 ≠ g5 by (have := HG.out; have := HGG.out; have := HBB.out; have := HG10.out; omega)))).trans K10.out))
        have n_HF4 := Aside0.mk (show RF (((U2.setCell ⟨g5, 0, none⟩ (Value.slice A4 s4.1.length c4)).setCell ⟨g5, 1, none⟩ (Value.int IntKind.i64 s4.2)).setCell ⟨g10, 0, none⟩ (Value.string x0)) B A4 s4.1 from Kd.F_step HF4.out (fun k hk _ => by have hk' := hk; exact ((put1_far ((U2.setCell ⟨g5, 0, none⟩ (Value.slice A4 s4.1.length c4)).setCell ⟨g5, 1, none⟩ (Value.int IntKind.i64 s4.2)) g10 0 (Value.string x0) (show k ≠ g10 by (have := HG.out; have := HGG.out; have := HBB.out; have := HG10.out; omega))).trans ((put1_far (U2.setCell ⟨g5, 0, none⟩ (Value.slice A4 s4.1.length c4)) g5 1 (Value.int IntKind.i64 s4.2) (show k ≠ g5 by (have := HG.out; have := HGG.out; have := HBB.out; have := HG10.out; omega))).trans (put1_far U2 g5 0 (Value.slice A4 s4.1.length c4) (show k ≠ g5 by (have := HG.out; have := HGG.out; have := HBB.out; have := HG10.out; omega)))))))
        clear HB K2 K4 HF K5 HZ HV K10 HF4
        generalize (((U2.setCell ⟨g5, 0, none⟩ (Value.slice A4 s4.1.length c4)).setCell ⟨g5, 1, none⟩ (Value.int IntKind.i64 s4.2)).setCell ⟨g10, 0, none⟩ (Value.string x0)) = U3 at n_HB n_K2 n_K4 n_HF n_K5 n_HZ n_HV n_K10 n_HF4 ⊢
        have HB := n_HB
        have K2 := n_K2
        have K4 := n_K4
        have HF := n_HF
        have K5 := n_K5
        have HZ := n_HZ
        have HV := n_HV
        have K10 := n_K10
        have HF4 := n_HF4
        clear n_HB n_K2 n_K4 n_HF n_K5 n_HZ n_HV n_K10 n_HF4
        have k0 := blk_cell K5.out 0
        have k1 := blk_cell K5.out 1
        go_wp2_with fail
        go_at_call 52
        clear k0 k1
        refine (rnum_Text B s4 A4 c4 U3 HF4.out HC4.out HOK4.out.1 (by have := HOK4.out.2; have := HBL.out; omega) (by have := HB.out.size; have := HBW.out; omega)).mono ?_
        rintro ex U4 ⟨A6, c6, rfl, hc1, hf1, hb⟩
        have n_HB := Aside0.mk (below_step HB.out hb)
        have n_K2 := Aside0.mk (blk_below K2.out hb)
        have n_K4 := Aside0.mk (blk_below K4.out hb)
        have n_HF := Aside0.mk (show RF U4 B A body from Kd.F_below HF.out hb)
        have n_K5 := Aside0.mk (blk_below K5.out hb)
        have n_HZ := Aside0.mk (Nat.le_trans HZ.out (hb).size)
        have n_HV := Aside0.mk (Kd.R_below HV.out hb)
        have n_K10 := Aside0.mk (blk_below K10.out hb)
        clear HB K2 K4 HF K5 HZ HV K10 hb HF4 HC4
        have HB := n_HB
        have K2 := n_K2
        have K4 := n_K4
        have HF := n_HF
        have K5 := n_K5
        have HZ := n_HZ
        have HV := n_HV
        have K10 := n_K10
        clear n_HB n_K2 n_K4 n_HF n_K5 n_HZ n_HV n_K10
        obtain ⟨x1, hx1⟩ : ∃ x, (textR s4).1 = x := ⟨_, rfl⟩
        obtain ⟨s6, hs6⟩ : ∃ z, (textR s4).2 = z := ⟨_, rfl⟩
        have hok := text_ok HOK4.out
        have hsz := text_size HOK4.out
        rw [hx1] at hsz
        rw [hs6] at hok hc1 hf1
        rw [hx1, hs6]
        have HOK6 := Aside0.mk hok
        have HC6 := Aside0.mk hc1
        have HF6 := Aside0.mk hf1
        have HEx1 := Aside0.mk hx1
        have HEs6 := Aside0.mk hs6
        have HSx1 := Aside0.mk hsz
        clear hx1 hs6 hok hc1 hf1 hsz
        have k0 := blk_cell K5.out 0
        have k1 := blk_cell K5.out 1
        have f0 := blk_frozen K5.out 0
        have f1 := blk_frozen K5.out 1
        have p0 := blk_cell K10.out 0
        have p1 := blk_cell K10.out 1
        have r0 := blk_frozen K10.out 0
        have r1 := blk_frozen K10.out 1
        have ne1 := eq_false (show ¬ g5 = g10 by (have := HG.out; have := HGG.out; have := HBB.out; have := HG10.out; omega))
        have ne2 := eq_false (show ¬ g10 = g5 by (have := HG.out; have := HGG.out; have := HBB.out; have := HG10.out; omega))
        go_upto_region 14 with fail
        clear k0 k1 f0 f1 p0 p1 r0 r1 ne1 ne2
        have n_HB := Aside0.mk ((((HB.out).setCell (p := ⟨g5, 0, none⟩) (show w.heap.size ≤ g5 by (have := HG.out; have := HGG.out; have := HBB.out; have := HG10.out; omega)) (Value.slice A6 s6.1.length c6)).setCell (p := ⟨g5, 1, none⟩) (show w.heap.size ≤ g5 by (have := HG.out; have := HGG.out; have := HBB.out; have := HG10.out; omega)) (Value.int IntKind.i64 s6.2)).setCell (p := ⟨g10, 1, none⟩) (show w.heap.size ≤ g10 by (have := HG.out; have := HGG.out; have := HBB.out; have := HG10.out; omega)) (Value.string x1))
        have n_K2 := Aside0.mk (((put1_far ((U4.setCell ⟨g5, 0, none⟩ (Value.slice A6 s6.1.length c6)).setCell ⟨g5, 1, none⟩ (Value.int IntKind.i64 s6.2)) g10 1 (Value.string x1) (show g ≠ g10 by (have := HG.out; have := HGG.out; have := HBB.out; have := HG10.out; omega))).trans ((put1_far (U4.setCell ⟨g5, 0, none⟩ (Value.slice A6 s6.1.length c6)) g5 1 (Value.int IntKind.i64 s6.2) (show g ≠ g5 by (have := HG.out; have := HGG.out; have := HBB.out; have := HG10.out; omega))).trans (put1_far U4 g5 0 (Value.slice A6 s6.1.length c6) (show g ≠ g5 by (have := HG.out; have := HGG.out; have := HBB.out; have := HG10.out; omega))))).trans K2.out)
        have n_K4 := Aside0.mk (((put1_far ((U4.setCell ⟨g5, 0, none⟩ (Value.slice A6 s6.1.length c6)).setCell ⟨g5, 1, none⟩ (Value.int IntKind.i64 s6.2)) g10 1 (Value.string x1) (show (g + 1) ≠ g10 by (have := HG.out; have := HGG.out; have := HBB.out; have := HG10.out; omega))).trans ((put1_far (U4.setCell ⟨g5, 0, none⟩ (Value.slice A6 s6.1.length c6)) g5 1 (Value.int IntKind.i64 s6.2) (show (g + 1) ≠ g5 by (have := HG.out; have := HGG.out; have := HBB.out; have := HG10.out; omega))).trans (put1_far U4 g5 0 (Value.slice A6 s6.1.length c6) (show (g + 1) ≠ g5 by (have := HG.out; have := HGG.out; have := HBB.out; have := HG10.out; omega))))).trans K4.out)
        have n_HF := Aside0.mk (show RF (((U4.setCell ⟨g5, 0, none⟩ (Value.slice A6 s6.1.length c6)).setCell ⟨g5, 1, none⟩ (Value.int IntKind.i64 s6.2)).setCell ⟨g10, 1, none⟩ (Value.string x1)) B A body from Kd.F_step HF.out (fun k hk _ => by have hk' := hk; exact ((put1_far ((U4.setCell ⟨g5, 0, none⟩ (Value.slice A6 s6.1.length c6)).setCell ⟨g5, 1, none⟩ (Value.int IntKind.i64 s6.2)) g10 1 (Value.string x1) (show k ≠ g10 by (have := HG.out; have := HGG.out; have := HBB.out; have := HG10.out; omega))).trans ((put1_far (U4.setCell ⟨g5, 0, none⟩ (Value.slice A6 s6.1.length c6)) g5 1 (Value.int IntKind.i64 s6.2) (show k ≠ g5 by (have := HG.out; have := HGG.out; have := HBB.out; have := HG10.out; omega))).trans (put1_far U4 g5 0 (Value.slice A6 s6.1.length c6) (show k ≠ g5 by (have := HG.out; have := HGG.out; have := HBB.out; have := HG10.out; omega)))))))
        have n_K5 := Aside0.mk ((put1_far ((U4.setCell ⟨g5, 0, none⟩ (Value.slice A6 s6.1.length c6)).setCell ⟨g5, 1, none⟩ (Value.int IntKind.i64 s6.2)) g10 1 (Value.string x1) (show g5 ≠ g10 by (have := HG.out; have := HGG.out; have := HBB.out; have := HG10.out; omega))).trans (heap_setCell_same (U4.setCell ⟨g5, 0, none⟩ (Value.slice A6 s6.1.length c6)) g5 1 _ 83 (Value.int IntKind.i64 s6.2) (heap_setCell_same U4 g5 0 _ 83 (Value.slice A6 s6.1.length c6) K5.out)))
        have n_HZ := Aside0.mk (Nat.le_trans HZ.out (((((Below.refl 0 U4).setCell (p := ⟨g5, 0, none⟩) (Nat.zero_le _) (Value.slice A6 s6.1.length c6)).setCell (p := ⟨g5, 1, none⟩) (Nat.zero_le _) (Value.int IntKind.i64 s6.2)).setCell (p := ⟨g10, 1, none⟩) (Nat.zero_le _) (Value.string x1)).size))
        have n_HV := Aside0.mk (Kd.R_step HV.out (fun k hk _ => by have hk' := hk; exact ((put1_far ((U4.setCell ⟨g5, 0, none⟩ (Value.slice A6 s6.1.length c6)).setCell ⟨g5, 1, none⟩ (Value.int IntKind.i64 s6.2)) g10 1 (Value.string x1) (show k ≠ g10 by (have := HG.out; have := HGG.out; have := HBB.out; have := HG10.out; omega))).trans ((put1_far (U4.setCell ⟨g5, 0, none⟩ (Value.slice A6 s6.1.length c6)) g5 1 (Value.int IntKind.i64 s6.2) (show k ≠ g5 by (have := HG.out; have := HGG.out; have := HBB.out; have := HG10.out; omega))).trans (put1_far U4 g5 0 (Value.slice A6 s6.1.length c6) (show k ≠ g5 by (have := HG.out; have := HGG.out; have := HBB.out; have := HG10.out; omega)))))))
        have n_K10 := Aside0.mk (heap_setCell_same ((U4.setCell ⟨g5, 0, none⟩ (Value.slice A6 s6.1.length c6)).setCell ⟨g5, 1, none⟩ (Value.int IntKind.i64 s6.2)) g10 1 _ 27 (Value.string x1) (((put1_far (U4.setCell ⟨g5, 0, none⟩ (Value.slice A6 s6.1.length c6)) g5 1 (Value.int IntKind.i64 s6.2) (show g10 ≠ g5 by (have := HG.out; have := HGG.out; have := HBB.out; have := HG10.out; omega))).trans (put1_far U4 g5 0 (Value.slice A6 s6.1.length c6) (show g10 ≠ g5 by (have := HG.out; have := HGG.out; have := HBB.out; have := HG10.out; omega)))).trans K10.out))
        have n_HF6 := Aside0.mk (show RF (((U4.setCell ⟨g5, 0, none⟩ (Value.slice A6 s6.1.length c6)).setCell ⟨g5, 1, none⟩ (Value.int IntKind.i64 s6.2)).setCell ⟨g10, 1, none⟩ (Value.string x1)) B A6 s6.1 from Kd.F_step HF6.out (fun k hk _ => by have hk' := hk; exact ((put1_far ((U4.setCell ⟨g5, 0, none⟩ (Value.slice A6 s6.1.length c6)).setCell ⟨g5, 1, none⟩ (Value.int IntKind.i64 s6.2)) g10 1 (Value.string x1) (show k ≠ g10 by (have := HG.out; have := HGG.out; have := HBB.out; have := HG10.out; omega))).trans ((put1_far (U4.setCell ⟨g5, 0, none⟩ (Value.slice A6 s6.1.length c6)) g5 1 (Value.int IntKind.i64 s6.2) (show k ≠ g5 by (have := HG.out; have := HGG.out; have := HBB.out; have := HG10.out; omega))).trans (put1_far U4 g5 0 (Value.slice A6 s6.1.length c6) (show k ≠ g5 by (have := HG.out; have := HGG.out; have := HBB.out; have := HG10.out; omega)))))))
        clear HB K2 K4 HF K5 HZ HV K10 HF6
        generalize (((U4.setCell ⟨g5, 0, none⟩ (Value.slice A6 s6.1.length c6)).setCell ⟨g5, 1, none⟩ (Value.int IntKind.i64 s6.2)).setCell ⟨g10, 1, none⟩ (Value.string x1)) = U5 at n_HB n_K2 n_K4 n_HF n_K5 n_HZ n_HV n_K10 n_HF6 ⊢
        have HB := n_HB
        have K2 := n_K2
        have K4 := n_K4
        have HF := n_HF
        have K5 := n_K5
        have HZ := n_HZ
        have HV := n_HV
        have K10 := n_K10
        have HF6 := n_HF6
        clear n_HB n_K2 n_K4 n_HF n_K5 n_HZ n_HV n_K10 n_HF6
        have hv2 := Kd.R_mono HV.out (ok' := fun k => b5 ≤ k) (fun k hk => hk.1)
        clear HV
        have HV := Aside0.mk hv2
        clear hv2
        obtain ⟨x, hx⟩ : ∃ x : S27, x = ⟨x0, x1⟩ := ⟨_, rfl⟩
        obtain ⟨acc2, hacc2⟩ : ∃ l : List S27, l = acc ++ [x] := ⟨_, rfl⟩
        have HX := Aside0.mk hx
        have HACC := Aside0.mk hacc2
        clear hx hacc2
        have k0 := blk_cell K4.out 0
        have k1 := blk_cell K4.out 1
        have k2 := blk_cell K4.out 2
        have p0 := blk_cell K10.out 0
        have p1 := blk_cell K10.out 1
        go_upto_region 10 with (first
          | ((with_reducible refine gate_builtin (b := .append) (xs := #[.tmp 60, .tmp 62]) rfl ?_); at_builtin; refine Kd.R_append k27 (w0 := U5) b5 rfl (.tmp 60) (.tmp 62) 22 27 (.agg #[.string ⟨#[]⟩, .string ⟨#[]⟩]) 32 rfl Try.underlying22 info27 rfl (by decide) (by omega) (.slice T acc.length cT) acc ⟨x0, x1⟩ [.string x0, .string x1] (fun k => b5 ≤ k) (fun _ => False) rfl rfl (k27_mkM _ _ _ ⟨x0, x1⟩) (fun _ hk => hk.elim) (fun k hk => Nat.le_trans HZ.out hk) HV.out (Below.refl _ _) HZ.out (by have := HAL.out; omega) ?_; intro v1 U6 ho hb hg_ hat_; rw [← HX.out, ← HACC.out] at ho; obtain ⟨T1, cT1, rfl⟩ := Kd.R_slice ho; clear k0 k1 k2 p0 p1 K10 HV; have n_HB := Aside0.mk (HB.out.trans (hb.mono (by have := HG.out; have := HGG.out; have := HBB.out; omega))); have n_K2 := Aside0.mk ((hb.block g (by have := HG.out; have := HGG.out; have := HBB.out; omega)).trans K2.out); have n_K4 := Aside0.mk ((hb.block (g + 1) (by have := HG.out; have := HGG.out; have := HBB.out; omega)).trans K4.out); have n_HF := Aside0.mk (show RF U6 B A body from Kd.F_step HF.out (fun k hk _ => hb.block k (by have hk' : k < B := hk; have := HG.out; have := HGG.out; have := HBB.out; omega))); have n_K5 := Aside0.mk ((hb.block g5 (by have := HG.out; have := HGG.out; have := HBB.out; omega)).trans K5.out); have n_HZ := Aside0.mk (Nat.le_trans HZ.out hb.size); have n_HF6 := Aside0.mk (show RF U6 B A6 s6.1 from Kd.F_step HF6.out (fun k hk _ => hb.block k (by have hk' : k < B := hk; have := HG.out; have := HGG.out; have := HBB.out; omega))); have HV := Aside0.mk ho; clear HB K2 K4 HF K5 HZ HF6 ho hb hg_ hat_; have HB := n_HB; have K2 := n_K2; have K4 := n_K4; have HF := n_HF; have K5 := n_K5; have HZ := n_HZ; have HF6 := n_HF6; clear n_HB n_K2 n_K4 n_HF n_K5 n_HZ n_HF6; have k2 := blk_cell K4.out 2; have f2 := blk_frozen K4.out 2)
          | fail)
        clear k2 f2
        have n_HB := Aside0.mk ((HB.out).setCell (p := ⟨(g + 1), 2, none⟩) (show w.heap.size ≤ (g + 1) by (have := HG.out; have := HGG.out; have := HBB.out; have := HG10.out; omega)) (Value.slice T1 acc2.length cT1))
        have n_K2 := Aside0.mk ((put1_far U6 (g + 1) 2 (Value.slice T1 acc2.length cT1) (show g ≠ (g + 1) by (have := HG.out; have := HGG.out; have := HBB.out; have := HG10.out; omega))).trans K2.out)
        have n_K4 := Aside0.mk (heap_setCell_same U6 (g + 1) 2 _ 42 (Value.slice T1 acc2.length cT1) K4.out)
        have n_HF := Aside0.mk (show RF (U6.setCell ⟨(g + 1), 2, none⟩ (Value.slice T1 acc2.length cT1)) B A body from Kd.F_step HF.out (fun k hk _ => by have hk' := hk; exact (put1_far U6 (g + 1) 2 (Value.slice T1 acc2.length cT1) (show k ≠ (g + 1) by (have := HG.out; have := HGG.out; have := HBB.out; have := HG10.out; omega)))))
        have n_K5 := Aside0.mk ((put1_far U6 (g + 1) 2 (Value.slice T1 acc2.length cT1) (show g5 ≠ (g + 1) by (have := HG.out; have := HGG.out; have := HBB.out; have := HG10.out; omega))).trans K5.out)
        have n_HZ := Aside0.mk (Nat.le_trans HZ.out (((Below.refl 0 U6).setCell (p := ⟨(g + 1), 2, none⟩) (Nat.zero_le _) (Value.slice T1 acc2.length cT1)).size))
        have n_HV := Aside0.mk (Kd.R_step HV.out (fun k hk _ => by have hk' := hk; exact (put1_far U6 (g + 1) 2 (Value.slice T1 acc2.length cT1) (show k ≠ (g + 1) by (have := HG.out; have := HGG.out; have := HBB.out; have := HG10.out; omega)))))
        have n_HF6 := Aside0.mk (show RF (U6.setCell ⟨(g + 1), 2, none⟩ (Value.slice T1 acc2.length cT1)) B A6 s6.1 from Kd.F_step HF6.out (fun k hk _ => by have hk' := hk; exact (put1_far U6 (g + 1) 2 (Value.slice T1 acc2.length cT1) (show k ≠ (g + 1) by (have := HG.out; have := HGG.out; have := HBB.out; have := HG10.out; omega)))))
        clear HB K2 K4 HF K5 HZ HV HF6
        generalize (U6.setCell ⟨(g + 1), 2, none⟩ (Value.slice T1 acc2.length cT1)) = U7 at n_HB n_K2 n_K4 n_HF n_K5 n_HZ n_HV n_HF6 ⊢
        have HB := n_HB
        have K2 := n_K2
        have K4 := n_K4
        have HF := n_HF
        have K5 := n_K5
        have HZ := n_HZ
        have HV := n_HV
        have HF6 := n_HF6
        clear n_HB n_K2 n_K4 n_HF n_K5 n_HZ n_HV n_HF6
        go_wp2_with fail
        have hlt := HLT.out
        have hcn := HCN.out
        have htot := HTOT.out
        rw [show cnt - j = (cnt - (j + 1)) + 1 by omega, readP, HEx0.out, HEs4.out, HEx1.out, HEs6.out] at htot
        rw [add1 (by omega)]
        have hx := HX.out
        have hacc := HACC.out
        refine ⟨⟨j + 1, acc2, s6, A6, c6, T1, cT1, by omega, rfl, by rw [hacc, List.length_append, HAL2.out]; rfl, ?_, ?_, HOK6.out, HC6.out, HF6.out, K5.out, K4.out, K2.out, HV.out, HB.out, HZ.out, HF.out⟩, by simp [intOf]; omega⟩
        · rw [hacc, List.append_assoc, hx, ← htot.1]
          exact ⟨rfl, htot.2⟩
        · intro y hy
          rw [hacc] at hy
          rcases List.mem_append.mp hy with hy | hy
          · exact HFP.out y hy
          · obtain rfl := List.mem_singleton.mp hy
            rw [hx]
            exact ⟨HSx0.out, HSx1.out⟩
      · by_cases hs : s.2 = 0
        · skip
          obtain rfl : j = cnt := by omega
          have b1 : decide ((j : Int) < (j : Int)) = false := decide_eq_false (by omega)
          have b1n : decide (j < j) = false := decide_eq_false (by omega)
          have q1 : (s.2 != 0) = false := by rw [hs]; rfl
          have hrun := HRUN.out
          have htot := HTOT.out
          rw [Nat.sub_self, readP, List.append_nil] at htot
          rw [← htot.1, ← htot.2] at hrun
          clear HRUN HTOT hs htot
          have HRUN := Aside0.mk hrun
          clear hrun
          have HFA := Aside0.mk (show FewP acc from ⟨by have := HAL.out; omega, fun y hy => by have := HFP.out y hy; omega⟩)
          have k0 := blk_cell K4.out 0
          have k1 := blk_cell K4.out 1
          have k2 := blk_cell K4.out 2
          go_wp2_with fail
          go_at_call 21
          clear k0 k1 k2 b1 b1n
          refine (intarsiaref10_Put.calls 5001 d n T cT acc (putT d n acc).1 (putT d n acc).2 wr (Kd.R_reads' HV.out).2.2 (Kd.R_reads' HV.out).2.1 (rput_is d n acc HFA.out 5001 (by decide))).mono ?_
          rintro ex X1 ⟨v, rfl, hp, hb⟩
          obtain ⟨TP, cP, rfl⟩ := Kd.R_slice hp
          have n_HB := Aside0.mk (below_step HB.out hb)
          have n_K2 := Aside0.mk (blk_below K2.out hb)
          have n_K4 := Aside0.mk (blk_below K4.out hb)
          have n_HF := Aside0.mk (show RF X1 B A body from Kd.F_below HF.out hb)
          have n_K5 := Aside0.mk (blk_below K5.out hb)
          have n_HZ := Aside0.mk (Nat.le_trans HZ.out (hb).size)
          have n_HF1 := Aside0.mk (show RF X1 B A1 s.1 from Kd.F_below HF1.out hb)
          have n_HV := Aside0.mk (Kd.R_below HV.out hb)
          clear HB K2 K4 HF K5 HZ HF1 HV hb
          have HB := n_HB
          have K2 := n_K2
          have K4 := n_K4
          have HF := n_HF
          have K5 := n_K5
          have HZ := n_HZ
          have HF1 := n_HF1
          have HV := n_HV
          clear n_HB n_K2 n_K4 n_HF n_K5 n_HZ n_HF1 n_HV
          by_cases hck : checkT d n acc = 0
          · skip
            have hpt : putT d n acc = (headB d n acc.length ++ pairsB acc, 0) := by unfold putT; rw [if_pos hck]
            have HPB := Aside0.mk (put_byte d n acc)
            have HGB := Aside0.mk (get_back d n acc hck)
            have HOT := Aside0.mk (fun h => getT_other body HBY.out (show headB (BkV.runT body).1.1 (BkV.runT body).1.2.1 (BkV.runT body).1.2.2.length ++ pairsB (BkV.runT body).1.2.2 ≠ body by rw [HRUN.out]; exact h))
            obtain ⟨bd, hbd⟩ : ∃ b, b = headB d n acc.length ++ pairsB acc := ⟨_, rfl⟩
            rw [← hbd] at hpt HPB HGB HOT
            rw [hpt] at hp ⊢
            replace hp : Kd.R (Kd.int .u8) 5 X1 wr.heap.size (fun _ => True) (.slice TP bd.length cP) bd := hp
            have hconv1 := Kd.C_string (P := Try.prog) (c := cP) Try.underlying43 Try.underlying5 Try.underlying9 (Kd.R_reads' hp).2.2
            have hconv2 := Kd.C_string (P := Try.prog) (c := c) Try.underlying43 Try.underlying5 Try.underlying9 (Kd.F_now HF.out)
            clear hp hpt hck hbd
            have c0 := blk_cell K2.out 0
            have c1 := blk_cell K2.out 1
            have c2 := blk_cell K2.out 2
            have f0 := blk_frozen K2.out 0
            have f1 := blk_frozen K2.out 1
            have f2 := blk_frozen K2.out 2
            have m1 := blk_cell K5.out 1
            by_cases heq : bd = body
            · skip
              have qs : ((strOfNums bd).toList != (strOfNums body).toList) = false := by rw [heq]; exact bne_self_eq_false _
              have qe : ((strOfNums bd).toList == (strOfNums body).toList) = true := by rw [heq]; exact beq_self_eq_true _
              have HRES2 := Aside0.mk ((show getT body = ((d, n, acc), 0) by rw [← heq]; exact HGB.out).symm.trans HRES.out)
              clear heq
              have k0 := blk_cell K4.out 0
              have k1 := blk_cell K4.out 1
              have k2 := blk_cell K4.out 2
              go_wp2_with fail
              clear k0 k1 k2 c0 c1 c2 f0 f1 f2 m1 hconv1 hconv2 qs qe q1
              refine bodyPost_ret (results_ct rfl _ _ g 42 #[.int .i64 d, .int .i64 n, .slice T acc.length cT] (0, 0) _ rfl (put3_heap K2.out _ _ _) Try.underlying42 rfl (by kernel_rfl)) rfl ?_
              rw [← HRES2.out]
              refine ⟨_, rfl, ?_, put3_below HB.out (by have := HG.out; omega) _ _ _⟩
              exact Kd.R_mono (Kd.R_lower (Kd.R_step HV.out (fun k hk _ => put3_far _ _ _ _ _ (by have hk' : b5 ≤ k := hk; have := HG.out; have := HGG.out; have := HBB.out; omega))) (by have := HG.out; have := HGG.out; have := HBB.out; omega)) (fun _ _ => trivial)
            · skip
              have qs : ((strOfNums bd).toList != (strOfNums body).toList) = true := toList_ne (fun h => heq (str_inj HPB.out HBY.out h))
              have qe : ((strOfNums bd).toList == (strOfNums body).toList) = false := by rw [bne, Bool.not_eq_true'] at qs; exact qs
              have HRES2 := Aside0.mk ((HOT.out heq).symm.trans HRES.out)
              clear heq
              go_wp2_with fail
              clear c0 c1 c2 f0 f1 f2 m1 hconv1 hconv2 qs qe q1
              refine bodyPost_ret (results_ct rfl _ _ g 42 #[Value.int IntKind.i64 0, Value.int IntKind.i64 0, Value.slice none 0 0] (0, 0) _ rfl (put3_heap K2.out _ _ _) Try.underlying42 rfl (by kernel_rfl)) rfl ?_
              rw [← HRES2.out]
              exact ⟨_, rfl, Kd.R_nil _ _ _ _ _, put3_below HB.out (by have := HG.out; omega) _ _ _⟩
          · skip
            have hpt : putT d n acc = ([], checkT d n acc) := by unfold putT; rw [if_neg hck]
            have HRES2 := Aside0.mk ((getT_check body (by rw [HRUN.out]; exact hck)).symm.trans HRES.out)
            have q2 : (checkT d n acc != 0) = true := bne_iff_ne.mpr hck
            rw [hpt]
            clear hp hpt hck
            have c0 := blk_cell K2.out 0
            have c1 := blk_cell K2.out 1
            have c2 := blk_cell K2.out 2
            have f0 := blk_frozen K2.out 0
            have f1 := blk_frozen K2.out 1
            have f2 := blk_frozen K2.out 2
            have m1 := blk_cell K5.out 1
            go_wp2_with fail
            clear c0 c1 c2 f0 f1 f2
            refine bodyPost_ret (results_ct rfl _ _ g 42 #[Value.int IntKind.i64 0, Value.int IntKind.i64 0, Value.slice none 0 0] (0, 0) _ rfl (put3_heap K2.out _ _ _) Try.underlying42 rfl (by kernel_rfl)) rfl ?_
            rw [← HRES2.out]
            exact ⟨_, rfl, Kd.R_nil _ _ _ _ _, put3_below HB.out (by have := HG.out; omega) _ _ _⟩
        · by_cases hjc : j < cnt
          · skip
            have HRES2 := Aside0.mk ((getT_fail body (by rw [HRUN.out]; show doneR (readP cnt s3).2 ≠ 0; rw [← HTOT.out.2, pairs_stuck _ hs]; exact done_err hs)).symm.trans HRES.out)
            have q0 : (s.2 == 0) = false := beq_eq_false_iff_ne.mpr hs
            have q1 : (s.2 != 0) = true := bne_iff_ne.mpr hs
            clear hs
            have b1 : decide ((j : Int) < (cnt : Int)) = true := decide_eq_true (by omega)
            have b1n : decide (j < cnt) = true := decide_eq_true hjc
            clear hjc
            have HFA := Aside0.mk (show FewP acc from ⟨by have := HAL.out; omega, fun y hy => by have := HFP.out y hy; omega⟩)
            have m1 := blk_cell K5.out 1
            have k0 := blk_cell K4.out 0
            have k1 := blk_cell K4.out 1
            have k2 := blk_cell K4.out 2
            go_wp2_with fail
            go_at_call 21
            clear k0 k1 k2 m1 b1 b1n q0
            refine (intarsiaref10_Put.calls 5001 d n T cT acc (putT d n acc).1 (putT d n acc).2 wr (Kd.R_reads' HV.out).2.2 (Kd.R_reads' HV.out).2.1 (rput_is d n acc HFA.out 5001 (by decide))).mono ?_
            rintro ex X1 ⟨v, rfl, hp, hb⟩
            obtain ⟨TP, cP, rfl⟩ := Kd.R_slice hp
            have n_HB := Aside0.mk (below_step HB.out hb)
            have n_K2 := Aside0.mk (blk_below K2.out hb)
            have n_K4 := Aside0.mk (blk_below K4.out hb)
            have n_HF := Aside0.mk (show RF X1 B A body from Kd.F_below HF.out hb)
            have n_K5 := Aside0.mk (blk_below K5.out hb)
            have n_HZ := Aside0.mk (Nat.le_trans HZ.out (hb).size)
            have n_HF1 := Aside0.mk (show RF X1 B A1 s.1 from Kd.F_below HF1.out hb)
            have n_HV := Aside0.mk (Kd.R_below HV.out hb)
            clear HB K2 K4 HF K5 HZ HF1 HV hb hp
            have HB := n_HB
            have K2 := n_K2
            have K4 := n_K4
            have HF := n_HF
            have K5 := n_K5
            have HZ := n_HZ
            have HF1 := n_HF1
            have HV := n_HV
            clear n_HB n_K2 n_K4 n_HF n_K5 n_HZ n_HF1 n_HV
            have c0 := blk_cell K2.out 0
            have c1 := blk_cell K2.out 1
            have c2 := blk_cell K2.out 2
            have f0 := blk_frozen K2.out 0
            have f1 := blk_frozen K2.out 1
            have f2 := blk_frozen K2.out 2
            have m1 := blk_cell K5.out 1
            go_wp2_with fail
            clear c0 c1 c2 f0 f1 f2
            refine bodyPost_ret (results_ct rfl _ _ g 42 #[Value.int IntKind.i64 0, Value.int IntKind.i64 0, Value.slice none 0 0] (0, 0) _ rfl (put3_heap K2.out _ _ _) Try.underlying42 rfl (by kernel_rfl)) rfl ?_
            rw [← HRES2.out]
            exact ⟨_, rfl, Kd.R_nil _ _ _ _ _, put3_below HB.out (by have := HG.out; omega) _ _ _⟩
          · skip
            have HRES2 := Aside0.mk ((getT_fail body (by rw [HRUN.out]; show doneR (readP cnt s3).2 ≠ 0; rw [← HTOT.out.2, pairs_stuck _ hs]; exact done_err hs)).symm.trans HRES.out)
            have q0 : (s.2 == 0) = false := beq_eq_false_iff_ne.mpr hs
            have q1 : (s.2 != 0) = true := bne_iff_ne.mpr hs
            clear hs
            have b1 : decide ((j : Int) < (cnt : Int)) = false := decide_eq_false (by omega)
            have b1n : decide (j < cnt) = false := decide_eq_false hjc
            clear hjc
            have HFA := Aside0.mk (show FewP acc from ⟨by have := HAL.out; omega, fun y hy => by have := HFP.out y hy; omega⟩)
            have m1 := blk_cell K5.out 1
            have k0 := blk_cell K4.out 0
            have k1 := blk_cell K4.out 1
            have k2 := blk_cell K4.out 2
            go_wp2_with fail
            go_at_call 21
            clear k0 k1 k2 m1 b1 b1n q0
            refine (intarsiaref10_Put.calls 5001 d n T cT acc (putT d n acc).1 (putT d n acc).2 wr (Kd.R_reads' HV.out).2.2 (Kd.R_reads' HV.out).2.1 (rput_is d n acc HFA.out 5001 (by decide))).mono ?_
            rintro ex X1 ⟨v, rfl, hp, hb⟩
            obtain ⟨TP, cP, rfl⟩ := Kd.R_slice hp
            have n_HB := Aside0.mk (below_step HB.out hb)
            have n_K2 := Aside0.mk (blk_below K2.out hb)
            have n_K4 := Aside0.mk (blk_below K4.out hb)
            have n_HF := Aside0.mk (show RF X1 B A body from Kd.F_below HF.out hb)
            have n_K5 := Aside0.mk (blk_below K5.out hb)
            have n_HZ := Aside0.mk (Nat.le_trans HZ.out (hb).size)
            have n_HF1 := Aside0.mk (show RF X1 B A1 s.1 from Kd.F_below HF1.out hb)
            have n_HV := Aside0.mk (Kd.R_below HV.out hb)
            clear HB K2 K4 HF K5 HZ HF1 HV hb hp
            have HB := n_HB
            have K2 := n_K2
            have K4 := n_K4
            have HF := n_HF
            have K5 := n_K5
            have HZ := n_HZ
            have HF1 := n_HF1
            have HV := n_HV
            clear n_HB n_K2 n_K4 n_HF n_K5 n_HZ n_HF1 n_HV
            have c0 := blk_cell K2.out 0
            have c1 := blk_cell K2.out 1
            have c2 := blk_cell K2.out 2
            have f0 := blk_frozen K2.out 0
            have f1 := blk_frozen K2.out 1
            have f2 := blk_frozen K2.out 2
            have m1 := blk_cell K5.out 1
            go_wp2_with fail
            clear c0 c1 c2 f0 f1 f2
            refine bodyPost_ret (results_ct rfl _ _ g 42 #[Value.int IntKind.i64 0, Value.int IntKind.i64 0, Value.slice none 0 0] (0, 0) _ rfl (put3_heap K2.out _ _ _) Try.underlying42 rfl (by kernel_rfl)) rfl ?_
            rw [← HRES2.out]
            exact ⟨_, rfl, Kd.R_nil _ _ _ _ _, put3_below HB.out (by have := HG.out; omega) _ _ _⟩
end Go.Proofs.Ytgbjinonlfhciaa.MBk
