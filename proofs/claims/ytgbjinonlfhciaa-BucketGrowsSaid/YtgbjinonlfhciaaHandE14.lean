/- The contract of bucket.Remove. -/
import Derived.Test.YtgbjinonlfhciaaHandE13
namespace Go.Proofs.Ytgbjinonlfhciaa.MBk
open Go.RowKit Go.Proofs.Ytgbjinonlfhciaa.BkV Go.Proofs.YtgbjinonlfhciaaW.PrintWords Go.Proofs.YtgbjinonlfhciaaW.PrintLast Go.Proofs.YtgbjinonlfhciaaW.PrintMore
set_option linter.unusedVariables false
set_option linter.unusedSimpArgs false
theorem ix_at (p : S27 → Bool) : ∀ (l : List S27) (i : Nat), (ixT p l (i : Int) = -1 ∧ posN p l = l.length) ∨ (ixT p l (i : Int) = ((i + posN p l : Nat) : Int) ∧ posN p l < l.length)
  | [], i => .inl ⟨rfl, rfl⟩
  | c :: r, i => by
    rw [ixT, posN]
    by_cases h : p c = true
    · rw [if_pos h, if_pos h]
      exact .inr ⟨rfl, Nat.succ_pos _⟩
    · rw [if_neg h, if_neg h]
      rcases ix_at p r (i + 1) with ⟨h1, h2⟩ | ⟨h1, h2⟩
      · exact .inl ⟨h1, by rw [h2]; rfl⟩
      · refine .inr ⟨?_, Nat.succ_lt_succ h2⟩
        rw [show ((i + (posN p r + 1) : Nat) : Int) = ((i + 1 + posN p r : Nat) : Int) by omega]
        exact h1
set_option maxHeartbeats 8000000 in
set_option maxRecDepth 100000 in
theorem bucket_Remove (d n : Int) (l : List S27) (A : Option Addr) (c : Nat) (x : S27) (w : World) (hC : Kd.C k27 w A l.length l) (hc : l.length ≤ c) (hl : l.length ≤ 1000) :
    Calls Try.prog 11 #[.agg #[.int .i64 d, .int .i64 n, .slice A l.length c], .agg #[.string x.f0, .string x.f1]] w fun e w' => ∃ v b, e = .returned (.tuple #[.agg #[.int .i64 d, .int .i64 n, v], .bool b]) ∧ Kd.R k27 27 w' w.heap.size (fun _ => True) v (remT l x) ∧ Below w.heap.size w w' := by
  have HC := Aside0.mk hC
  have HCc := Aside0.mk hc
  have HL := Aside0.mk hl
  clear hC hc hl
  go_enter Try.func11, Try.ntmps11
  go_upto_region 1 with fail
  have hW0 := below_alloc (Below.refl w.heap.size w) (Obj.cells #[Value.int IntKind.i64 d, Value.int IntKind.i64 n, Value.slice A l.length c] 25)
  have hN0 := blk_new w (Obj.cells #[Value.int IntKind.i64 d, Value.int IntKind.i64 n, Value.slice A l.length c] 25)
  have hS0 : (w.alloc (Obj.cells #[Value.int IntKind.i64 d, Value.int IntKind.i64 n, Value.slice A l.length c] 25)).heap.size = w.heap.size + 1 := World.size_alloc _ _
  obtain ⟨g, hg⟩ : ∃ g, g = w.heap.size := ⟨_, rfl⟩
  rw [← hg] at hN0 hS0 ⊢
  generalize w.alloc (Obj.cells #[Value.int IntKind.i64 d, Value.int IntKind.i64 n, Value.slice A l.length c] 25) = W1 at hW0 hN0 hS0 ⊢
  have hW1 := below_alloc (Below.refl W1.heap.size W1) (Obj.cells #[Value.string x.f0, Value.string x.f1] 27)
  have hN1 := blk_new W1 (Obj.cells #[Value.string x.f0, Value.string x.f1] 27)
  have hS1 : (W1.alloc (Obj.cells #[Value.string x.f0, Value.string x.f1] 27)).heap.size = W1.heap.size + 1 := World.size_alloc _ _
  rw [hS0] at hN1 hS1
  generalize W1.alloc (Obj.cells #[Value.string x.f0, Value.string x.f1] 27) = W2 at hW1 hN1 hS1 ⊢
  have hW2 := below_alloc (Below.refl W2.heap.size W2) (Obj.cells #[Value.int IntKind.i64 0, Value.int IntKind.i64 0, Value.slice none 0 0] 25)
  have hN2 := blk_new W2 (Obj.cells #[Value.int IntKind.i64 0, Value.int IntKind.i64 0, Value.slice none 0 0] 25)
  have hS2 : (W2.alloc (Obj.cells #[Value.int IntKind.i64 0, Value.int IntKind.i64 0, Value.slice none 0 0] 25)).heap.size = W2.heap.size + 1 := World.size_alloc _ _
  rw [hS1] at hN2 hS2
  generalize W2.alloc (Obj.cells #[Value.int IntKind.i64 0, Value.int IntKind.i64 0, Value.slice none 0 0] 25) = W3 at hW2 hN2 hS2 ⊢
  have HB := Aside0.mk (below_step (below_step hW0 hW1) hW2)
  have K2 := Aside0.mk (blk_below (blk_below hN0 hW1) hW2)
  have K3 := Aside0.mk (blk_below hN1 hW2)
  have K4 := Aside0.mk hN2
  have HG := Aside0.mk (show w.heap.size ≤ g by omega)
  have HZ := Aside0.mk (show g + 1 + 1 < W3.heap.size by omega)
  clear hW0 hN0 hS0 hW1 hN1 hS1 hW2 hN2 hS2 hg
  have k2 := blk_cell K2.out 2
  have q0 := blk_cell K3.out 0
  have q1 := blk_cell K3.out 1
  go_wp2_with fail
  go_at_call 36
  refine (api_Pair_36.calls 1001 A c l x.f0 x.f1 (ixT (eqT x) l 0) W3 (Kd.C_below HC.out HB.out) HCc.out (index_is x l HL.out)).mono ?_
  clear k2 q0 q1
  rintro ex W4 ⟨rfl, hb⟩
  have nB := Aside0.mk (below_step HB.out hb)
  have n2 := Aside0.mk (blk_below K2.out hb)
  have n3 := Aside0.mk (blk_below K3.out hb)
  have n4 := Aside0.mk (blk_below K4.out hb)
  have nZ := Aside0.mk (Nat.lt_of_lt_of_le HZ.out hb.size)
  clear hb HB K2 K3 K4 HZ
  have HB := nB
  have K2 := n2
  have K3 := n3
  have K4 := n4
  have HZ := nZ
  clear nB n2 n3 n4 nZ
  rcases ix_at (eqT x) l 0 with ⟨h1, h2⟩ | ⟨h1, h2⟩
  · have HAD := Aside0.mk (show remT l x = l by unfold remT; rw [h2, List.take_length, List.drop_of_length_le (Nat.le_succ _), List.append_nil])
    rw [show ixT (eqT x) l 0 = -1 from h1]
    clear h1 h2
    have k0 := blk_cell K2.out 0
    have k1 := blk_cell K2.out 1
    have k2 := blk_cell K2.out 2
    go_wp2_with fail
    go_at_call 27
    refine (own_calls d n l A c W4 (Kd.C_below HC.out HB.out) HCc.out HL.out).mono ?_
    clear k0 k1 k2
    rintro ex W5 ⟨vv, rfl, hv, hb⟩
    obtain ⟨T, cT, rfl⟩ := Kd.R_slice hv
    have HV := Aside0.mk (Kd.R_bound hv)
    have HS4 := Aside0.mk (show g + 1 + 1 < W4.heap.size from HZ.out)
    have HW4 := Aside0.mk HB.out.size
    clear hv
    have nB := Aside0.mk (below_step HB.out hb)
    have n2 := Aside0.mk (blk_below K2.out hb)
    have n3 := Aside0.mk (blk_below K3.out hb)
    have n4 := Aside0.mk (blk_below K4.out hb)
    have nZ := Aside0.mk (Nat.lt_of_lt_of_le HZ.out hb.size)
    clear hb HB K2 K3 K4 HZ
    have HB := nB
    have K2 := n2
    have K3 := n3
    have K4 := n4
    have HZ := nZ
    clear nB n2 n3 n4 nZ
    have c0 := blk_cell K4.out 0
    have c1 := blk_cell K4.out 1
    have c2 := blk_cell K4.out 2
    have f0 := blk_frozen K4.out 0
    have f1 := blk_frozen K4.out 1
    have f2 := blk_frozen K4.out 2
    go_wp2_with fail
    clear c0 c1 c2 f0 f1 f2
    refine bodyPost_ret (results_ct rfl _ _ (g + 1 + 1) 25 #[.int .i64 d, .int .i64 n, .slice T l.length cT] (0, 0) _ rfl (put3_heap K4.out _ _ _) Try.underlying25 rfl (by kernel_rfl)) rfl ?_
    rw [HAD.out]
    refine ⟨_, _, rfl, ?_, put3_below HB.out (by have := HG.out; omega) _ _ _⟩
    exact Kd.R_mono (Kd.R_lower (Kd.R_step HV.out (fun k hk _ => put3_far _ _ _ _ _ (by have := hk.2.1; have := HS4.out; omega))) HW4.out) (fun _ _ => trivial)
  · rw [show ixT (eqT x) l 0 = (posN (eqT x) l : Int) by rw [show ixT (eqT x) l 0 = ((0 + posN (eqT x) l : Nat) : Int) from h1, Nat.zero_add]]
    have HP := Aside0.mk h2
    have b0 : decide ((posN (eqT x) l : Int) < 0) = false := decide_eq_false (by omega)
    clear h1 h2
    have k2 := blk_cell K2.out 2
    go_wp2_with fail
    go_at_call 31
    refine (pairs_Clone.calls A c l l W4 (Kd.C_below HC.out HB.out) HCc.out (clone_is HL.out)).mono ?_
    clear k2 b0
    rintro ex W5 ⟨vv, rfl, hv, hb⟩
    have HS5 := Aside0.mk hb.size
    have HZ4 := Aside0.mk (show g + 1 + 1 < W4.heap.size from HZ.out)
    have HW4 := Aside0.mk HB.out.size
    obtain ⟨_, h5⟩ := own_of_R hv
    rcases h5 with ⟨_, h0⟩ | ⟨g5, cap, cur, rfl, hb5, hg5, hnc, hcm, hsz, ht⟩
    · exfalso
      have := HP.out
      omega
    have HDEL := Aside0.mk (delete_calls l (posN (eqT x) l) g5 cap cur W4.heap.size W5 hb5 hg5 hnc hcm hsz ht HP.out HL.out HS5.out)
    clear hb5 hg5 hnc hcm hsz ht hv
    have nB := Aside0.mk (below_step HB.out hb)
    have n2 := Aside0.mk (blk_below K2.out hb)
    have n3 := Aside0.mk (blk_below K3.out hb)
    have n4 := Aside0.mk (blk_below K4.out hb)
    have nZ := Aside0.mk (Nat.lt_of_lt_of_le HZ.out hb.size)
    clear hb HB K2 K3 K4 HZ
    have HB := nB
    have K2 := n2
    have K3 := n3
    have K4 := n4
    have HZ := nZ
    clear nB n2 n3 n4 nZ
    have hwi : wrap64 ((posN (eqT x) l : Int) + 1) = (posN (eqT x) l : Int) + 1 := add1i (by have := HP.out; have := HL.out; omega)
    go_wp2_with fail
    go_at_call 37
    refine HDEL.out.mono ?_
    clear HDEL hwi
    rintro ex W6 ⟨v1, rfl, hv1, hb1⟩
    change Kd.R k27 27 W6 W4.heap.size (fun _ => True) v1 (remT l x) at hv1
    obtain ⟨T1, c1, rfl⟩ := Kd.R_slice hv1
    have nB := Aside0.mk (HB.out.trans (hb1.mono HW4.out))
    have n2 := Aside0.mk ((hb1.block g (by have := HZ4.out; omega)).trans K2.out)
    have n4 := Aside0.mk ((hb1.block (g + 1 + 1) (by have := HZ4.out; omega)).trans K4.out)
    have HV6 := Aside0.mk (Kd.R_bound hv1)
    clear hv1 hb1 HB K2 K3 K4
    have HB := nB
    have K2 := n2
    have K4 := n4
    clear nB n2 n4
    have k2 := blk_cell K2.out 2
    have f2 := blk_frozen K2.out 2
    go_upto_region 5 with fail
    clear k2 f2
    have hn2 := heap_setCell_same W6 g 2 _ 25 (Value.slice T1 (remT l x).length c1) K2.out
    have hn4 := (heap_setCell_other W6 ⟨g, 2, none⟩ (g + 1 + 1) (Value.slice T1 (remT l x).length c1) (by show g + 1 + 1 ≠ g; omega)).trans K4.out
    have hnv := Kd.R_far (p := ⟨g, 2, none⟩) HV6.out (fun k hk => by have := hk.2.1; have := HZ4.out; show k ≠ g; omega) (Value.slice T1 (remT l x).length c1)
    have hnb := HB.out.setCell (p := ⟨g, 2, none⟩) HG.out (Value.slice T1 (remT l x).length c1)
    clear HB K2 K4 HV6
    have HSD := HZ4
    have HWW := HW4
    generalize W6.setCell ⟨g, 2, none⟩ (Value.slice T1 (remT l x).length c1) = W7 at hn2 hn4 hnv hnb ⊢
    have HB := Aside0.mk hnb
    have K2 := Aside0.mk hn2
    have K4 := Aside0.mk hn4
    have HV := Aside0.mk hnv
    clear hn2 hn4 hnv hnb
    have k0 := blk_cell K2.out 0
    have k1 := blk_cell K2.out 1
    have k2 := blk_cell K2.out 2
    have c0 := blk_cell K4.out 0
    have c1_ := blk_cell K4.out 1
    have c2 := blk_cell K4.out 2
    have f0 := blk_frozen K4.out 0
    have f1 := blk_frozen K4.out 1
    have f2 := blk_frozen K4.out 2
    go_wp2_with fail
    clear k0 k1 k2 c0 c1_ c2 f0 f1 f2
    refine bodyPost_ret (results_ct rfl _ _ (g + 1 + 1) 25 #[.int .i64 d, .int .i64 n, .slice T1 (remT l x).length c1] (0, 0) _ rfl (put3_heap K4.out _ _ _) Try.underlying25 rfl (by kernel_rfl)) rfl ?_
    refine ⟨_, _, rfl, ?_, put3_below HB.out (by have := HG.out; omega) _ _ _⟩
    exact Kd.R_mono (Kd.R_lower (Kd.R_step HV.out (fun k hk _ => put3_far _ _ _ _ _ (by have := hk.2.1; have := HZ4.out; omega))) HW4.out) (fun _ _ => trivial)
end Go.Proofs.Ytgbjinonlfhciaa.MBk
