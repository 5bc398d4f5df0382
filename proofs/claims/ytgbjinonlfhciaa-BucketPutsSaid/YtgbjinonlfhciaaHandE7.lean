/- The contract of bucket.Add. -/
import Derived.Test.YtgbjinonlfhciaaHandE6
namespace Go.Proofs.Ytgbjinonlfhciaa.MBk
open Go.RowKit Go.Proofs.Ytgbjinonlfhciaa.BkV Go.Proofs.YtgbjinonlfhciaaW.PrintWords Go.Proofs.YtgbjinonlfhciaaW.PrintLast Go.Proofs.YtgbjinonlfhciaaW.PrintMore
set_option linter.unusedVariables false
set_option linter.unusedSimpArgs false
def Add.T6 : Bool × List (List Nat × List Nat) := (true, [([], []), ([0], [0]), ([1], [1]), ([], []), ([], []), ([4], [4]), ([2, 3, 5, 2], [2, 3, 5]), ([0, 1, 2, 3, 4, 5, 6], []), ([7, 6, 6, 0, 1, 2, 3, 4, 5, 6], [6, 7])])
def Add.B6 : List Nat := [0, 1, 3, 0, 0, 16, 63, 127, 255]
theorem Add.tab6 : rtab .any (opsOf Try.f8 6) = Add.T6 := by kernel_rfl
theorem Add.bits6 : waitsOk Add.T6.2 Add.B6 = true := by kernel_rfl
set_option maxHeartbeats 8000000 in
set_option maxRecDepth 100000 in
theorem bucket_Add (d n : Int) (l : List S27) (A : Option Addr) (c : Nat) (x : S27) (w : World) (hC : Kd.C k27 w A l.length l) (hc : l.length ≤ c) (hl : l.length ≤ 1000) :
    Calls Try.prog 8 #[.agg #[.int .i64 d, .int .i64 n, .slice A l.length c], .agg #[.string x.f0, .string x.f1]] w fun e w' => ∃ v, e = .returned (.tuple #[.agg #[.int .i64 d, .int .i64 n, v], .bool (addT l x).2]) ∧ Kd.R k27 27 w' w.heap.size (fun _ => True) v (addT l x).1 ∧ Below w.heap.size w w' := by
  have HC := Aside0.mk hC
  have HCc := Aside0.mk hc
  have HL := Aside0.mk hl
  clear hC hc hl
  go_enter Try.func8, Try.ntmps8
  go_upto_region 1 with fail
  have hW0 := below_alloc (Below.refl w.heap.size w) (Obj.cells #[Value.int IntKind.i64 d, Value.int IntKind.i64 n, Value.slice A l.length c] 25)
  have hN0 := blk_new w (Obj.cells #[Value.int IntKind.i64 d, Value.int IntKind.i64 n, Value.slice A l.length c] 25)
  have hS0 : (w.alloc (Obj.cells #[Value.int IntKind.i64 d, Value.int IntKind.i64 n, Value.slice A l.length c] 25)).heap.size = w.heap.size + 1 := World.size_alloc _ _
  obtain ⟨g, hg⟩ : ∃ g, g = w.heap.size := ⟨_, rfl⟩
  rw [← hg] at hN0 hS0 ⊢
  generalize w.alloc (Obj.cells #[Value.int IntKind.i64 d, Value.int IntKind.i64 n, Value.slice A l.length c] 25) = W1 at hW0 hN0 hS0 ⊢
  have hW1 := below_alloc (Below.refl W1.heap.size W1) (Obj.cells #[Value.string x.f0, Value.string x.f1] 27)
  have hN1 := blk_new W1 (Obj.cells #[Value.string x.f0, Value.string x.f1] 27)
  have hS1 : (W1.alloc (Obj.cells #[Value.string x.f0, Value.string x.f1] 27)).heap.size = W1.heap.size + 1 := World.size_alloc _ _
  rw [hS0] at hN1 hS1
  generalize W1.alloc (Obj.cells #[Value.string x.f0, Value.string x.f1] 27) = W2 at hW1 hN1 hS1 ⊢
  have hW2 := below_alloc (Below.refl W2.heap.size W2) (Obj.cells #[Value.int IntKind.i64 0, Value.int IntKind.i64 0, Value.slice none 0 0] 25)
  have hN2 := blk_new W2 (Obj.cells #[Value.int IntKind.i64 0, Value.int IntKind.i64 0, Value.slice none 0 0] 25)
  have hS2 : (W2.alloc (Obj.cells #[Value.int IntKind.i64 0, Value.int IntKind.i64 0, Value.slice none 0 0] 25)).heap.size = W2.heap.size + 1 := World.size_alloc _ _
  rw [hS1] at hN2 hS2
  generalize W2.alloc (Obj.cells #[Value.int IntKind.i64 0, Value.int IntKind.i64 0, Value.slice none 0 0] 25) = W3 at hW2 hN2 hS2 ⊢
  have HB := Aside0.mk (below_step (below_step hW0 hW1) hW2)
  have K2 := Aside0.mk (blk_below (blk_below hN0 hW1) hW2)
  have K3 := Aside0.mk (blk_below hN1 hW2)
  have K4 := Aside0.mk hN2
  have HG := Aside0.mk (show w.heap.size ≤ g by omega)
  have HZ := Aside0.mk (show g + 1 + 1 < W3.heap.size by omega)
  clear hW0 hN0 hS0 hW1 hN1 hS1 hW2 hN2 hS2 hg
  have k0 := blk_cell K2.out 0
  have k1 := blk_cell K2.out 1
  have k2 := blk_cell K2.out 2
  have q0 := blk_cell K3.out 0
  have q1 := blk_cell K3.out 1
  go_wp2_with fail
  go_at_call 9
  refine (bucket_Has.calls 1001 d n A c l x.f0 x.f1 (l.any (eqT x)) W3 (Kd.C_below HC.out HB.out) HCc.out (has_is d n x l HL.out)).mono ?_
  clear k0 k1 k2 q0 q1
  rintro ex W4 ⟨rfl, hb⟩
  have nB := Aside0.mk (below_step HB.out hb)
  have n2 := Aside0.mk (blk_below K2.out hb)
  have n3 := Aside0.mk (blk_below K3.out hb)
  have n4 := Aside0.mk (blk_below K4.out hb)
  have nZ := Aside0.mk (Nat.lt_of_lt_of_le HZ.out hb.size)
  clear hb HB K2 K3 K4 HZ
  have HB := nB
  have K2 := n2
  have K3 := n3
  have K4 := n4
  have HZ := nZ
  clear nB n2 n3 n4 nZ
  by_cases hh : l.any (eqT x) = true
  · have HAD := Aside0.mk (show addT l x = (l, false) from if_pos hh)
    rw [hh]
    clear hh
    have k0 := blk_cell K2.out 0
    have k1 := blk_cell K2.out 1
    have k2 := blk_cell K2.out 2
    go_wp2_with fail
    go_at_call 27
    refine (own_calls d n l A c W4 (Kd.C_below HC.out HB.out) HCc.out HL.out).mono ?_
    clear k0 k1 k2
    rintro ex W5 ⟨vv, rfl, hv, hb⟩
    obtain ⟨T, cT, rfl⟩ := Kd.R_slice hv
    have HV := Aside0.mk (Kd.R_bound hv)
    have HS4 := Aside0.mk (show g + 1 + 1 < W4.heap.size from HZ.out)
    have HW4 := Aside0.mk HB.out.size
    clear hv
    have nB := Aside0.mk (below_step HB.out hb)
    have n2 := Aside0.mk (blk_below K2.out hb)
    have n3 := Aside0.mk (blk_below K3.out hb)
    have n4 := Aside0.mk (blk_below K4.out hb)
    have nZ := Aside0.mk (Nat.lt_of_lt_of_le HZ.out hb.size)
    clear hb HB K2 K3 K4 HZ
    have HB := nB
    have K2 := n2
    have K3 := n3
    have K4 := n4
    have HZ := nZ
    clear nB n2 n3 n4 nZ
    have c0 := blk_cell K4.out 0
    have c1 := blk_cell K4.out 1
    have c2 := blk_cell K4.out 2
    have f0 := blk_frozen K4.out 0
    have f1 := blk_frozen K4.out 1
    have f2 := blk_frozen K4.out 2
    go_wp2_with fail
    clear c0 c1 c2 f0 f1 f2
    refine bodyPost_ret (results_ct rfl _ _ (g + 1 + 1) 25 #[.int .i64 d, .int .i64 n, .slice T l.length cT] (0, 0) _ rfl (put3_heap K4.out _ _ _) Try.underlying25 rfl (by kernel_rfl)) rfl ?_
    rw [HAD.out]
    refine ⟨_, rfl, ?_, put3_below HB.out (by have := HG.out; omega) _ _ _⟩
    exact Kd.R_mono (Kd.R_lower (Kd.R_step HV.out (fun k hk _ => put3_far _ _ _ _ _ (by have := hk.2.1; have := HS4.out; omega))) HW4.out) (fun _ _ => trivial)
  have HAD := Aside0.mk (show addT l x = (insT x l, true) from if_neg hh)
  rw [Bool.eq_false_iff.mpr hh]
  clear hh
  have k2 := blk_cell K2.out 2
  go_wp2_with fail
  go_at_call 28
  refine (ixless_calls l A c x (g + 1) W4 (Kd.C_below HC.out HB.out) K3.out).mono ?_
  clear k2
  rintro ex W5 ⟨rfl, hb⟩
  have nB := Aside0.mk (below_step HB.out hb)
  have n2 := Aside0.mk (blk_below K2.out hb)
  have n3 := Aside0.mk (blk_below K3.out hb)
  have n4 := Aside0.mk (blk_below K4.out hb)
  have nZ := Aside0.mk (Nat.lt_of_lt_of_le HZ.out hb.size)
  clear hb HB K2 K3 K4 HZ
  have HB := nB
  have K2 := n2
  have K3 := n3
  have K4 := n4
  have HZ := nZ
  clear nB n2 n3 n4 nZ
  have k2 := blk_cell K2.out 2
  rcases ix_pos (lessT x) l 0 with ⟨h1, h2⟩ | h1
  · have e1 : ixT (fun y => lessT x y) l 0 = -1 := h1
    rw [e1]
    have HP := Aside0.mk (show (l.length : Int) = (posN (lessT x) l : Int) by rw [h2])
    clear h1 h2 e1
    go_upto_region 6 with fail
    rw [HP.out]
    clear k2
    have HB0 := Aside0.mk HB.out.drew
    have n2 : Aside0 (W5.drew.heap[g]? = _) := Aside0.mk K2.out
    have n3 : Aside0 (W5.drew.heap[g + 1]? = _) := Aside0.mk K3.out
    have n4 : Aside0 (W5.drew.heap[g + 1 + 1]? = _) := Aside0.mk K4.out
    have nZ : Aside0 (g + 1 + 1 < W5.drew.heap.size) := Aside0.mk HZ.out
    have nW : Aside0 (w.heap.size ≤ W5.drew.heap.size) := Aside0.mk HB.out.size
    clear HB K2 K3 K4 HZ
    have HB := HB0
    have K2 := n2
    have K3 := n3
    have K4 := n4
    have HZD := nZ
    have HWD := nW
    clear HB0 n2 n3 n4 nZ nW
    refine start_ (n := 9) (S := fun w' => w'.cell? ⟨g, 2, none⟩ = some (.slice A l.length c) ∧ w'.cell? ⟨g + 1, 0, none⟩ = some (.string x.f0) ∧ w'.cell? ⟨g + 1, 1, none⟩ = some (.string x.f1)) (ds := [8]) #[false, false, false, false, false, false, false, false, false] (by kernel_rfl) rfl rfl ⟨(blk_cell K2.out 2).trans rfl, (blk_cell K3.out 0).trans rfl, (blk_cell K3.out 1).trans rfl⟩ (fun hHeld => ?_); refine with_tabW Add.tab6 Add.bits6 (fun HT_ HW_ => ?_)
    generalize W5.drew = DB at HB K2 K3 K4 HZD HWD hHeld ⊢
    refine pure_ (i := 0) (N := some 21) (v := ?_) (a' := ?_) #[true, false, false, false, false, false, false, false, false] rfl rfl (any_of HT_.out (by kernel_rfl)) (fun _ _ _ h => h) (Or.inl ⟨by rfl, ?_⟩) ?_ ?_
    rotate_left
    · intro w'
      go_simp
      with_reducible rfl
    rotate_left
    · simp only [Act.put, List.setIfInBounds_toArray, List.set_cons_zero, List.set_cons_succ, i64_w, i32_w]
      rfl
    refine take_ (i := 1) (N := some 22) (v := ?_) (a' := ?_) #[true, true, false, false, false, false, false, false, false] rfl rfl (take_ofW HT_.out HW_.out (by kernel_rfl)) (fun _ _ _ h => h) (Or.inl ⟨by rfl, ?_⟩) hHeld ?_ ?_
    rotate_left
    · rintro w' ⟨s0, s1, s2⟩
      go_simp
      with_reducible rfl
    rotate_left
    · simp only [Act.put, List.setIfInBounds_toArray, List.set_cons_zero, List.set_cons_succ, i64_w, i32_w]
      rfl
    refine pure_ (i := 3) (N := some 24) (v := ?_) (a' := ?_) #[true, true, false, true, false, false, false, false, false] rfl rfl (any_of HT_.out (by kernel_rfl)) (fun _ _ _ h => h) (Or.inl ⟨by rfl, ?_⟩) ?_ ?_
    rotate_left
    · intro w'
      go_simp
      with_reducible rfl
    rotate_left
    · simp only [Act.put, List.setIfInBounds_toArray, List.set_cons_zero, List.set_cons_succ, i64_w, i32_w]
      rfl
    refine take_ (i := 4) (N := some 25) (v := ?_) (a' := ?_) #[true, true, false, true, true, false, false, false, false] rfl rfl (take_ofW HT_.out HW_.out (by kernel_rfl)) (fun _ _ _ h => h) (Or.inl ⟨by rfl, ?_⟩) hHeld ?_ ?_
    rotate_left
    · rintro w' ⟨s0, s1, s2⟩
      go_simp
      with_reducible rfl
    rotate_left
    · simp only [Act.put, List.setIfInBounds_toArray, List.set_cons_zero, List.set_cons_succ, i64_w, i32_w]
      rfl
    refine two_ (i := 2) (j := 5) (Ni := some 23) (Nj := some 26) #[true, true, true, true, true, false, false, false, false] #[true, true, false, true, true, true, false, false, false] rfl rfl rfl rfl (two_of HT_.out (by kernel_rfl)) (by decide) (by decide) (fun K hK => ?_) (fun K hK => ?_)
    · skip
      refine goes_ Try.func31 (by kernel_rfl) rfl #[.slice A l.length c] (by rfl) rfl rfl (by (try simp only [List.map_toArray, List.map_cons, List.map_nil]); first | done | rfl) ?_
      refine (pairs_Clone.calls A c l l DB (Kd.C_below HC.out HB.out) HCc.out (clone_is HL.out)).mono ?_
      rintro ex U1 ⟨vv, rfl, hv, hb⟩
      refine ⟨_, rfl, ?_⟩
      obtain ⟨T, cT, rfl⟩ := Kd.R_slice hv
      have nB := Aside0.mk (below_step HB.out hb)
      have HSZU1 := Aside0.mk hb.size
      have n2 := Aside0.mk (blk_below K2.out hb)
      have n3 := Aside0.mk (blk_below K3.out hb)
      have n4 := Aside0.mk (blk_below K4.out hb)
      have HVA := Aside0.mk (Kd.R_bound hv)
      clear hv hb HB K2 K3 K4
      have HB := nB
      have K2 := n2
      have K3 := n3
      have K4 := n4
      clear nB n2 n3 n4
      refine hK.out _ _ ⟨(blk_cell K2.out 2).trans rfl, (blk_cell K3.out 0).trans rfl, (blk_cell K3.out 1).trans rfl⟩ (fun hHeld => ?_)
      clear hK K
      refine norm_ (a' := ?_) ?_ ?_
      rotate_left
      · show Act.put _ (some 23) _ = _
        simp only [Act.put, List.setIfInBounds_toArray, List.set_cons_zero, List.set_cons_succ, i64_w, i32_w]
        rfl
      refine one_ (i := 5) (N := some 26) #[true, true, true, true, true, true, false, false, false] rfl rfl (one_of HT_.out (by kernel_rfl)) (by decide) (fun K hK => ?_)
      refine event_step (W := U1) (w1 := U1.alloc (Obj.cells #[Value.string x.f0, Value.string x.f1] 27)) (v := .slice (some ⟨U1.heap.size, 0, none⟩) 1 1) (by rfl) (by first | (go_simp; done) | (go_simp; rfl)) ?_
      have hW := below_alloc (Below.refl U1.heap.size U1) (Obj.cells #[Value.string x.f0, Value.string x.f1] 27)
      have hN := blk_new U1 (Obj.cells #[Value.string x.f0, Value.string x.f1] 27)
      have hS : (U1.alloc (Obj.cells #[Value.string x.f0, Value.string x.f1] 27)).heap.size = U1.heap.size + 1 := World.size_alloc _ _
      obtain ⟨gv, hgv⟩ : ∃ g, g = U1.heap.size := ⟨_, rfl⟩
      rw [← hgv] at hN hS ⊢
      generalize U1.alloc (Obj.cells #[Value.string x.f0, Value.string x.f1] 27) = U2 at hW hN hS ⊢
      have n2 := Aside0.mk (blk_below K2.out hW)
      have n3 := Aside0.mk (blk_below K3.out hW)
      have n4 := Aside0.mk (blk_below K4.out hW)
      have nB := Aside0.mk (below_step HB.out hW)
      have HNE := Aside0.mk (show (Value.slice T l.length cT).ownBlock ≠ some gv from fun e => by have := (HVA.out.1 gv e).2.2.1; omega)
      have HV := Aside0.mk (Kd.R_mono (Kd.R_below HVA.out hW) (ok' := fun _ => True) (fun _ _ => trivial))
      have HGV := Aside0.mk hN
      have HDB := Aside0.mk (show DB.heap.size ≤ U2.heap.size by have := HSZU1.out; omega)
      clear hW hN hS hgv HB K2 K3 K4 HVA HSZU1
      have HB := nB
      have K2 := n2
      have K3 := n3
      have K4 := n4
      clear nB n2 n3 n4
      refine hK.out _ _ ⟨(blk_cell K2.out 2).trans rfl, (blk_cell K3.out 0).trans rfl, (blk_cell K3.out 1).trans rfl⟩ (fun hHeld => ?_)
      clear hK K
      refine norm_ (a' := ?_) ?_ ?_
      rotate_left
      · show Act.put _ (some 26) _ = _
        simp only [Act.put, List.setIfInBounds_toArray, List.set_cons_zero, List.set_cons_succ, i64_w, i32_w]
        rfl
      refine one_ (i := 6) (N := some 27) #[true, true, true, true, true, true, true, false, false] rfl rfl (one_of HT_.out (by kernel_rfl)) (by decide) (fun K hK => ?_)
      refine goes_ Try.func30 (by kernel_rfl) rfl #[.slice T l.length cT, .int .i64 (posN (lessT x) l : Int), .slice (some ⟨gv, 0, none⟩) 1 1] (by rfl) rfl rfl (by (try simp only [List.map_toArray, List.map_cons, List.map_nil]); first | done | rfl) ?_
      refine (insert_calls (.slice T l.length cT) l (posN (lessT x) l) x gv DB.heap.size U2 HV.out HDB.out HGV.out HNE.out (posN_le _ _) HL.out).mono ?_
      rintro ex U4 ⟨v1, rfl, hv1, hb1, -⟩
      change Kd.R k27 27 U4 DB.heap.size (fun _ => True) v1 (insT x l) at hv1
      refine ⟨_, rfl, ?_⟩
      obtain ⟨T1, c1, rfl⟩ := Kd.R_slice hv1
      have nB := Aside0.mk (HB.out.trans (hb1.mono HWD.out))
      have n2 := Aside0.mk ((hb1.block g (by have := HZD.out; omega)).trans K2.out)
      have n3 := Aside0.mk ((hb1.block (g + 1) (by have := HZD.out; omega)).trans K3.out)
      have n4 := Aside0.mk ((hb1.block (g + 1 + 1) (by have := HZD.out; omega)).trans K4.out)
      have HV1 := Aside0.mk (Kd.R_bound hv1)
      clear hv1 hb1 HB K2 K3 K4 HV HNE HGV HDB
      have HB := nB
      have K2 := n2
      have K3 := n3
      have K4 := n4
      clear nB n2 n3 n4
      refine hK.out _ _ ⟨(blk_cell K2.out 2).trans rfl, (blk_cell K3.out 0).trans rfl, (blk_cell K3.out 1).trans rfl⟩ (fun hHeld => ?_)
      clear hK K
      refine norm_ (a' := ?_) ?_ ?_
      rotate_left
      · show Act.put _ (some 27) _ = _
        simp only [Act.put, List.setIfInBounds_toArray, List.set_cons_zero, List.set_cons_succ, i64_w, i32_w]
        rfl
      refine pure_ (i := 7) (N := some 28) (v := ?_) (a' := ?_) #[true, true, true, true, true, true, true, true, false] rfl rfl (any_of HT_.out (by kernel_rfl)) (fun _ _ _ h => h) (Or.inl ⟨by rfl, ?_⟩) ?_ ?_
      rotate_left
      · intro w'
        go_simp
        with_reducible rfl
      rotate_left
      · simp only [Act.put, List.setIfInBounds_toArray, List.set_cons_zero, List.set_cons_succ, i64_w, i32_w]
        rfl
      refine last_ (i := 8) (N := none) #[true, true, true, true, true, true, true, true, true] rfl rfl (one_of HT_.out (by kernel_rfl)) (by decide) (fun K hK => ?_)
      have k2 := blk_cell K2.out 2
      have f2 := blk_frozen K2.out 2
      refine skip_step (w1 := U4.setCell ⟨g, 2, none⟩ (Value.slice T1 (insT x l).length c1)) (by rfl) rfl (by first | (go_simp; done) | (go_simp; rfl)) ?_
      clear k2 f2
      refine hK.out _ _ ?_
      clear hK K
      refine done_ (done_of HT_.out (by kernel_rfl)) ?_
      clear hHeld HT_ HW_
      have hn2 := heap_setCell_same U4 g 2 _ 25 (Value.slice T1 (insT x l).length c1) K2.out
      have hn4 := (heap_setCell_other U4 ⟨g, 2, none⟩ (g + 1 + 1) (Value.slice T1 (insT x l).length c1) (by show g + 1 + 1 ≠ g; omega)).trans K4.out
      have hnv := Kd.R_far (p := ⟨g, 2, none⟩) HV1.out (fun k hk => by have := hk.2.1; have := HZD.out; show k ≠ g; omega) (Value.slice T1 (insT x l).length c1)
      have hnb := HB.out.setCell (p := ⟨g, 2, none⟩) HG.out (Value.slice T1 (insT x l).length c1)
      clear HB K2 K3 K4 HV1
      have HSD := HZD
      have HWW := HWD
      generalize U4.setCell ⟨g, 2, none⟩ (Value.slice T1 (insT x l).length c1) = U5 at hn2 hn4 hnv hnb ⊢
      have HB := Aside0.mk hnb
      have K2 := Aside0.mk hn2
      have K4 := Aside0.mk hn4
      have HV := Aside0.mk hnv
      clear hn2 hn4 hnv hnb
      have k0 := blk_cell K2.out 0
      have k1 := blk_cell K2.out 1
      have k2 := blk_cell K2.out 2
      have c0 := blk_cell K4.out 0
      have c1_ := blk_cell K4.out 1
      have c2 := blk_cell K4.out 2
      have f0 := blk_frozen K4.out 0
      have f1 := blk_frozen K4.out 1
      have f2 := blk_frozen K4.out 2
      go_wp2_with fail
      clear k0 k1 k2 c0 c1_ c2 f0 f1 f2
      refine bodyPost_ret (results_ct rfl _ _ (g + 1 + 1) 25 #[.int .i64 d, .int .i64 n, .slice T1 (insT x l).length c1] (0, 0) _ rfl (put3_heap K4.out _ _ _) Try.underlying25 rfl (by kernel_rfl)) rfl ?_
      rw [HAD.out]
      refine ⟨_, rfl, ?_, put3_below HB.out (by have := HG.out; omega) _ _ _⟩
      exact Kd.R_mono (Kd.R_lower (Kd.R_step HV.out (fun k hk _ => put3_far _ _ _ _ _ (by have := hk.2.1; have := HZD.out; omega))) HWD.out) (fun _ _ => trivial)
    · skip
      refine event_step (W := DB) (w1 := DB.alloc (Obj.cells #[Value.string x.f0, Value.string x.f1] 27)) (v := .slice (some ⟨DB.heap.size, 0, none⟩) 1 1) (by rfl) (by first | (go_simp; done) | (go_simp; rfl)) ?_
      have hW := below_alloc (Below.refl DB.heap.size DB) (Obj.cells #[Value.string x.f0, Value.string x.f1] 27)
      have hN := blk_new DB (Obj.cells #[Value.string x.f0, Value.string x.f1] 27)
      have hS : (DB.alloc (Obj.cells #[Value.string x.f0, Value.string x.f1] 27)).heap.size = DB.heap.size + 1 := World.size_alloc _ _
      obtain ⟨gv, hgv⟩ : ∃ g, g = DB.heap.size := ⟨_, rfl⟩
      rw [← hgv] at hN hS ⊢
      generalize DB.alloc (Obj.cells #[Value.string x.f0, Value.string x.f1] 27) = U1 at hW hN hS ⊢
      have n2 := Aside0.mk (blk_below K2.out hW)
      have n3 := Aside0.mk (blk_below K3.out hW)
      have n4 := Aside0.mk (blk_below K4.out hW)
      have nB := Aside0.mk (below_step HB.out hW)
      have HGV0 := Aside0.mk hN
      have HSG := Aside0.mk (show gv < U1.heap.size ∧ DB.heap.size ≤ U1.heap.size by omega)
      clear hW hN hS hgv HB K2 K3 K4
      have HB := nB
      have K2 := n2
      have K3 := n3
      have K4 := n4
      clear nB n2 n3 n4
      refine hK.out _ _ ⟨(blk_cell K2.out 2).trans rfl, (blk_cell K3.out 0).trans rfl, (blk_cell K3.out 1).trans rfl⟩ (fun hHeld => ?_)
      clear hK K
      refine norm_ (a' := ?_) ?_ ?_
      rotate_left
      · show Act.put _ (some 26) _ = _
        simp only [Act.put, List.setIfInBounds_toArray, List.set_cons_zero, List.set_cons_succ, i64_w, i32_w]
        rfl
      refine one_ (i := 2) (N := some 23) #[true, true, true, true, true, true, false, false, false] rfl rfl (one_of HT_.out (by kernel_rfl)) (by decide) (fun K hK => ?_)
      refine goes_ Try.func31 (by kernel_rfl) rfl #[.slice A l.length c] (by rfl) rfl rfl (by (try simp only [List.map_toArray, List.map_cons, List.map_nil]); first | done | rfl) ?_
      refine (pairs_Clone.calls A c l l U1 (Kd.C_below HC.out HB.out) HCc.out (clone_is HL.out)).mono ?_
      rintro ex U2 ⟨vv, rfl, hv, hb⟩
      refine ⟨_, rfl, ?_⟩
      obtain ⟨T, cT, rfl⟩ := Kd.R_slice hv
      have nB := Aside0.mk (below_step HB.out hb)
      have HSZU2 := Aside0.mk hb.size
      have n2 := Aside0.mk (blk_below K2.out hb)
      have n3 := Aside0.mk (blk_below K3.out hb)
      have n4 := Aside0.mk (blk_below K4.out hb)
      have hvb := Kd.R_bound hv
      have HNE := Aside0.mk (show (Value.slice T l.length cT).ownBlock ≠ some gv from fun e => by have := (hvb.1 gv e).2.1; have := HSG.out; omega)
      have HV := Aside0.mk (Kd.R_lower hv HSG.out.2)
      have HGV := Aside0.mk (blk_below HGV0.out hb)
      have HDB := Aside0.mk (show DB.heap.size ≤ U2.heap.size by have := HSG.out; have := hb.size; omega)
      clear hv hvb hb HB K2 K3 K4 HGV0 HSG HSZU2
      have HB := nB
      have K2 := n2
      have K3 := n3
      have K4 := n4
      clear nB n2 n3 n4
      refine hK.out _ _ ⟨(blk_cell K2.out 2).trans rfl, (blk_cell K3.out 0).trans rfl, (blk_cell K3.out 1).trans rfl⟩ (fun hHeld => ?_)
      clear hK K
      refine norm_ (a' := ?_) ?_ ?_
      rotate_left
      · show Act.put _ (some 23) _ = _
        simp only [Act.put, List.setIfInBounds_toArray, List.set_cons_zero, List.set_cons_succ, i64_w, i32_w]
        rfl
      refine one_ (i := 6) (N := some 27) #[true, true, true, true, true, true, true, false, false] rfl rfl (one_of HT_.out (by kernel_rfl)) (by decide) (fun K hK => ?_)
      refine goes_ Try.func30 (by kernel_rfl) rfl #[.slice T l.length cT, .int .i64 (posN (lessT x) l : Int), .slice (some ⟨gv, 0, none⟩) 1 1] (by rfl) rfl rfl (by (try simp only [List.map_toArray, List.map_cons, List.map_nil]); first | done | rfl) ?_
      refine (insert_calls (.slice T l.length cT) l (posN (lessT x) l) x gv DB.heap.size U2 HV.out HDB.out HGV.out HNE.out (posN_le _ _) HL.out).mono ?_
      rintro ex U4 ⟨v1, rfl, hv1, hb1, -⟩
      change Kd.R k27 27 U4 DB.heap.size (fun _ => True) v1 (insT x l) at hv1
      refine ⟨_, rfl, ?_⟩
      obtain ⟨T1, c1, rfl⟩ := Kd.R_slice hv1
      have nB := Aside0.mk (HB.out.trans (hb1.mono HWD.out))
      have n2 := Aside0.mk ((hb1.block g (by have := HZD.out; omega)).trans K2.out)
      have n3 := Aside0.mk ((hb1.block (g + 1) (by have := HZD.out; omega)).trans K3.out)
      have n4 := Aside0.mk ((hb1.block (g + 1 + 1) (by have := HZD.out; omega)).trans K4.out)
      have HV1 := Aside0.mk (Kd.R_bound hv1)
      clear hv1 hb1 HB K2 K3 K4 HV HNE HGV HDB
      have HB := nB
      have K2 := n2
      have K3 := n3
      have K4 := n4
      clear nB n2 n3 n4
      refine hK.out _ _ ⟨(blk_cell K2.out 2).trans rfl, (blk_cell K3.out 0).trans rfl, (blk_cell K3.out 1).trans rfl⟩ (fun hHeld => ?_)
      clear hK K
      refine norm_ (a' := ?_) ?_ ?_
      rotate_left
      · show Act.put _ (some 27) _ = _
        simp only [Act.put, List.setIfInBounds_toArray, List.set_cons_zero, List.set_cons_succ, i64_w, i32_w]
        rfl
      refine pure_ (i := 7) (N := some 28) (v := ?_) (a' := ?_) #[true, true, true, true, true, true, true, true, false] rfl rfl (any_of HT_.out (by kernel_rfl)) (fun _ _ _ h => h) (Or.inl ⟨by rfl, ?_⟩) ?_ ?_
      rotate_left
      · intro w'
        go_simp
        with_reducible rfl
      rotate_left
      · simp only [Act.put, List.setIfInBounds_toArray, List.set_cons_zero, List.set_cons_succ, i64_w, i32_w]
        rfl
      refine last_ (i := 8) (N := none) #[true, true, true, true, true, true, true, true, true] rfl rfl (one_of HT_.out (by kernel_rfl)) (by decide) (fun K hK => ?_)
      have k2 := blk_cell K2.out 2
      have f2 := blk_frozen K2.out 2
      refine skip_step (w1 := U4.setCell ⟨g, 2, none⟩ (Value.slice T1 (insT x l).length c1)) (by rfl) rfl (by first | (go_simp; done) | (go_simp; rfl)) ?_
      clear k2 f2
      refine hK.out _ _ ?_
      clear hK K
      refine done_ (done_of HT_.out (by kernel_rfl)) ?_
      clear hHeld HT_ HW_
      have hn2 := heap_setCell_same U4 g 2 _ 25 (Value.slice T1 (insT x l).length c1) K2.out
      have hn4 := (heap_setCell_other U4 ⟨g, 2, none⟩ (g + 1 + 1) (Value.slice T1 (insT x l).length c1) (by show g + 1 + 1 ≠ g; omega)).trans K4.out
      have hnv := Kd.R_far (p := ⟨g, 2, none⟩) HV1.out (fun k hk => by have := hk.2.1; have := HZD.out; show k ≠ g; omega) (Value.slice T1 (insT x l).length c1)
      have hnb := HB.out.setCell (p := ⟨g, 2, none⟩) HG.out (Value.slice T1 (insT x l).length c1)
      clear HB K2 K3 K4 HV1
      have HSD := HZD
      have HWW := HWD
      generalize U4.setCell ⟨g, 2, none⟩ (Value.slice T1 (insT x l).length c1) = U5 at hn2 hn4 hnv hnb ⊢
      have HB := Aside0.mk hnb
      have K2 := Aside0.mk hn2
      have K4 := Aside0.mk hn4
      have HV := Aside0.mk hnv
      clear hn2 hn4 hnv hnb
      have k0 := blk_cell K2.out 0
      have k1 := blk_cell K2.out 1
      have k2 := blk_cell K2.out 2
      have c0 := blk_cell K4.out 0
      have c1_ := blk_cell K4.out 1
      have c2 := blk_cell K4.out 2
      have f0 := blk_frozen K4.out 0
      have f1 := blk_frozen K4.out 1
      have f2 := blk_frozen K4.out 2
      go_wp2_with fail
      clear k0 k1 k2 c0 c1_ c2 f0 f1 f2
      refine bodyPost_ret (results_ct rfl _ _ (g + 1 + 1) 25 #[.int .i64 d, .int .i64 n, .slice T1 (insT x l).length c1] (0, 0) _ rfl (put3_heap K4.out _ _ _) Try.underlying25 rfl (by kernel_rfl)) rfl ?_
      rw [HAD.out]
      refine ⟨_, rfl, ?_, put3_below HB.out (by have := HG.out; omega) _ _ _⟩
      exact Kd.R_mono (Kd.R_lower (Kd.R_step HV.out (fun k hk _ => put3_far _ _ _ _ _ (by have := hk.2.1; have := HZD.out; omega))) HWD.out) (fun _ _ => trivial)
  · have e1 : ixT (fun y => lessT x y) l 0 = (posN (lessT x) l : Int) := by rw [Nat.zero_add] at h1; exact h1
    rw [e1]
    clear h1 e1
    have b1 : decide ((posN (lessT x) l : Int) < 0) = false := decide_eq_false (by omega)
    go_upto_region 6 with fail
    clear k2 b1
    have HB0 := Aside0.mk HB.out.drew
    have n2 : Aside0 (W5.drew.heap[g]? = _) := Aside0.mk K2.out
    have n3 : Aside0 (W5.drew.heap[g + 1]? = _) := Aside0.mk K3.out
    have n4 : Aside0 (W5.drew.heap[g + 1 + 1]? = _) := Aside0.mk K4.out
    have nZ : Aside0 (g + 1 + 1 < W5.drew.heap.size) := Aside0.mk HZ.out
    have nW : Aside0 (w.heap.size ≤ W5.drew.heap.size) := Aside0.mk HB.out.size
    clear HB K2 K3 K4 HZ
    have HB := HB0
    have K2 := n2
    have K3 := n3
    have K4 := n4
    have HZD := nZ
    have HWD := nW
    clear HB0 n2 n3 n4 nZ nW
    refine start_ (n := 9) (S := fun w' => w'.cell? ⟨g, 2, none⟩ = some (.slice A l.length c) ∧ w'.cell? ⟨g + 1, 0, none⟩ = some (.string x.f0) ∧ w'.cell? ⟨g + 1, 1, none⟩ = some (.string x.f1)) (ds := [8]) #[false, false, false, false, false, false, false, false, false] (by kernel_rfl) rfl rfl ⟨(blk_cell K2.out 2).trans rfl, (blk_cell K3.out 0).trans rfl, (blk_cell K3.out 1).trans rfl⟩ (fun hHeld => ?_); refine with_tabW Add.tab6 Add.bits6 (fun HT_ HW_ => ?_)
    generalize W5.drew = DB at HB K2 K3 K4 HZD HWD hHeld ⊢
    refine pure_ (i := 0) (N := some 21) (v := ?_) (a' := ?_) #[true, false, false, false, false, false, false, false, false] rfl rfl (any_of HT_.out (by kernel_rfl)) (fun _ _ _ h => h) (Or.inl ⟨by rfl, ?_⟩) ?_ ?_
    rotate_left
    · intro w'
      go_simp
      with_reducible rfl
    rotate_left
    · simp only [Act.put, List.setIfInBounds_toArray, List.set_cons_zero, List.set_cons_succ, i64_w, i32_w]
      rfl
    refine take_ (i := 1) (N := some 22) (v := ?_) (a' := ?_) #[true, true, false, false, false, false, false, false, false] rfl rfl (take_ofW HT_.out HW_.out (by kernel_rfl)) (fun _ _ _ h => h) (Or.inl ⟨by rfl, ?_⟩) hHeld ?_ ?_
    rotate_left
    · rintro w' ⟨s0, s1, s2⟩
      go_simp
      with_reducible rfl
    rotate_left
    · simp only [Act.put, List.setIfInBounds_toArray, List.set_cons_zero, List.set_cons_succ, i64_w, i32_w]
      rfl
    refine pure_ (i := 3) (N := some 24) (v := ?_) (a' := ?_) #[true, true, false, true, false, false, false, false, false] rfl rfl (any_of HT_.out (by kernel_rfl)) (fun _ _ _ h => h) (Or.inl ⟨by rfl, ?_⟩) ?_ ?_
    rotate_left
    · intro w'
      go_simp
      with_reducible rfl
    rotate_left
    · simp only [Act.put, List.setIfInBounds_toArray, List.set_cons_zero, List.set_cons_succ, i64_w, i32_w]
      rfl
    refine take_ (i := 4) (N := some 25) (v := ?_) (a' := ?_) #[true, true, false, true, true, false, false, false, false] rfl rfl (take_ofW HT_.out HW_.out (by kernel_rfl)) (fun _ _ _ h => h) (Or.inl ⟨by rfl, ?_⟩) hHeld ?_ ?_
    rotate_left
    · rintro w' ⟨s0, s1, s2⟩
      go_simp
      with_reducible rfl
    rotate_left
    · simp only [Act.put, List.setIfInBounds_toArray, List.set_cons_zero, List.set_cons_succ, i64_w, i32_w]
      rfl
    refine two_ (i := 2) (j := 5) (Ni := some 23) (Nj := some 26) #[true, true, true, true, true, false, false, false, false] #[true, true, false, true, true, true, false, false, false] rfl rfl rfl rfl (two_of HT_.out (by kernel_rfl)) (by decide) (by decide) (fun K hK => ?_) (fun K hK => ?_)
    · skip
      refine goes_ Try.func31 (by kernel_rfl) rfl #[.slice A l.length c] (by rfl) rfl rfl (by (try simp only [List.map_toArray, List.map_cons, List.map_nil]); first | done | rfl) ?_
      refine (pairs_Clone.calls A c l l DB (Kd.C_below HC.out HB.out) HCc.out (clone_is HL.out)).mono ?_
      rintro ex U1 ⟨vv, rfl, hv, hb⟩
      refine ⟨_, rfl, ?_⟩
      obtain ⟨T, cT, rfl⟩ := Kd.R_slice hv
      have nB := Aside0.mk (below_step HB.out hb)
      have HSZU1 := Aside0.mk hb.size
      have n2 := Aside0.mk (blk_below K2.out hb)
      have n3 := Aside0.mk (blk_below K3.out hb)
      have n4 := Aside0.mk (blk_below K4.out hb)
      have HVA := Aside0.mk (Kd.R_bound hv)
      clear hv hb HB K2 K3 K4
      have HB := nB
      have K2 := n2
      have K3 := n3
      have K4 := n4
      clear nB n2 n3 n4
      refine hK.out _ _ ⟨(blk_cell K2.out 2).trans rfl, (blk_cell K3.out 0).trans rfl, (blk_cell K3.out 1).trans rfl⟩ (fun hHeld => ?_)
      clear hK K
      refine norm_ (a' := ?_) ?_ ?_
      rotate_left
      · show Act.put _ (some 23) _ = _
        simp only [Act.put, List.setIfInBounds_toArray, List.set_cons_zero, List.set_cons_succ, i64_w, i32_w]
        rfl
      refine one_ (i := 5) (N := some 26) #[true, true, true, true, true, true, false, false, false] rfl rfl (one_of HT_.out (by kernel_rfl)) (by decide) (fun K hK => ?_)
      refine event_step (W := U1) (w1 := U1.alloc (Obj.cells #[Value.string x.f0, Value.string x.f1] 27)) (v := .slice (some ⟨U1.heap.size, 0, none⟩) 1 1) (by rfl) (by first | (go_simp; done) | (go_simp; rfl)) ?_
      have hW := below_alloc (Below.refl U1.heap.size U1) (Obj.cells #[Value.string x.f0, Value.string x.f1] 27)
      have hN := blk_new U1 (Obj.cells #[Value.string x.f0, Value.string x.f1] 27)
      have hS : (U1.alloc (Obj.cells #[Value.string x.f0, Value.string x.f1] 27)).heap.size = U1.heap.size + 1 := World.size_alloc _ _
      obtain ⟨gv, hgv⟩ : ∃ g, g = U1.heap.size := ⟨_, rfl⟩
      rw [← hgv] at hN hS ⊢
      generalize U1.alloc (Obj.cells #[Value.string x.f0, Value.string x.f1] 27) = U2 at hW hN hS ⊢
      have n2 := Aside0.mk (blk_below K2.out hW)
      have n3 := Aside0.mk (blk_below K3.out hW)
      have n4 := Aside0.mk (blk_below K4.out hW)
      have nB := Aside0.mk (below_step HB.out hW)
      have HNE := Aside0.mk (show (Value.slice T l.length cT).ownBlock ≠ some gv from fun e => by have := (HVA.out.1 gv e).2.2.1; omega)
      have HV := Aside0.mk (Kd.R_mono (Kd.R_below HVA.out hW) (ok' := fun _ => True) (fun _ _ => trivial))
      have HGV := Aside0.mk hN
      have HDB := Aside0.mk (show DB.heap.size ≤ U2.heap.size by have := HSZU1.out; omega)
      clear hW hN hS hgv HB K2 K3 K4 HVA HSZU1
      have HB := nB
      have K2 := n2
      have K3 := n3
      have K4 := n4
      clear nB n2 n3 n4
      refine hK.out _ _ ⟨(blk_cell K2.out 2).trans rfl, (blk_cell K3.out 0).trans rfl, (blk_cell K3.out 1).trans rfl⟩ (fun hHeld => ?_)
      clear hK K
      refine norm_ (a' := ?_) ?_ ?_
      rotate_left
      · show Act.put _ (some 26) _ = _
        simp only [Act.put, List.setIfInBounds_toArray, List.set_cons_zero, List.set_cons_succ, i64_w, i32_w]
        rfl
      refine one_ (i := 6) (N := some 27) #[true, true, true, true, true, true, true, false, false] rfl rfl (one_of HT_.out (by kernel_rfl)) (by decide) (fun K hK => ?_)
      refine goes_ Try.func30 (by kernel_rfl) rfl #[.slice T l.length cT, .int .i64 (posN (lessT x) l : Int), .slice (some ⟨gv, 0, none⟩) 1 1] (by rfl) rfl rfl (by (try simp only [List.map_toArray, List.map_cons, List.map_nil]); first | done | rfl) ?_
      refine (insert_calls (.slice T l.length cT) l (posN (lessT x) l) x gv DB.heap.size U2 HV.out HDB.out HGV.out HNE.out (posN_le _ _) HL.out).mono ?_
      rintro ex U4 ⟨v1, rfl, hv1, hb1, -⟩
      change Kd.R k27 27 U4 DB.heap.size (fun _ => True) v1 (insT x l) at hv1
      refine ⟨_, rfl, ?_⟩
      obtain ⟨T1, c1, rfl⟩ := Kd.R_slice hv1
      have nB := Aside0.mk (HB.out.trans (hb1.mono HWD.out))
      have n2 := Aside0.mk ((hb1.block g (by have := HZD.out; omega)).trans K2.out)
      have n3 := Aside0.mk ((hb1.block (g + 1) (by have := HZD.out; omega)).trans K3.out)
      have n4 := Aside0.mk ((hb1.block (g + 1 + 1) (by have := HZD.out; omega)).trans K4.out)
      have HV1 := Aside0.mk (Kd.R_bound hv1)
      clear hv1 hb1 HB K2 K3 K4 HV HNE HGV HDB
      have HB := nB
      have K2 := n2
      have K3 := n3
      have K4 := n4
      clear nB n2 n3 n4
      refine hK.out _ _ ⟨(blk_cell K2.out 2).trans rfl, (blk_cell K3.out 0).trans rfl, (blk_cell K3.out 1).trans rfl⟩ (fun hHeld => ?_)
      clear hK K
      refine norm_ (a' := ?_) ?_ ?_
      rotate_left
      · show Act.put _ (some 27) _ = _
        simp only [Act.put, List.setIfInBounds_toArray, List.set_cons_zero, List.set_cons_succ, i64_w, i32_w]
        rfl
      refine pure_ (i := 7) (N := some 28) (v := ?_) (a' := ?_) #[true, true, true, true, true, true, true, true, false] rfl rfl (any_of HT_.out (by kernel_rfl)) (fun _ _ _ h => h) (Or.inl ⟨by rfl, ?_⟩) ?_ ?_
      rotate_left
      · intro w'
        go_simp
        with_reducible rfl
      rotate_left
      · simp only [Act.put, List.setIfInBounds_toArray, List.set_cons_zero, List.set_cons_succ, i64_w, i32_w]
        rfl
      refine last_ (i := 8) (N := none) #[true, true, true, true, true, true, true, true, true] rfl rfl (one_of HT_.out (by kernel_rfl)) (by decide) (fun K hK => ?_)
      have k2 := blk_cell K2.out 2
      have f2 := blk_frozen K2.out 2
      refine skip_step (w1 := U4.setCell ⟨g, 2, none⟩ (Value.slice T1 (insT x l).length c1)) (by rfl) rfl (by first | (go_simp; done) | (go_simp; rfl)) ?_
      clear k2 f2
      refine hK.out _ _ ?_
      clear hK K
      refine done_ (done_of HT_.out (by kernel_rfl)) ?_
      clear hHeld HT_ HW_
      have hn2 := heap_setCell_same U4 g 2 _ 25 (Value.slice T1 (insT x l).length c1) K2.out
      have hn4 := (heap_setCell_other U4 ⟨g, 2, none⟩ (g + 1 + 1) (Value.slice T1 (insT x l).length c1) (by show g + 1 + 1 ≠ g; omega)).trans K4.out
      have hnv := Kd.R_far (p := ⟨g, 2, none⟩) HV1.out (fun k hk => by have := hk.2.1; have := HZD.out; show k ≠ g; omega) (Value.slice T1 (insT x l).length c1)
      have hnb := HB.out.setCell (p := ⟨g, 2, none⟩) HG.out (Value.slice T1 (insT x l).length c1)
      clear HB K2 K3 K4 HV1
      have HSD := HZD
      have HWW := HWD
      generalize U4.setCell ⟨g, 2, none⟩ (Value.slice T1 (insT x l).length c1) = U5 at hn2 hn4 hnv hnb ⊢
      have HB := Aside0.mk hnb
      have K2 := Aside0.mk hn2
      have K4 := Aside0.mk hn4
      have HV := Aside0.mk hnv
      clear hn2 hn4 hnv hnb
      have k0 := blk_cell K2.out 0
      have k1 := blk_cell K2.out 1
      have k2 := blk_cell K2.out 2
      have c0 := blk_cell K4.out 0
      have c1_ := blk_cell K4.out 1
      have c2 := blk_cell K4.out 2
      have f0 := blk_frozen K4.out 0
      have f1 := blk_frozen K4.out 1
      have f2 := blk_frozen K4.out 2
      go_wp2_with fail
      clear k0 k1 k2 c0 c1_ c2 f0 f1 f2
      refine bodyPost_ret (results_ct rfl _ _ (g + 1 + 1) 25 #[.int .i64 d, .int .i64 n, .slice T1 (insT x l).length c1] (0, 0) _ rfl (put3_heap K4.out _ _ _) Try.underlying25 rfl (by kernel_rfl)) rfl ?_
      rw [HAD.out]
      refine ⟨_, rfl, ?_, put3_below HB.out (by have := HG.out; omega) _ _ _⟩
      exact Kd.R_mono (Kd.R_lower (Kd.R_step HV.out (fun k hk _ => put3_far _ _ _ _ _ (by have := hk.2.1; have := HZD.out; omega))) HWD.out) (fun _ _ => trivial)
    · skip
      refine event_step (W := DB) (w1 := DB.alloc (Obj.cells #[Value.string x.f0, Value.string x.f1] 27)) (v := .slice (some ⟨DB.heap.size, 0, none⟩) 1 1) (by rfl) (by first | (go_simp; done) | (go_simp; rfl)) ?_
      have hW := below_alloc (Below.refl DB.heap.size DB) (Obj.cells #[Value.string x.f0, Value.string x.f1] 27)
      have hN := blk_new DB (Obj.cells #[Value.string x.f0, Value.string x.f1] 27)
      have hS : (DB.alloc (Obj.cells #[Value.string x.f0, Value.string x.f1] 27)).heap.size = DB.heap.size + 1 := World.size_alloc _ _
      obtain ⟨gv, hgv⟩ : ∃ g, g = DB.heap.size := ⟨_, rfl⟩
      rw [← hgv] at hN hS ⊢
      generalize DB.alloc (Obj.cells #[Value.string x.f0, Value.string x.f1] 27) = U1 at hW hN hS ⊢
      have n2 := Aside0.mk (blk_below K2.out hW)
      have n3 := Aside0.mk (blk_below K3.out hW)
      have n4 := Aside0.mk (blk_below K4.out hW)
      have nB := Aside0.mk (below_step HB.out hW)
      have HGV0 := Aside0.mk hN
      have HSG := Aside0.mk (show gv < U1.heap.size ∧ DB.heap.size ≤ U1.heap.size by omega)
      clear hW hN hS hgv HB K2 K3 K4
      have HB := nB
      have K2 := n2
      have K3 := n3
      have K4 := n4
      clear nB n2 n3 n4
      refine hK.out _ _ ⟨(blk_cell K2.out 2).trans rfl, (blk_cell K3.out 0).trans rfl, (blk_cell K3.out 1).trans rfl⟩ (fun hHeld => ?_)
      clear hK K
      refine norm_ (a' := ?_) ?_ ?_
      rotate_left
      · show Act.put _ (some 26) _ = _
        simp only [Act.put, List.setIfInBounds_toArray, List.set_cons_zero, List.set_cons_succ, i64_w, i32_w]
        rfl
      refine one_ (i := 2) (N := some 23) #[true, true, true, true, true, true, false, false, false] rfl rfl (one_of HT_.out (by kernel_rfl)) (by decide) (fun K hK => ?_)
      refine goes_ Try.func31 (by kernel_rfl) rfl #[.slice A l.length c] (by rfl) rfl rfl (by (try simp only [List.map_toArray, List.map_cons, List.map_nil]); first | done | rfl) ?_
      refine (pairs_Clone.calls A c l l U1 (Kd.C_below HC.out HB.out) HCc.out (clone_is HL.out)).mono ?_
      rintro ex U2 ⟨vv, rfl, hv, hb⟩
      refine ⟨_, rfl, ?_⟩
      obtain ⟨T, cT, rfl⟩ := Kd.R_slice hv
      have nB := Aside0.mk (below_step HB.out hb)
      have HSZU2 := Aside0.mk hb.size
      have n2 := Aside0.mk (blk_below K2.out hb)
      have n3 := Aside0.mk (blk_below K3.out hb)
      have n4 := Aside0.mk (blk_below K4.out hb)
      have hvb := Kd.R_bound hv
      have HNE := Aside0.mk (show (Value.slice T l.length cT).ownBlock ≠ some gv from fun e => by have := (hvb.1 gv e).2.1; have := HSG.out; omega)
      have HV := Aside0.mk (Kd.R_lower hv HSG.out.2)
      have HGV := Aside0.mk (blk_below HGV0.out hb)
      have HDB := Aside0.mk (show DB.heap.size ≤ U2.heap.size by have := HSG.out; have := hb.size; omega)
      clear hv hvb hb HB K2 K3 K4 HGV0 HSG HSZU2
      have HB := nB
      have K2 := n2
      have K3 := n3
      have K4 := n4
      clear nB n2 n3 n4
      refine hK.out _ _ ⟨(blk_cell K2.out 2).trans rfl, (blk_cell K3.out 0).trans rfl, (blk_cell K3.out 1).trans rfl⟩ (fun hHeld => ?_)
      clear hK K
      refine norm_ (a' := ?_) ?_ ?_
      rotate_left
      · show Act.put _ (some 23) _ = _
        simp only [Act.put, List.setIfInBounds_toArray, List.set_cons_zero, List.set_cons_succ, i64_w, i32_w]
        rfl
      refine one_ (i := 6) (N := some 27) #[true, true, true, true, true, true, true, false, false] rfl rfl (one_of HT_.out (by kernel_rfl)) (by decide) (fun K hK => ?_)
      refine goes_ Try.func30 (by kernel_rfl) rfl #[.slice T l.length cT, .int .i64 (posN (lessT x) l : Int), .slice (some ⟨gv, 0, none⟩) 1 1] (by rfl) rfl rfl (by (try simp only [List.map_toArray, List.map_cons, List.map_nil]); first | done | rfl) ?_
      refine (insert_calls (.slice T l.length cT) l (posN (lessT x) l) x gv DB.heap.size U2 HV.out HDB.out HGV.out HNE.out (posN_le _ _) HL.out).mono ?_
      rintro ex U4 ⟨v1, rfl, hv1, hb1, -⟩
      change Kd.R k27 27 U4 DB.heap.size (fun _ => True) v1 (insT x l) at hv1
      refine ⟨_, rfl, ?_⟩
      obtain ⟨T1, c1, rfl⟩ := Kd.R_slice hv1
      have nB := Aside0.mk (HB.out.trans (hb1.mono HWD.out))
      have n2 := Aside0.mk ((hb1.block g (by have := HZD.out; omega)).trans K2.out)
      have n3 := Aside0.mk ((hb1.block (g + 1) (by have := HZD.out; omega)).trans K3.out)
      have n4 := Aside0.mk ((hb1.block (g + 1 + 1) (by have := HZD.out; omega)).trans K4.out)
      have HV1 := Aside0.mk (Kd.R_bound hv1)
      clear hv1 hb1 HB K2 K3 K4 HV HNE HGV HDB
      have HB := nB
      have K2 := n2
      have K3 := n3
      have K4 := n4
      clear nB n2 n3 n4
      refine hK.out _ _ ⟨(blk_cell K2.out 2).trans rfl, (blk_cell K3.out 0).trans rfl, (blk_cell K3.out 1).trans rfl⟩ (fun hHeld => ?_)
      clear hK K
      refine norm_ (a' := ?_) ?_ ?_
      rotate_left
      · show Act.put _ (some 27) _ = _
        simp only [Act.put, List.setIfInBounds_toArray, List.set_cons_zero, List.set_cons_succ, i64_w, i32_w]
        rfl
      refine pure_ (i := 7) (N := some 28) (v := ?_) (a' := ?_) #[true, true, true, true, true, true, true, true, false] rfl rfl (any_of HT_.out (by kernel_rfl)) (fun _ _ _ h => h) (Or.inl ⟨by rfl, ?_⟩) ?_ ?_
      rotate_left
      · intro w'
        go_simp
        with_reducible rfl
      rotate_left
      · simp only [Act.put, List.setIfInBounds_toArray, List.set_cons_zero, List.set_cons_succ, i64_w, i32_w]
        rfl
      refine last_ (i := 8) (N := none) #[true, true, true, true, true, true, true, true, true] rfl rfl (one_of HT_.out (by kernel_rfl)) (by decide) (fun K hK => ?_)
      have k2 := blk_cell K2.out 2
      have f2 := blk_frozen K2.out 2
      refine skip_step (w1 := U4.setCell ⟨g, 2, none⟩ (Value.slice T1 (insT x l).length c1)) (by rfl) rfl (by first | (go_simp; done) | (go_simp; rfl)) ?_
      clear k2 f2
      refine hK.out _ _ ?_
      clear hK K
      refine done_ (done_of HT_.out (by kernel_rfl)) ?_
      clear hHeld HT_ HW_
      have hn2 := heap_setCell_same U4 g 2 _ 25 (Value.slice T1 (insT x l).length c1) K2.out
      have hn4 := (heap_setCell_other U4 ⟨g, 2, none⟩ (g + 1 + 1) (Value.slice T1 (insT x l).length c1) (by show g + 1 + 1 ≠ g; omega)).trans K4.out
      have hnv := Kd.R_far (p := ⟨g, 2, none⟩) HV1.out (fun k hk => by have := hk.2.1; have := HZD.out; show k ≠ g; omega) (Value.slice T1 (insT x l).length c1)
      have hnb := HB.out.setCell (p := ⟨g, 2, none⟩) HG.out (Value.slice T1 (insT x l).length c1)
      clear HB K2 K3 K4 HV1
      have HSD := HZD
      have HWW := HWD
      generalize U4.setCell ⟨g, 2, none⟩ (Value.slice T1 (insT x l).length c1) = U5 at hn2 hn4 hnv hnb ⊢
      have HB := Aside0.mk hnb
      have K2 := Aside0.mk hn2
      have K4 := Aside0.mk hn4
      have HV := Aside0.mk hnv
      clear hn2 hn4 hnv hnb
      have k0 := blk_cell K2.out 0
      have k1 := blk_cell K2.out 1
      have k2 := blk_cell K2.out 2
      have c0 := blk_cell K4.out 0
      have c1_ := blk_cell K4.out 1
      have c2 := blk_cell K4.out 2
      have f0 := blk_frozen K4.out 0
      have f1 := blk_frozen K4.out 1
      have f2 := blk_frozen K4.out 2
      go_wp2_with fail
      clear k0 k1 k2 c0 c1_ c2 f0 f1 f2
      refine bodyPost_ret (results_ct rfl _ _ (g + 1 + 1) 25 #[.int .i64 d, .int .i64 n, .slice T1 (insT x l).length c1] (0, 0) _ rfl (put3_heap K4.out _ _ _) Try.underlying25 rfl (by kernel_rfl)) rfl ?_
      rw [HAD.out]
      refine ⟨_, rfl, ?_, put3_below HB.out (by have := HG.out; omega) _ _ _⟩
      exact Kd.R_mono (Kd.R_lower (Kd.R_step HV.out (fun k hk _ => put3_far _ _ _ _ _ (by have := hk.2.1; have := HZD.out; omega))) HWD.out) (fun _ _ => trivial)
end Go.Proofs.Ytgbjinonlfhciaa.MBk
