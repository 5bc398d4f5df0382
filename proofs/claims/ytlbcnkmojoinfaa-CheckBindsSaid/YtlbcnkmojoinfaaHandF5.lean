/- The contracts of check.of and check.act. -/
import Derived.Test.YtlbcnkmojoinfaaHandF4
namespace Go.Proofs.Ytlbcnkmojoinfaa.ChecksV
open Go.RowKit Go.Proofs.Ytlbcnkmojoinfaa.MCk
/-- The class that an act is of: its name, its attributes, and an error. -/
def ofT (l : List S30) (conds : List S44) (kind : Int) (cls : ByteArray) (n : Int) : ByteArray × List ByteArray × Int :=
  if kind = 0 then (if (foundT l cls).2.2 = true then ((foundT l cls).1, (foundT l cls).2.1, 0) else ((foundT l cls).1, (foundT l cls).2.1, 18))
  else if kind = 1 ∨ kind = 2 then (if n < 1 ∨ n > conds.length ∨ (rd_T44 conds (n - 1)).f0 = true then (⟨#[]⟩, [], 12) else ((foundT l (rd_T44 conds (n - 1)).f1).1, (foundT l (rd_T44 conds (n - 1)).f1).2.1, 0))
  else (⟨#[]⟩, [], 0)
end Go.Proofs.Ytlbcnkmojoinfaa.ChecksV
namespace Go.Proofs.Ytlbcnkmojoinfaa.MCk
open Go.RowKit Go.Maps Go.Proofs.Ytlbcnkmojoinfaa.Hand Go.Proofs.Ytlbcnkmojoinfaa.ChecksV Go.Proofs.YtlbcnkmojoinfaaW.PrintWords Go.Proofs.YtlbcnkmojoinfaaW.PrintLast Go.Proofs.YtlbcnkmojoinfaaW.PrintMore
set_option linter.unusedVariables false
set_option linter.unusedSimpArgs false
set_option maxHeartbeats 8000000 in
set_option maxRecDepth 100000 in
theorem check_of (l : List S30) (A0 : Option Addr) (c0 : Nat) (rn : ByteArray) (conds : List S44) (AC : Option Addr) (cC : Nat) (vA : Value) (kind : Int) (cls : ByteArray) (n : Int) (v3 v4 v5 : Value) (w : World)
    (hC : Kd.C k30 w A0 l.length l) (hc0 : l.length ≤ c0) (hK : Kd.C k44 w AC conds.length conds) (hl : l.length ≤ 1000) (hcl : conds.length ≤ 1000)
    (h1A : vA.oneCell' = true) (h13 : v3.oneCell' = true) (h14 : v4.oneCell' = true) (h15 : v5.oneCell' = true) :
    Calls Try.prog 35 #[.slice A0 l.length c0, .agg #[.string rn, .slice AC conds.length cC, vA], .agg #[.int .u8 kind, .string cls, .int .i64 n, v3, v4, v5]] w fun e w' => ∃ A c, e = .returned (.tuple #[.agg #[.string (ofT l conds kind cls n).1, .slice A (ofT l conds kind cls n).2.1.length c], .int .i64 (ofT l conds kind cls n).2.2]) ∧ (ofT l conds kind cls n).2.1.length ≤ c ∧ Kd.C Kd.string w' A (ofT l conds kind cls n).2.1.length (ofT l conds kind cls n).2.1 ∧ Below w.heap.size w w' := by
  have HC := Aside0.mk hC
  have HL0 := Aside0.mk hc0
  have HK := Aside0.mk hK
  have HL := Aside0.mk hl
  have HCL := Aside0.mk hcl
  clear hC hc0 hK hl hcl
  go_enter Try.func35, Try.ntmps35
  go_upto_region 1 with fail
  obtain ⟨g4, hg_g4⟩ : ∃ g, g = w.heap.size := ⟨_, rfl⟩
  have hW_W1 := below_alloc (Below.refl w.heap.size w) (Obj.cells #[Value.string rn, Value.slice AC conds.length cC, vA] 38)
  have hN_W1 := blk_new w (Obj.cells #[Value.string rn, Value.slice AC conds.length cC, vA] 38)
  have hS_W1 : (w.alloc (Obj.cells #[Value.string rn, Value.slice AC conds.length cC, vA] 38)).heap.size = w.heap.size + 1 := World.size_alloc _ _
  rw [← hg_g4] at hN_W1 hS_W1 ⊢
  generalize w.alloc (Obj.cells #[Value.string rn, Value.slice AC conds.length cC, vA] 38) = W1 at hW_W1 hN_W1 hS_W1 ⊢
  have hW_W2 := below_alloc (Below.refl W1.heap.size W1) (Obj.cells #[Value.int IntKind.u8 kind, Value.string cls, Value.int IntKind.i64 n, v3, v4, v5] 65)
  have hN_W2 := blk_new W1 (Obj.cells #[Value.int IntKind.u8 kind, Value.string cls, Value.int IntKind.i64 n, v3, v4, v5] 65)
  have hS_W2 : (W1.alloc (Obj.cells #[Value.int IntKind.u8 kind, Value.string cls, Value.int IntKind.i64 n, v3, v4, v5] 65)).heap.size = W1.heap.size + 1 := World.size_alloc _ _
  rw [hS_W1] at hN_W2 hS_W2
  generalize W1.alloc (Obj.cells #[Value.int IntKind.u8 kind, Value.string cls, Value.int IntKind.i64 n, v3, v4, v5] 65) = W2 at hW_W2 hN_W2 hS_W2 ⊢
  have hW_W3 := below_alloc (Below.refl W2.heap.size W2) (Obj.cells #[Value.string { data := #[] }, Value.slice none 0 0] 30)
  have hN_W3 := blk_new W2 (Obj.cells #[Value.string { data := #[] }, Value.slice none 0 0] 30)
  have hS_W3 : (W2.alloc (Obj.cells #[Value.string { data := #[] }, Value.slice none 0 0] 30)).heap.size = W2.heap.size + 1 := World.size_alloc _ _
  rw [hS_W2] at hN_W3 hS_W3
  generalize W2.alloc (Obj.cells #[Value.string { data := #[] }, Value.slice none 0 0] 30) = W3 at hW_W3 hN_W3 hS_W3 ⊢
  have HB := Aside0.mk (below_step (below_step hW_W1 hW_W2) hW_W3)
  have HK4 := Aside0.mk (blk_below (blk_below hN_W1 hW_W2) hW_W3)
  have HK5 := Aside0.mk (blk_below hN_W2 hW_W3)
  have HK6 := Aside0.mk hN_W3
  have HG := Aside0.mk (show w.heap.size ≤ g4 by omega)
  have HZ := Aside0.mk (show g4 + 1 + 1 < W3.heap.size by omega)
  clear hW_W1 hW_W2 hW_W3 hN_W1 hN_W2 hN_W3 hS_W1 hS_W2 hS_W3 hg_g4
  have k0 := blk_cell HK5.out 0
  by_cases hk0 : kind = 0
  · subst hk0
    have HT := Aside0.mk (show ofT l conds 0 cls n = (if (foundT l cls).2.2 = true then ((foundT l cls).1, (foundT l cls).2.1, 0) else ((foundT l cls).1, (foundT l cls).2.1, 18)) from if_pos rfl)
    have k1 := blk_cell HK5.out 1
    go_wp2_with fail
    go_at_call 9
    have hlim := HL.out
    refine (check_Find.calls 1001 (fun k => k < w.heap.size) A0 c0 l cls (foundT l cls).1 (foundT l cls).2.1 (foundT l cls).2.2 W3 (Kd.V_mk HL0.out (Kd.F_below (Kd.C_F k30_heap HC.out) HB.out)) (find_is 1001 l cls (by omega) (by omega))).mono ?_
    clear hlim
    rintro ex W4 ⟨v8, rfl, hv, hb⟩
    obtain ⟨A8, c8, rfl, hc8, hF8⟩ := hv
    have nB := Aside0.mk (below_step HB.out hb)
    have nK := Aside0.mk (blk_below HK6.out hb)
    have nZ := Aside0.mk (Nat.lt_of_lt_of_le HZ.out hb.size)
    have HZ3 := Aside0.mk HZ.out
    have HF8 := Aside0.mk hF8
    have HC8 := Aside0.mk hc8
    clear hb hF8 hc8 HB HK6 HK4 HK5 HZ k0 k1
    have HB := nB
    have HK6 := nK
    have HZ := nZ
    clear nB nK nZ
    go_upto_region 4 with fail
    obtain ⟨g8, hg_g8⟩ : ∃ g, g = W4.heap.size := ⟨_, rfl⟩
    have hW_W5 := below_alloc (Below.refl W4.heap.size W4) (Obj.cells #[Value.string (foundT l cls).1, Value.slice A8 (foundT l cls).2.1.length c8] 30)
    have hN_W5 := blk_new W4 (Obj.cells #[Value.string (foundT l cls).1, Value.slice A8 (foundT l cls).2.1.length c8] 30)
    have hS_W5 : (W4.alloc (Obj.cells #[Value.string (foundT l cls).1, Value.slice A8 (foundT l cls).2.1.length c8] 30)).heap.size = W4.heap.size + 1 := World.size_alloc _ _
    rw [← hg_g8] at hN_W5 hS_W5 ⊢
    generalize W4.alloc (Obj.cells #[Value.string (foundT l cls).1, Value.slice A8 (foundT l cls).2.1.length c8] 30) = W5 at hW_W5 hN_W5 hS_W5 ⊢
    have nB := Aside0.mk (below_step HB.out hW_W5)
    have HK8 := Aside0.mk hN_W5
    have nK := Aside0.mk (blk_below HK6.out hW_W5)
    have nF := Aside0.mk (Kd.F_below HF8.out hW_W5)
    clear HB HK6 HF8 hW_W5 hN_W5 hS_W5 hg_g8
    have HB := nB
    have HK6 := nK
    have HF8 := nF
    clear nB nK nF
    have e0 := blk_cell HK8.out 0
    have e1 := blk_cell HK8.out 1
    have d0 := blk_cell HK6.out 0
    have d1 := blk_cell HK6.out 1
    have f0 := blk_frozen HK6.out 0
    have f1 := blk_frozen HK6.out 1
    by_cases hf : (foundT l cls).2.2 = true
    · have ht := HT.out
      rw [if_pos hf] at ht
      clear HT
      have HT := Aside0.mk ht
      clear ht
      go_wp2_with fail
      clear d0 d1 f0 f1
      refine bodyPost_ret (results_ct rfl _ _ (g4 + 1 + 1) 30 #[.string (foundT l cls).1, .slice A8 (foundT l cls).2.1.length c8] (0, 0) _ rfl (heap_setCell_same _ (g4 + 1 + 1) 1 _ 30 _ (heap_setCell_same _ (g4 + 1 + 1) 0 _ 30 _ HK6.out)) Try.underlying30 rfl (by kernel_rfl)) rfl ?_
      have hgw := HG.out
      have hz := HZ3.out
      have hbel := (HB.out.setCell (p := ⟨g4 + 1 + 1, 0, none⟩) (show w.heap.size ≤ g4 + 1 + 1 by omega) (.string (foundT l cls).1)).setCell (p := ⟨g4 + 1 + 1, 1, none⟩) (show w.heap.size ≤ g4 + 1 + 1 by omega) (.slice A8 (foundT l cls).2.1.length c8)
      rw [HT.out]
      refine ⟨A8, c8, rfl, HC8.out, ?_, hbel⟩
      have hne : ∀ k, (k < w.heap.size ∨ W3.heap.size ≤ k) → k ≠ g4 + 1 + 1 := fun k hk => by omega
      exact Kd.F_now (Kd.F_far (p := ⟨g4 + 1 + 1, 1, none⟩) (Kd.F_far (p := ⟨g4 + 1 + 1, 0, none⟩) HF8.out hne _) hne _)
    · have ht := HT.out
      rw [if_neg hf] at ht
      clear HT
      have HT := Aside0.mk ht
      replace hf := Bool.eq_false_iff.mpr hf
      clear ht
      go_wp2_with fail
      clear d0 d1 f0 f1
      refine bodyPost_ret (results_ct rfl _ _ (g4 + 1 + 1) 30 #[.string (foundT l cls).1, .slice A8 (foundT l cls).2.1.length c8] (0, 0) _ rfl (heap_setCell_same _ (g4 + 1 + 1) 1 _ 30 _ (heap_setCell_same _ (g4 + 1 + 1) 0 _ 30 _ HK6.out)) Try.underlying30 rfl (by kernel_rfl)) rfl ?_
      have hgw := HG.out
      have hz := HZ3.out
      have hbel := (HB.out.setCell (p := ⟨g4 + 1 + 1, 0, none⟩) (show w.heap.size ≤ g4 + 1 + 1 by omega) (.string (foundT l cls).1)).setCell (p := ⟨g4 + 1 + 1, 1, none⟩) (show w.heap.size ≤ g4 + 1 + 1 by omega) (.slice A8 (foundT l cls).2.1.length c8)
      rw [HT.out]
      refine ⟨A8, c8, rfl, HC8.out, ?_, hbel⟩
      have hne : ∀ k, (k < w.heap.size ∨ W3.heap.size ≤ k) → k ≠ g4 + 1 + 1 := fun k hk => by omega
      exact Kd.F_now (Kd.F_far (p := ⟨g4 + 1 + 1, 1, none⟩) (Kd.F_far (p := ⟨g4 + 1 + 1, 0, none⟩) HF8.out hne _) hne _)
  · by_cases hk12 : kind = 1 ∨ kind = 2
    · have HT := Aside0.mk (show ofT l conds kind cls n = (if n < 1 ∨ n > conds.length ∨ (rd_T44 conds (n - 1)).f0 = true then (⟨#[]⟩, [], 12) else ((foundT l (rd_T44 conds (n - 1)).f1).1, (foundT l (rd_T44 conds (n - 1)).f1).2.1, 0)) by unfold ofT; rw [if_neg hk0, if_pos hk12])
      have b0 : (kind == 0) = false := beq_eq_false_iff_ne.mpr hk0
      have k2 := blk_cell HK5.out 2
      have r1 := blk_cell HK4.out 1
      have hkk : (kind == 1) = true ∨ (kind == 1) = false ∧ (kind == 2) = true := by
        rcases hk12 with rfl | rfl
        · exact .inl rfl
        · exact .inr ⟨rfl, rfl⟩
      clear hk0 hk12
      rcases hkk with b1 | ⟨b1, b2⟩
      · go_upto_region 9 with fail
        by_cases hn1 : n < 1
        · have HT2 := Aside0.mk (HT.out.trans (if_pos (.inl hn1)))
          have d9 : decide (n < 1) = true := decide_eq_true hn1
          clear hn1
          have d0 := blk_cell HK6.out 0
          have d1 := blk_cell HK6.out 1
          have f0 := blk_frozen HK6.out 0
          have f1 := blk_frozen HK6.out 1
          go_wp2_with fail
          clear d0 d1 f0 f1
          refine bodyPost_ret (results_ct rfl _ _ (g4 + 1 + 1) 30 #[.string ⟨#[]⟩, .slice none 0 0] (0, 0) _ rfl (heap_setCell_same _ (g4 + 1 + 1) 1 _ 30 _ (heap_setCell_same _ (g4 + 1 + 1) 0 _ 30 _ HK6.out)) Try.underlying30 rfl (by kernel_rfl)) rfl ?_
          have hgw := HG.out
          rw [HT2.out]
          exact ⟨none, 0, rfl, Nat.le_refl _, Kd.C_nil _ _, (HB.out.setCell (p := ⟨g4 + 1 + 1, 0, none⟩) (show w.heap.size ≤ g4 + 1 + 1 by omega) _).setCell (p := ⟨g4 + 1 + 1, 1, none⟩) (show w.heap.size ≤ g4 + 1 + 1 by omega) _⟩
        by_cases hn2 : n > conds.length
        · have HT2 := Aside0.mk (HT.out.trans (if_pos (.inr (.inl hn2))))
          have d9 : decide (n < 1) = false := decide_eq_false hn1
          have d9b : decide ((conds.length : Int) < n) = true := decide_eq_true hn2
          clear hn1 hn2
          have d0 := blk_cell HK6.out 0
          have d1 := blk_cell HK6.out 1
          have f0 := blk_frozen HK6.out 0
          have f1 := blk_frozen HK6.out 1
          go_wp2_with fail
          clear d0 d1 f0 f1
          refine bodyPost_ret (results_ct rfl _ _ (g4 + 1 + 1) 30 #[.string ⟨#[]⟩, .slice none 0 0] (0, 0) _ rfl (heap_setCell_same _ (g4 + 1 + 1) 1 _ 30 _ (heap_setCell_same _ (g4 + 1 + 1) 0 _ 30 _ HK6.out)) Try.underlying30 rfl (by kernel_rfl)) rfl ?_
          have hgw := HG.out
          rw [HT2.out]
          exact ⟨none, 0, rfl, Nat.le_refl _, Kd.C_nil _ _, (HB.out.setCell (p := ⟨g4 + 1 + 1, 0, none⟩) (show w.heap.size ≤ g4 + 1 + 1 by omega) _).setCell (p := ⟨g4 + 1 + 1, 1, none⟩) (show w.heap.size ≤ g4 + 1 + 1 by omega) _⟩
        obtain ⟨m, rfl⟩ : ∃ m : Nat, n = (m : Int) + 1 := ⟨(n - 1).toNat, by omega⟩
        rw [show (m : Int) + 1 - 1 = (m : Int) by omega] at HT
        obtain ⟨ad, A2, c2, e1, hx0, hx1, hx2, hl2, hi2⟩ := at_T44 HK.out (m : Int) (by omega) (by omega)
        rw [Int.toNat_natCast] at hx0 hx1
        subst e1
        replace hx0 := (HB.out.cell (World.block_lt_of_cell? w _ hx0)).trans hx0
        replace hx1 := (HB.out.cell (World.block_lt_of_cell? w _ hx1)).trans hx1
        clear hx2 hl2 hi2
        have d9 : decide ((m : Int) + 1 < 1) = false := decide_eq_false hn1
        have d9b : decide ((conds.length : Int) < (m : Int) + 1) = false := decide_eq_false hn2
        have hcl2 := HCL.out
        have ew : wrap64 (m : Int) = m := by unfold wrap64; omega
        have ew2 : (m : Int) + 1 - 1 = m := by omega
        have p0 := eq_true (show 0 ≤ (m : Int) by omega)
        have p1 := eq_true (show (m : Int) < (conds.length : Int) by omega)
        have p2 := eq_true (show m < conds.length by omega)
        have d9c : decide (conds.length < m + 1) = false := decide_eq_false (by omega)
        clear hcl2
        by_cases hng : (rd_T44 conds (m : Int)).f0 = true
        · have HT2 := Aside0.mk (HT.out.trans (if_pos (.inr (.inr hng))))
          clear hn1 hn2
          rw [hng] at hx0
          clear hng
          have d0 := blk_cell HK6.out 0
          have d1 := blk_cell HK6.out 1
          have f0 := blk_frozen HK6.out 0
          have f1 := blk_frozen HK6.out 1
          go_wp2_with fail
          clear d0 d1 f0 f1
          refine bodyPost_ret (results_ct rfl _ _ (g4 + 1 + 1) 30 #[.string ⟨#[]⟩, .slice none 0 0] (0, 0) _ rfl (heap_setCell_same _ (g4 + 1 + 1) 1 _ 30 _ (heap_setCell_same _ (g4 + 1 + 1) 0 _ 30 _ HK6.out)) Try.underlying30 rfl (by kernel_rfl)) rfl ?_
          have hgw := HG.out
          rw [HT2.out]
          exact ⟨none, 0, rfl, Nat.le_refl _, Kd.C_nil _ _, (HB.out.setCell (p := ⟨g4 + 1 + 1, 0, none⟩) (show w.heap.size ≤ g4 + 1 + 1 by omega) _).setCell (p := ⟨g4 + 1 + 1, 1, none⟩) (show w.heap.size ≤ g4 + 1 + 1 by omega) _⟩
        · have HT2 := Aside0.mk (HT.out.trans (if_neg (fun h => h.elim hn1 (fun h => h.elim hn2 hng))))
          clear hn1 hn2 HT
          have HT := HT2
          clear HT2
          replace hng := Bool.eq_false_iff.mpr hng
          rw [hng] at hx0
          clear hng
          go_wp2_with fail
          go_at_call 9
          generalize (rd_T44 conds (m : Int)).f1 = cx at hx1 HT ⊢
          have hlim := HL.out
          refine (check_Find.calls 1001 (fun k => k < w.heap.size) A0 c0 l cx (foundT l cx).1 (foundT l cx).2.1 (foundT l cx).2.2 W3 (Kd.V_mk HL0.out (Kd.F_below (Kd.C_F k30_heap HC.out) HB.out)) (find_is 1001 l cx (by omega) (by omega))).mono ?_
          clear hlim
          rintro ex W4 ⟨v8, rfl, hv, hb⟩
          obtain ⟨A8, c8, rfl, hc8, hF8⟩ := hv
          have nB := Aside0.mk (below_step HB.out hb)
          have nK := Aside0.mk (blk_below HK6.out hb)
          have nZ := Aside0.mk (Nat.lt_of_lt_of_le HZ.out hb.size)
          have HZ3 := Aside0.mk HZ.out
          have HF8 := Aside0.mk hF8
          have HC8 := Aside0.mk hc8
          clear hb hF8 hc8 HB HK6 HK4 HK5 HZ k0 k2 r1 hx0 hx1
          have HB := nB
          have HK6 := nK
          have HZ := nZ
          clear nB nK nZ
          go_upto_region 12 with fail
          obtain ⟨g8, hg_g8⟩ : ∃ g, g = W4.heap.size := ⟨_, rfl⟩
          have hW_W5 := below_alloc (Below.refl W4.heap.size W4) (Obj.cells #[Value.string (foundT l cx).1, Value.slice A8 (foundT l cx).2.1.length c8] 30)
          have hN_W5 := blk_new W4 (Obj.cells #[Value.string (foundT l cx).1, Value.slice A8 (foundT l cx).2.1.length c8] 30)
          have hS_W5 : (W4.alloc (Obj.cells #[Value.string (foundT l cx).1, Value.slice A8 (foundT l cx).2.1.length c8] 30)).heap.size = W4.heap.size + 1 := World.size_alloc _ _
          rw [← hg_g8] at hN_W5 hS_W5 ⊢
          generalize W4.alloc (Obj.cells #[Value.string (foundT l cx).1, Value.slice A8 (foundT l cx).2.1.length c8] 30) = W5 at hW_W5 hN_W5 hS_W5 ⊢
          have nB := Aside0.mk (below_step HB.out hW_W5)
          have HK8 := Aside0.mk hN_W5
          have nK := Aside0.mk (blk_below HK6.out hW_W5)
          have nF := Aside0.mk (Kd.F_below HF8.out hW_W5)
          clear HB HK6 HF8 hW_W5 hN_W5 hS_W5 hg_g8
          have HB := nB
          have HK6 := nK
          have HF8 := nF
          clear nB nK nF
          have e0 := blk_cell HK8.out 0
          have e1 := blk_cell HK8.out 1
          have d0 := blk_cell HK6.out 0
          have d1 := blk_cell HK6.out 1
          have f0 := blk_frozen HK6.out 0
          have f1 := blk_frozen HK6.out 1
          go_wp2_with fail
          clear d0 d1 f0 f1
          refine bodyPost_ret (results_ct rfl _ _ (g4 + 1 + 1) 30 #[.string (foundT l cx).1, .slice A8 (foundT l cx).2.1.length c8] (0, 0) _ rfl (heap_setCell_same _ (g4 + 1 + 1) 1 _ 30 _ (heap_setCell_same _ (g4 + 1 + 1) 0 _ 30 _ HK6.out)) Try.underlying30 rfl (by kernel_rfl)) rfl ?_
          have hgw := HG.out
          have hz := HZ3.out
          have hbel := (HB.out.setCell (p := ⟨g4 + 1 + 1, 0, none⟩) (show w.heap.size ≤ g4 + 1 + 1 by omega) (.string (foundT l cx).1)).setCell (p := ⟨g4 + 1 + 1, 1, none⟩) (show w.heap.size ≤ g4 + 1 + 1 by omega) (.slice A8 (foundT l cx).2.1.length c8)
          rw [HT.out]
          refine ⟨A8, c8, rfl, HC8.out, ?_, hbel⟩
          have hne : ∀ k, (k < w.heap.size ∨ W3.heap.size ≤ k) → k ≠ g4 + 1 + 1 := fun k hk => by omega
          exact Kd.F_now (Kd.F_far (p := ⟨g4 + 1 + 1, 1, none⟩) (Kd.F_far (p := ⟨g4 + 1 + 1, 0, none⟩) HF8.out hne _) hne _)
      · go_upto_region 9 with fail
        by_cases hn1 : n < 1
        · have HT2 := Aside0.mk (HT.out.trans (if_pos (.inl hn1)))
          have d9 : decide (n < 1) = true := decide_eq_true hn1
          clear hn1
          have d0 := blk_cell HK6.out 0
          have d1 := blk_cell HK6.out 1
          have f0 := blk_frozen HK6.out 0
          have f1 := blk_frozen HK6.out 1
          go_wp2_with fail
          clear d0 d1 f0 f1
          refine bodyPost_ret (results_ct rfl _ _ (g4 + 1 + 1) 30 #[.string ⟨#[]⟩, .slice none 0 0] (0, 0) _ rfl (heap_setCell_same _ (g4 + 1 + 1) 1 _ 30 _ (heap_setCell_same _ (g4 + 1 + 1) 0 _ 30 _ HK6.out)) Try.underlying30 rfl (by kernel_rfl)) rfl ?_
          have hgw := HG.out
          rw [HT2.out]
          exact ⟨none, 0, rfl, Nat.le_refl _, Kd.C_nil _ _, (HB.out.setCell (p := ⟨g4 + 1 + 1, 0, none⟩) (show w.heap.size ≤ g4 + 1 + 1 by omega) _).setCell (p := ⟨g4 + 1 + 1, 1, none⟩) (show w.heap.size ≤ g4 + 1 + 1 by omega) _⟩
        by_cases hn2 : n > conds.length
        · have HT2 := Aside0.mk (HT.out.trans (if_pos (.inr (.inl hn2))))
          have d9 : decide (n < 1) = false := decide_eq_false hn1
          have d9b : decide ((conds.length : Int) < n) = true := decide_eq_true hn2
          clear hn1 hn2
          have d0 := blk_cell HK6.out 0
          have d1 := blk_cell HK6.out 1
          have f0 := blk_frozen HK6.out 0
          have f1 := blk_frozen HK6.out 1
          go_wp2_with fail
          clear d0 d1 f0 f1
          refine bodyPost_ret (results_ct rfl _ _ (g4 + 1 + 1) 30 #[.string ⟨#[]⟩, .slice none 0 0] (0, 0) _ rfl (heap_setCell_same _ (g4 + 1 + 1) 1 _ 30 _ (heap_setCell_same _ (g4 + 1 + 1) 0 _ 30 _ HK6.out)) Try.underlying30 rfl (by kernel_rfl)) rfl ?_
          have hgw := HG.out
          rw [HT2.out]
          exact ⟨none, 0, rfl, Nat.le_refl _, Kd.C_nil _ _, (HB.out.setCell (p := ⟨g4 + 1 + 1, 0, none⟩) (show w.heap.size ≤ g4 + 1 + 1 by omega) _).setCell (p := ⟨g4 + 1 + 1, 1, none⟩) (show w.heap.size ≤ g4 + 1 + 1 by omega) _⟩
        obtain ⟨m, rfl⟩ : ∃ m : Nat, n = (m : Int) + 1 := ⟨(n - 1).toNat, by omega⟩
        rw [show (m : Int) + 1 - 1 = (m : Int) by omega] at HT
        obtain ⟨ad, A2, c2, e1, hx0, hx1, hx2, hl2, hi2⟩ := at_T44 HK.out (m : Int) (by omega) (by omega)
        rw [Int.toNat_natCast] at hx0 hx1
        subst e1
        replace hx0 := (HB.out.cell (World.block_lt_of_cell? w _ hx0)).trans hx0
        replace hx1 := (HB.out.cell (World.block_lt_of_cell? w _ hx1)).trans hx1
        clear hx2 hl2 hi2
        have d9 : decide ((m : Int) + 1 < 1) = false := decide_eq_false hn1
        have d9b : decide ((conds.length : Int) < (m : Int) + 1) = false := decide_eq_false hn2
        have hcl2 := HCL.out
        have ew : wrap64 (m : Int) = m := by unfold wrap64; omega
        have ew2 : (m : Int) + 1 - 1 = m := by omega
        have p0 := eq_true (show 0 ≤ (m : Int) by omega)
        have p1 := eq_true (show (m : Int) < (conds.length : Int) by omega)
        have p2 := eq_true (show m < conds.length by omega)
        have d9c : decide (conds.length < m + 1) = false := decide_eq_false (by omega)
        clear hcl2
        by_cases hng : (rd_T44 conds (m : Int)).f0 = true
        · have HT2 := Aside0.mk (HT.out.trans (if_pos (.inr (.inr hng))))
          clear hn1 hn2
          rw [hng] at hx0
          clear hng
          have d0 := blk_cell HK6.out 0
          have d1 := blk_cell HK6.out 1
          have f0 := blk_frozen HK6.out 0
          have f1 := blk_frozen HK6.out 1
          go_wp2_with fail
          clear d0 d1 f0 f1
          refine bodyPost_ret (results_ct rfl _ _ (g4 + 1 + 1) 30 #[.string ⟨#[]⟩, .slice none 0 0] (0, 0) _ rfl (heap_setCell_same _ (g4 + 1 + 1) 1 _ 30 _ (heap_setCell_same _ (g4 + 1 + 1) 0 _ 30 _ HK6.out)) Try.underlying30 rfl (by kernel_rfl)) rfl ?_
          have hgw := HG.out
          rw [HT2.out]
          exact ⟨none, 0, rfl, Nat.le_refl _, Kd.C_nil _ _, (HB.out.setCell (p := ⟨g4 + 1 + 1, 0, none⟩) (show w.heap.size ≤ g4 + 1 + 1 by omega) _).setCell (p := ⟨g4 + 1 + 1, 1, none⟩) (show w.heap.size ≤ g4 + 1 + 1 by omega) _⟩
        · have HT2 := Aside0.mk (HT.out.trans (if_neg (fun h => h.elim hn1 (fun h => h.elim hn2 hng))))
          clear hn1 hn2 HT
          have HT := HT2
          clear HT2
          replace hng := Bool.eq_false_iff.mpr hng
          rw [hng] at hx0
          clear hng
          go_wp2_with fail
          go_at_call 9
          generalize (rd_T44 conds (m : Int)).f1 = cx at hx1 HT ⊢
          have hlim := HL.out
          refine (check_Find.calls 1001 (fun k => k < w.heap.size) A0 c0 l cx (foundT l cx).1 (foundT l cx).2.1 (foundT l cx).2.2 W3 (Kd.V_mk HL0.out (Kd.F_below (Kd.C_F k30_heap HC.out) HB.out)) (find_is 1001 l cx (by omega) (by omega))).mono ?_
          clear hlim
          rintro ex W4 ⟨v8, rfl, hv, hb⟩
          obtain ⟨A8, c8, rfl, hc8, hF8⟩ := hv
          have nB := Aside0.mk (below_step HB.out hb)
          have nK := Aside0.mk (blk_below HK6.out hb)
          have nZ := Aside0.mk (Nat.lt_of_lt_of_le HZ.out hb.size)
          have HZ3 := Aside0.mk HZ.out
          have HF8 := Aside0.mk hF8
          have HC8 := Aside0.mk hc8
          clear hb hF8 hc8 HB HK6 HK4 HK5 HZ k0 k2 r1 hx0 hx1
          have HB := nB
          have HK6 := nK
          have HZ := nZ
          clear nB nK nZ
          go_upto_region 12 with fail
          obtain ⟨g8, hg_g8⟩ : ∃ g, g = W4.heap.size := ⟨_, rfl⟩
          have hW_W5 := below_alloc (Below.refl W4.heap.size W4) (Obj.cells #[Value.string (foundT l cx).1, Value.slice A8 (foundT l cx).2.1.length c8] 30)
          have hN_W5 := blk_new W4 (Obj.cells #[Value.string (foundT l cx).1, Value.slice A8 (foundT l cx).2.1.length c8] 30)
          have hS_W5 : (W4.alloc (Obj.cells #[Value.string (foundT l cx).1, Value.slice A8 (foundT l cx).2.1.length c8] 30)).heap.size = W4.heap.size + 1 := World.size_alloc _ _
          rw [← hg_g8] at hN_W5 hS_W5 ⊢
          generalize W4.alloc (Obj.cells #[Value.string (foundT l cx).1, Value.slice A8 (foundT l cx).2.1.length c8] 30) = W5 at hW_W5 hN_W5 hS_W5 ⊢
          have nB := Aside0.mk (below_step HB.out hW_W5)
          have HK8 := Aside0.mk hN_W5
          have nK := Aside0.mk (blk_below HK6.out hW_W5)
          have nF := Aside0.mk (Kd.F_below HF8.out hW_W5)
          clear HB HK6 HF8 hW_W5 hN_W5 hS_W5 hg_g8
          have HB := nB
          have HK6 := nK
          have HF8 := nF
          clear nB nK nF
          have e0 := blk_cell HK8.out 0
          have e1 := blk_cell HK8.out 1
          have d0 := blk_cell HK6.out 0
          have d1 := blk_cell HK6.out 1
          have f0 := blk_frozen HK6.out 0
          have f1 := blk_frozen HK6.out 1
          go_wp2_with fail
          clear d0 d1 f0 f1
          refine bodyPost_ret (results_ct rfl _ _ (g4 + 1 + 1) 30 #[.string (foundT l cx).1, .slice A8 (foundT l cx).2.1.length c8] (0, 0) _ rfl (heap_setCell_same _ (g4 + 1 + 1) 1 _ 30 _ (heap_setCell_same _ (g4 + 1 + 1) 0 _ 30 _ HK6.out)) Try.underlying30 rfl (by kernel_rfl)) rfl ?_
          have hgw := HG.out
          have hz := HZ3.out
          have hbel := (HB.out.setCell (p := ⟨g4 + 1 + 1, 0, none⟩) (show w.heap.size ≤ g4 + 1 + 1 by omega) (.string (foundT l cx).1)).setCell (p := ⟨g4 + 1 + 1, 1, none⟩) (show w.heap.size ≤ g4 + 1 + 1 by omega) (.slice A8 (foundT l cx).2.1.length c8)
          rw [HT.out]
          refine ⟨A8, c8, rfl, HC8.out, ?_, hbel⟩
          have hne : ∀ k, (k < w.heap.size ∨ W3.heap.size ≤ k) → k ≠ g4 + 1 + 1 := fun k hk => by omega
          exact Kd.F_now (Kd.F_far (p := ⟨g4 + 1 + 1, 1, none⟩) (Kd.F_far (p := ⟨g4 + 1 + 1, 0, none⟩) HF8.out hne _) hne _)
    · have HT := Aside0.mk (show ofT l conds kind cls n = (⟨#[]⟩, [], 0) by unfold ofT; rw [if_neg hk0, if_neg hk12])
      have b0 : (kind == 0) = false := beq_eq_false_iff_ne.mpr hk0
      have b1 : (kind == 1) = false := beq_eq_false_iff_ne.mpr (fun h => hk12 (.inl h))
      have b2 : (kind == 2) = false := beq_eq_false_iff_ne.mpr (fun h => hk12 (.inr h))
      have d0 := blk_cell HK6.out 0
      have d1 := blk_cell HK6.out 1
      have f0 := blk_frozen HK6.out 0
      have f1 := blk_frozen HK6.out 1
      clear hk0 hk12
      go_wp2_with fail
      clear d0 d1 f0 f1
      refine bodyPost_ret (results_ct rfl _ _ (g4 + 1 + 1) 30 #[.string ⟨#[]⟩, .slice none 0 0] (0, 0) _ rfl (heap_setCell_same _ (g4 + 1 + 1) 1 _ 30 _ (heap_setCell_same _ (g4 + 1 + 1) 0 _ 30 _ HK6.out)) Try.underlying30 rfl (by kernel_rfl)) rfl ?_
      have hgw := HG.out
      rw [HT.out]
      exact ⟨none, 0, rfl, Nat.le_refl _, Kd.C_nil _ _, (HB.out.setCell (p := ⟨g4 + 1 + 1, 0, none⟩) (show w.heap.size ≤ g4 + 1 + 1 by omega) _).setCell (p := ⟨g4 + 1 + 1, 1, none⟩) (show w.heap.size ≤ g4 + 1 + 1 by omega) _⟩
end Go.Proofs.Ytlbcnkmojoinfaa.MCk
