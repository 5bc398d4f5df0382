/- The contract of check.Program. -/
import Derived.Test.YtlbcnkmojoinfaaHandF7
namespace Go.Proofs.Ytlbcnkmojoinfaa.ChecksV
open Go.RowKit Go.Proofs.Ytlbcnkmojoinfaa.MCk
/-- Rules, behind those whose names were met. -/
def rulesT (l : List S30) : List ByteArray → List S38 → Int
  | _, [] => 0
  | met, r :: rs => if hasN met r.f0 = true then 7 else if ruleT l r = 0 then rulesT l (met ++ [r.f0]) rs else ruleT l r
/-- A program. -/
def programT (l : List S30) (rs : List S38) : Int := if classesT [] l = 0 then rulesT l [] rs else classesT [] l
/-- Rules are few, and short. -/
def FewRs (rs : List S38) : Prop := rs.length ≤ 1000 ∧ ∀ r ∈ rs, r.f0.size ≤ 1000000 ∧ FewRule r
theorem rd38 (l : List S38) (j : Nat) (h : j < l.length) : rd_T38 l (j : Int) = l[j] := by
  unfold rd_T38
  rw [Int.toNat_natCast, List.getD_eq_getElem?_getD, List.getElem?_eq_getElem h]
  rfl
end Go.Proofs.Ytlbcnkmojoinfaa.ChecksV
namespace Go.Proofs.Ytlbcnkmojoinfaa.MCk
open Go.RowKit Go.Maps Go.Proofs.Ytlbcnkmojoinfaa.Hand Go.Proofs.Ytlbcnkmojoinfaa.ChecksV Go.Proofs.YtlbcnkmojoinfaaW.PrintWords Go.Proofs.YtlbcnkmojoinfaaW.PrintLast Go.Proofs.YtlbcnkmojoinfaaW.PrintMore
set_option linter.unusedVariables false
set_option linter.unusedSimpArgs false
set_option maxHeartbeats 8000000 in
set_option maxRecDepth 100000 in
theorem check_Program (l : List S30) (A0 : Option Addr) (c0 : Nat) (rs : List S38) (A1 : Option Addr) (c1 : Nat) (w : World)
    (hC : Kd.C k30 w A0 l.length l) (hc0 : l.length ≤ c0) (h1 : Kd.C k38 w A1 rs.length rs) (hF : FewC l) (hR : FewRs rs) :
    Calls Try.prog 18 #[.agg #[.slice A0 l.length c0, .slice A1 rs.length c1]] w fun e w' => e = .returned (.int .i64 (programT l rs)) ∧ Below w.heap.size w w' := by
  have HC := Aside0.mk hC
  have HL0 := Aside0.mk hc0
  have H1 := Aside0.mk h1
  have HF := Aside0.mk hF
  have HR := Aside0.mk hR
  clear hC hc0 h1 hF hR
  obtain ⟨e, ht⟩ : ∃ e, e = programT l rs := ⟨_, rfl⟩
  rw [← ht]
  have HT := Aside0.mk ht
  clear ht
  have hmm := @run_makeMap Try.prog
  go_enter Try.func18, Try.ntmps18
  go_upto_region 1 with fail
  obtain ⟨g1, hg_g1⟩ : ∃ g, g = w.heap.size := ⟨_, rfl⟩
  have hW_W1 := below_alloc (Below.refl w.heap.size w) (Obj.cells #[Value.slice A0 l.length c0, Value.slice A1 rs.length c1] 25)
  have hN_W1 := blk_new w (Obj.cells #[Value.slice A0 l.length c0, Value.slice A1 rs.length c1] 25)
  have hS_W1 : (w.alloc (Obj.cells #[Value.slice A0 l.length c0, Value.slice A1 rs.length c1] 25)).heap.size = w.heap.size + 1 := World.size_alloc _ _
  rw [← hg_g1] at hN_W1 hS_W1 ⊢
  generalize w.alloc (Obj.cells #[Value.slice A0 l.length c0, Value.slice A1 rs.length c1] 25) = W1 at hW_W1 hN_W1 hS_W1 ⊢
  have HB := Aside0.mk hW_W1
  have HK1 := Aside0.mk hN_W1
  clear hW_W1 hN_W1 hS_W1 hg_g1
  have k0 := blk_cell HK1.out 0
  go_wp2_with fail
  go_at_call 30
  refine (check_Classes l A0 c0 W1 (Kd.C_below HC.out HB.out) HF.out).mono ?_
  clear k0
  rintro ex W2 ⟨rfl, hb⟩
  have nB := Aside0.mk (below_step HB.out hb)
  have nK := Aside0.mk (blk_below HK1.out hb)
  clear hb HB HK1
  have HB := nB
  have HK1 := nK
  clear nB nK
  have ht := HT.out
  unfold programT at ht
  clear HT
  by_cases hz : classesT [] l = 0
  · rw [if_pos hz] at ht
    rw [hz]
    have HT := Aside0.mk ht
    clear ht hz
    go_upto_region 5 with fail
    obtain ⟨gm, hgm⟩ : ∃ g, g = W2.heap.size := ⟨_, rfl⟩
    have hmade := Hand.Met.made W2
    have hW := below_alloc (Below.refl W2.heap.size W2) (Obj.map #[] 0)
    have hsz : (W2.alloc (Obj.map #[] 0)).heap.size = W2.heap.size + 1 := World.size_alloc _ _
    rw [← hgm] at hmade hsz ⊢
    generalize W2.alloc (Obj.map #[] 0) = W3 at hmade hW hsz ⊢
    have HM := Aside0.mk hmade
    have nB := Aside0.mk (below_step HB.out hW)
    have nK := Aside0.mk (blk_below HK1.out hW)
    have HZ := Aside0.mk (show gm < W3.heap.size by omega)
    have HG := Aside0.mk (show w.heap.size ≤ gm by have := HB.out.size; omega)
    have HB0 := Aside0.mk (Below.refl W3.heap.size W3)
    have HG3 := Aside0.mk (show g1 < gm by rw [hgm]; exact blk_lt HK1.out)
    clear hmade hW hsz hgm HB HK1
    have HB := nB
    have HK1 := nK
    clear nB nK
    have k1 := blk_cell HK1.out 1
    go_wp2_with fail
    clear k1
    go_loopw [18] (fun i wr => ∃ (j : Nat) (met : List ByteArray), j ≤ rs.length ∧ i = .int .i64 (j : Int) ∧ met.length = j ∧ rulesT l met (rs.drop j) = rulesT l [] rs ∧ Hand.Met wr gm met ∧ Below w.heap.size w wr ∧ gm < wr.heap.size ∧ wr.heap[g1]? = W3.heap[g1]?)
      (fun i _ => rs.length - (intOf i).toNat)
    case atStart => exact ⟨0, [], Nat.zero_le _, rfl, rfl, rfl, HM.out, HB.out, HZ.out, rfl⟩
    case round =>
      obtain ⟨j, met, hj, rfl, hml, hcl, hm, hb, hz, hk⟩ := hrel
      have nK := Aside0.mk (hk.trans HK1.out)
      have HKE := Aside0.mk hk
      clear HM HB HZ hk
      have HML := Aside0.mk hml
      have HCL := Aside0.mk hcl
      have HM := Aside0.mk hm
      have HB := Aside0.mk hb
      have HZ := Aside0.mk hz
      have HKW := nK
      clear hml hcl hm hb hz nK
      by_cases hlt : j < rs.length
      · have b1 : decide ((j : Int) < (rs.length : Int)) = true := decide_eq_true (by omega)
        have HLT := Aside0.mk hlt
        obtain ⟨ad, B1, d1, B2, d2, e1, hx0, hx1, hx2, hl1, hi1, hl2, hi2⟩ := at_T38 H1.out (j : Int) (by omega) (by omega)
        subst e1
        replace hx0 := (HB.out.cell (World.block_lt_of_cell? w _ hx0)).trans hx0
        replace hx1 := (HB.out.cell (World.block_lt_of_cell? w _ hx1)).trans hx1
        replace hx2 := (HB.out.cell (World.block_lt_of_cell? w _ hx2)).trans hx2
        have hd := HCL.out
        rw [List.drop_eq_getElem_cons hlt, rulesT] at hd
        rw [rd38 rs j hlt] at hx0 hx1 hx2 hl1 hi1 hl2 hi2
        have hfe := HR.out.2 _ (List.getElem_mem hlt)
        rw [Int.toNat_natCast] at hx0 hx1 hx2
        generalize rs[j] = y at hx0 hx1 hx2 hl1 hi1 hl2 hi2 hd hfe
        have p0 := eq_true (show 0 ≤ (j : Int) by omega)
        have p1 := eq_true (show (j : Int) < (rs.length : Int) by omega)
        have HD := Aside0.mk hd
        have HFE := Aside0.mk hfe
        have HI1 := Aside0.mk hi1
        have HL1 := Aside0.mk hl1
        have HI2 := Aside0.mk hi2
        have HL2 := Aside0.mk hl2
        clear hlt hd hfe hl1 hi1 hl2 hi2
        go_upto_region 8 with fail
        obtain ⟨gb, hg_gb⟩ : ∃ g, g = wr.heap.size := ⟨_, rfl⟩
        have hW_wa := below_alloc (Below.refl wr.heap.size wr) (Obj.cells #[Value.string y.f0, Value.slice B1 y.f1.length d1, Value.slice B2 y.f2.length d2] 38)
        have hN_wa := blk_new wr (Obj.cells #[Value.string y.f0, Value.slice B1 y.f1.length d1, Value.slice B2 y.f2.length d2] 38)
        have hS_wa : (wr.alloc (Obj.cells #[Value.string y.f0, Value.slice B1 y.f1.length d1, Value.slice B2 y.f2.length d2] 38)).heap.size = wr.heap.size + 1 := World.size_alloc _ _
        rw [← hg_gb] at hN_wa hS_wa ⊢
        generalize wr.alloc (Obj.cells #[Value.string y.f0, Value.slice B1 y.f1.length d1, Value.slice B2 y.f2.length d2] 38) = wa at hW_wa hN_wa hS_wa ⊢
        have HMA := Aside0.mk (HM.out.below hW_wa)
        have HBA := Aside0.mk (below_step HB.out hW_wa)
        have HKA := Aside0.mk hN_wa
        have HKE2 := Aside0.mk ((hW_wa.block g1 (by have := HZ.out; have := HG3.out; omega)).trans HKE.out)
        have HGB := Aside0.mk (show gm < gb by have := HZ.out; omega)
        have HZA := Aside0.mk (show gb < wa.heap.size by omega)
        clear hW_wa hN_wa hS_wa hg_gb hx0 hx1 hx2 HM HB HZ HKE HKW
        have k0 := blk_cell HKA.out 0
        go_wp2_with fail
        go_at_call 26
        have hln := HR.out.1
        have hlt2 := HLT.out
        have hml2 := HML.out
        refine (meet_calls gm met y.f0 wa HMA.out (by omega) HFE.out.1).mono ?_
        clear hln hlt2 hml2 k0
        rintro ex wb ⟨rfl, hM, hG⟩
        rw [Hand.has_eq]
        have hgg := HG.out
        have HBB := Aside0.mk (HBA.out.grown hG HBA.out.size (fun k hk => by injection hk with hk; omega))
        have HMB := Aside0.mk hM
        have HKB := Aside0.mk ((hG.block gb HZA.out (fun e => by injection e with e; have := HGB.out; omega)).trans HKA.out)
        have HKE3 := Aside0.mk ((hG.block g1 (by have := HZA.out; have := HGB.out; have := HG3.out; omega) (fun e => by injection e with e; have := HG3.out; omega)).trans HKE2.out)
        have HZB := Aside0.mk (show gb < wb.heap.size by have := HZA.out; have := hG.size; omega)
        clear hM hG hgg HMA HBA HKA HZA HKE2
        by_cases hh : hasN met y.f0 = true
        · have hd := HD.out
          rw [if_pos hh] at hd
          have ht := HT.out
          rw [← hd] at ht
          have HD2 := Aside0.mk ht
          clear hd ht
          go_wp2_with fail
          go_ret
          exact ⟨by rw [HD2.out]; rfl, HBB.out⟩
        · have hd := HD.out
          rw [if_neg hh] at hd
          have HD2 := Aside0.mk hd
          replace hh := Bool.eq_false_iff.mpr hh
          clear hd HD
          have k0 := blk_cell HKB.out 0
          have k1 := blk_cell HKB.out 1
          have k2 := blk_cell HKB.out 2
          have q0 := blk_cell (HKE3.out.trans HK1.out) 0
          go_wp2_with fail
          go_at_call 21
          refine (check_Rule l A0 c0 y B1 d1 B2 d2 wb (Kd.C_below HC.out HBB.out) HL0.out (Kd.C_below HI1.out HBB.out) (Kd.C_below HI2.out HBB.out) HF.out HFE.out.2).mono ?_
          clear k0 k1 k2 q0
          rintro ex wd ⟨rfl, hb⟩
          have HBD := Aside0.mk (below_step HBB.out hb)
          have HMD := Aside0.mk (HMB.out.below hb)
          have HZD := Aside0.mk (show gm < wd.heap.size by have := HZB.out; have := HGB.out; have := hb.size; omega)
          have HKD := Aside0.mk ((hb.block g1 (by have := HZB.out; have := HGB.out; have := HG3.out; omega)).trans HKE3.out)
          clear hb HMB HBB HKB HZB HKE3
          by_cases hz : ruleT l y = 0
          · have hd := HD2.out
            rw [if_pos hz] at hd
            have HD3 := Aside0.mk hd
            rw [hz]
            clear hd hz
            go_wp2_with fail
            have hln := HR.out.1
            have hlt2 := HLT.out
            rw [add1' (by omega)]
            exact ⟨⟨j + 1, met ++ [y.f0], by omega, rfl, by rw [List.length_append, HML.out]; rfl, HD3.out, HMD.out, HBD.out, HZD.out, HKD.out⟩, by simp [intOf]; omega⟩
          · have hd := HD2.out
            rw [if_neg hz] at hd
            have ht := HT.out
            rw [← hd] at ht
            have HT2 := Aside0.mk ht
            have hzz : (ruleT l y != 0) = true := bne_iff_ne.mpr hz
            clear hd ht hz
            go_wp2_with fail
            go_ret
            exact ⟨by rw [HT2.out]; rfl, HBD.out⟩
      · obtain rfl : j = rs.length := by omega
        have b1 : decide ((rs.length : Int) < (rs.length : Int)) = false := decide_eq_false (by omega)
        have hd := HCL.out
        rw [List.drop_length, rulesT] at hd
        have ht := HT.out
        rw [← hd] at ht
        have HD := Aside0.mk ht
        clear hlt hd ht
        go_wp2
        go_ret
        exact ⟨by rw [HD.out]; rfl, HB.out⟩
  · rw [if_neg hz] at ht
    have HT := Aside0.mk ht
    have hzz : (classesT [] l != 0) = true := bne_iff_ne.mpr hz
    clear ht hz
    go_wp2_with fail
    go_ret
    exact ⟨by rw [HT.out]; rfl, HB.out⟩
end Go.Proofs.Ytlbcnkmojoinfaa.MCk
