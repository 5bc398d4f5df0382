/- The contract of check.act. -/
import Derived.Test.YtlbcnkmojoinfaaHandF5
namespace Go.Proofs.Ytlbcnkmojoinfaa.ChecksV
open Go.RowKit Go.Proofs.Ytlbcnkmojoinfaa.MCk
/-- An act's sets, of a class's attributes, behind those whose names were met. -/
def setsT (cs bound : List ByteArray) : List ByteArray → List S67 → Int
  | _, [] => 0
  | met, s :: r => if hasN cs s.f0 = true then (if hasN met s.f0 = true then 7 else if exprT bound s.f1 = 0 then setsT cs bound (met ++ [s.f0]) r else exprT bound s.f1) else 19
/-- An act's expressions. -/
def exprsT (bound : List ByteArray) : List (List S80) → Int
  | [] => 0
  | x :: r => if exprT bound x = 0 then exprsT bound r else exprT bound x
/-- An act. -/
def actT (l : List S30) (conds : List S44) (a : S65) (bound : List ByteArray) : Int :=
  if (ofT l conds a.f0 a.f1 a.f2).2.2 = 0 then (if setsT (ofT l conds a.f0 a.f1 a.f2).2.1 bound [] a.f4 = 0 then exprsT bound a.f5 else setsT (ofT l conds a.f0 a.f1 a.f2).2.1 bound [] a.f4) else (ofT l conds a.f0 a.f1 a.f2).2.2
/-- An act's sets and expressions are few, and short. -/
def FewAct (a : S65) : Prop := a.f4.length ≤ 1000 ∧ (∀ s ∈ a.f4, s.f0.size ≤ 1000000 ∧ s.f1.length ≤ 1000) ∧ a.f5.length ≤ 1000 ∧ ∀ x ∈ a.f5, x.length ≤ 1000
theorem ofT_len (l : List S30) (conds : List S44) (kind : Int) (cls : ByteArray) (n : Int) (h : ∀ c ∈ l, c.f1.length ≤ 1000) : (ofT l conds kind cls n).2.1.length ≤ 1000 := by
  have hf : ∀ x, (foundT l x).2.1.length ≤ 1000 := by
    intro x
    unfold foundT
    induction l with
    | nil => exact Nat.zero_le _
    | cons y r ih =>
      rw [findS]
      by_cases he : y.f0.toList = x.toList
      · rw [if_pos he]
        exact h y List.mem_cons_self
      · rw [if_neg he]
        exact ih (fun c hc => h c (List.mem_cons_of_mem _ hc))
  unfold ofT
  split
  · split
    · exact hf _
    · exact hf _
  · split
    · split
      · exact Nat.zero_le _
      · exact hf _
    · exact Nat.zero_le _
theorem rd67 (l : List S67) (j : Nat) (h : j < l.length) : rd_T67 l (j : Int) = l[j] := by
  unfold rd_T67
  rw [Int.toNat_natCast, List.getD_eq_getElem?_getD, List.getElem?_eq_getElem h]
  rfl
theorem rdL12 (l : List (List S80)) (j : Nat) (h : j < l.length) : rd_L12 l (j : Int) = l[j] := by
  unfold rd_L12
  rw [Int.toNat_natCast, List.getD_eq_getElem?_getD, List.getElem?_eq_getElem h]
  rfl
end Go.Proofs.Ytlbcnkmojoinfaa.ChecksV
namespace Go.Proofs.Ytlbcnkmojoinfaa.MCk
open Go.RowKit Go.Maps Go.Proofs.Ytlbcnkmojoinfaa.Hand Go.Proofs.Ytlbcnkmojoinfaa.ChecksV Go.Proofs.YtlbcnkmojoinfaaW.PrintWords Go.Proofs.YtlbcnkmojoinfaaW.PrintLast Go.Proofs.YtlbcnkmojoinfaaW.PrintMore
set_option linter.unusedVariables false
set_option linter.unusedSimpArgs false
set_option maxHeartbeats 8000000 in
set_option maxRecDepth 100000 in
theorem check_act (l : List S30) (A0 : Option Addr) (c0 : Nat) (rn : ByteArray) (conds : List S44) (AC : Option Addr) (cC : Nat) (AA : Option Addr) (nA cA : Nat) (a : S65) (A4 : Option Addr) (c4 : Nat) (A5 : Option Addr) (c5 : Nat) (bound : List ByteArray) (AB : Option Addr) (cB : Nat) (w : World)
    (hC : Kd.C k30 w A0 l.length l) (hc0 : l.length ≤ c0) (hK : Kd.C k44 w AC conds.length conds) (h4 : Kd.C k67 w A4 a.f4.length a.f4) (h5 : Kd.C (Kd.slice 80 k80) w A5 a.f5.length a.f5) (hBd : Kd.C Kd.string w AB bound.length bound) (hcB : bound.length ≤ cB)
    (hF : FewC l) (hcl : conds.length ≤ 1000) (ha : FewAct a) (hbl : bound.length ≤ 90000) :
    Calls Try.prog 33 #[.slice A0 l.length c0, .agg #[.string rn, .slice AC conds.length cC, .slice AA nA cA], .agg #[.int .u8 a.f0, .string a.f1, .int .i64 a.f2, .string a.f3, .slice A4 a.f4.length c4, .slice A5 a.f5.length c5], .slice AB bound.length cB] w fun e w' => e = .returned (.int .i64 (actT l conds a bound)) ∧ Below w.heap.size w w' := by
  have HC := Aside0.mk hC
  have HL0 := Aside0.mk hc0
  have HK := Aside0.mk hK
  have H4 := Aside0.mk h4
  have H5 := Aside0.mk h5
  have HBD := Aside0.mk hBd
  have HCB := Aside0.mk hcB
  have HF := Aside0.mk hF
  have HCL := Aside0.mk hcl
  have HA := Aside0.mk ha
  have HBL := Aside0.mk hbl
  have HOL := Aside0.mk (ofT_len l conds a.f0 a.f1 a.f2 (fun c hc => (hF.2 c hc).2.1))
  clear hC hc0 hK h4 h5 hBd hcB hF hcl ha hbl
  obtain ⟨r, ht⟩ : ∃ r, r = actT l conds a bound := ⟨_, rfl⟩
  rw [← ht]
  have HRA := Aside0.mk ht
  clear ht
  have hmm := @run_makeMap Try.prog
  go_enter Try.func33, Try.ntmps33
  go_upto_region 1 with fail
  obtain ⟨g5, hg_g5⟩ : ∃ g, g = w.heap.size := ⟨_, rfl⟩
  have hW_W1 := below_alloc (Below.refl w.heap.size w) (Obj.cells #[Value.string rn, Value.slice AC conds.length cC, Value.slice AA nA cA] 38)
  have hN_W1 := blk_new w (Obj.cells #[Value.string rn, Value.slice AC conds.length cC, Value.slice AA nA cA] 38)
  have hS_W1 : (w.alloc (Obj.cells #[Value.string rn, Value.slice AC conds.length cC, Value.slice AA nA cA] 38)).heap.size = w.heap.size + 1 := World.size_alloc _ _
  rw [← hg_g5] at hN_W1 hS_W1 ⊢
  generalize w.alloc (Obj.cells #[Value.string rn, Value.slice AC conds.length cC, Value.slice AA nA cA] 38) = W1 at hW_W1 hN_W1 hS_W1 ⊢
  have hW_W2 := below_alloc (Below.refl W1.heap.size W1) (Obj.cells #[Value.int IntKind.u8 a.f0, Value.string a.f1, Value.int IntKind.i64 a.f2, Value.string a.f3, Value.slice A4 a.f4.length c4, Value.slice A5 a.f5.length c5] 65)
  have hN_W2 := blk_new W1 (Obj.cells #[Value.int IntKind.u8 a.f0, Value.string a.f1, Value.int IntKind.i64 a.f2, Value.string a.f3, Value.slice A4 a.f4.length c4, Value.slice A5 a.f5.length c5] 65)
  have hS_W2 : (W1.alloc (Obj.cells #[Value.int IntKind.u8 a.f0, Value.string a.f1, Value.int IntKind.i64 a.f2, Value.string a.f3, Value.slice A4 a.f4.length c4, Value.slice A5 a.f5.length c5] 65)).heap.size = W1.heap.size + 1 := World.size_alloc _ _
  rw [hS_W1] at hN_W2 hS_W2
  generalize W1.alloc (Obj.cells #[Value.int IntKind.u8 a.f0, Value.string a.f1, Value.int IntKind.i64 a.f2, Value.string a.f3, Value.slice A4 a.f4.length c4, Value.slice A5 a.f5.length c5] 65) = W2 at hW_W2 hN_W2 hS_W2 ⊢
  have HB := Aside0.mk (below_step hW_W1 hW_W2)
  have HK5 := Aside0.mk (blk_below hN_W1 hW_W2)
  have HK6 := Aside0.mk hN_W2
  have HG := Aside0.mk (show w.heap.size ≤ g5 by omega)
  have HZ := Aside0.mk (show g5 + 1 < W2.heap.size by omega)
  clear hW_W1 hW_W2 hN_W1 hN_W2 hS_W1 hS_W2 hg_g5
  have k50 := blk_cell HK5.out 0
  have k51 := blk_cell HK5.out 1
  have k52 := blk_cell HK5.out 2
  have k60 := blk_cell HK6.out 0
  have k61 := blk_cell HK6.out 1
  have k62 := blk_cell HK6.out 2
  have k63 := blk_cell HK6.out 3
  have k64 := blk_cell HK6.out 4
  have k65 := blk_cell HK6.out 5
  go_wp2_with fail
  go_at_call 35
  have hlim := HF.out.1
  refine (check_of l A0 c0 rn conds AC cC (.slice AA nA cA) a.f0 a.f1 a.f2 (.string a.f3) (.slice A4 a.f4.length c4) (.slice A5 a.f5.length c5) W2 (Kd.C_below HC.out HB.out) HL0.out (Kd.C_below HK.out HB.out) hlim HCL.out rfl rfl rfl rfl).mono ?_
  clear hlim k50 k51 k52 k60 k61 k62 k63 k64 k65
  have ht := HRA.out
  clear HRA
  unfold actT at ht
  have hol := HOL.out
  clear HOL
  generalize ofT l conds a.f0 a.f1 a.f2 = o at ht hol ⊢
  have HT := Aside0.mk ht
  clear ht
  have HOL := Aside0.mk hol
  clear hol
  rintro ex W3 ⟨A8, c8, rfl, hc8, hr8, hb⟩
  have nB := Aside0.mk (below_step HB.out hb)
  have nK := Aside0.mk (blk_below HK6.out hb)
  have HC8 := Aside0.mk hc8
  have HR8 := Aside0.mk hr8
  clear hb hc8 hr8 HB HK5 HK6 HZ
  have HB := nB
  have HK6 := nK
  clear nB nK
  go_upto_region 2 with fail
  obtain ⟨g9, hg_g9⟩ : ∃ g, g = W3.heap.size := ⟨_, rfl⟩
  have hW_W4 := below_alloc (Below.refl W3.heap.size W3) (Obj.cells #[Value.string o.1, Value.slice A8 o.2.1.length c8] 30)
  have hN_W4 := blk_new W3 (Obj.cells #[Value.string o.1, Value.slice A8 o.2.1.length c8] 30)
  have hS_W4 : (W3.alloc (Obj.cells #[Value.string o.1, Value.slice A8 o.2.1.length c8] 30)).heap.size = W3.heap.size + 1 := World.size_alloc _ _
  rw [← hg_g9] at hN_W4 hS_W4 ⊢
  generalize W3.alloc (Obj.cells #[Value.string o.1, Value.slice A8 o.2.1.length c8] 30) = W4 at hW_W4 hN_W4 hS_W4 ⊢
  have nB := Aside0.mk (below_step HB.out hW_W4)
  have nK := Aside0.mk (blk_below HK6.out hW_W4)
  have nR := Aside0.mk (Kd.C_below HR8.out hW_W4)
  have HK9 := Aside0.mk hN_W4
  clear HB HK6 HR8 hW_W4 hN_W4 hS_W4 hg_g9
  have HB := nB
  have HK6 := nK
  have HR8 := nR
  clear nB nK nR
  by_cases hz : o.2.2 = 0
  · have ht := HT.out
    rw [if_pos hz] at ht
    clear HT
    have HT := Aside0.mk ht
    rw [hz]
    clear ht hz
    go_upto_region 5 with fail
    have hmade := Hand.Met.made W4
    obtain ⟨gm, hg_gm⟩ : ∃ g, g = W4.heap.size := ⟨_, rfl⟩
    have hW_W5 := below_alloc (Below.refl W4.heap.size W4) (Obj.map #[] 0)
    have hS_W5 : (W4.alloc (Obj.map #[] 0)).heap.size = W4.heap.size + 1 := World.size_alloc _ _
    rw [← hg_gm] at hmade hS_W5 ⊢
    generalize W4.alloc (Obj.map #[] 0) = W5 at hW_W5 hmade hS_W5 ⊢
    have HM := Aside0.mk hmade
    have HB4 := Aside0.mk hW_W5
    have HZ := Aside0.mk (show gm < W5.heap.size by omega)
    have HGM := Aside0.mk hg_gm
    have k4 := blk_cell (blk_below HK6.out hW_W5) 4
    clear hmade hW_W5 hS_W5 hg_gm
    go_wp2_with fail
    clear k4
    go_loopw [34] (fun i wr => ∃ (j : Nat) (met : List ByteArray), j ≤ a.f4.length ∧ i = .int .i64 (j : Int) ∧ met.length = j ∧ setsT o.2.1 bound met (a.f4.drop j) = setsT o.2.1 bound [] a.f4 ∧ Hand.Met wr gm met ∧ Below W4.heap.size W4 wr ∧ gm < wr.heap.size)
      (fun i _ => a.f4.length - (intOf i).toNat)
    case atStart => exact ⟨0, [], Nat.zero_le _, rfl, rfl, rfl, HM.out, HB4.out, HZ.out⟩
    case round =>
      obtain ⟨j, met, hj, rfl, hml, hst, hm, hb, hz⟩ := hrel
      clear HM HB4 HZ
      have HML := Aside0.mk hml
      have HST := Aside0.mk hst
      have HM := Aside0.mk hm
      have HB4 := Aside0.mk hb
      have HZ := Aside0.mk hz
      clear hml hst hm hb hz
      by_cases hlt : j < a.f4.length
      · have b1 : decide ((j : Int) < (a.f4.length : Int)) = true := decide_eq_true (by omega)
        have HLT := Aside0.mk hlt
        obtain ⟨ad, B1, d1, e1, hx0, hx1, hl1, hi1⟩ := at_T67 H4.out (j : Int) (by omega) (by omega)
        subst e1
        replace hx0 := ((below_step HB.out HB4.out).cell (World.block_lt_of_cell? w _ hx0)).trans hx0
        replace hx1 := ((below_step HB.out HB4.out).cell (World.block_lt_of_cell? w _ hx1)).trans hx1
        have hd := HST.out
        rw [List.drop_eq_getElem_cons hlt, setsT] at hd
        rw [rd67 a.f4 j hlt] at hx0 hx1 hl1 hi1
        have hfe := HA.out.2.1 _ (List.getElem_mem hlt)
        rw [Int.toNat_natCast] at hx0 hx1
        generalize a.f4[j] = y at hx0 hx1 hl1 hi1 hd hfe
        have p0 := eq_true (show 0 ≤ (j : Int) by omega)
        have p1 := eq_true (show (j : Int) < (a.f4.length : Int) by omega)
        have HD := Aside0.mk hd
        have HFE := Aside0.mk hfe
        have HI1 := Aside0.mk hi1
        have HL1 := Aside0.mk hl1
        clear hlt hd hfe hl1 hi1
        go_upto_region 8 with fail
        obtain ⟨gb, hg_gb⟩ : ∃ g, g = wr.heap.size := ⟨_, rfl⟩
        have hW_wa := below_alloc (Below.refl wr.heap.size wr) (Obj.cells #[Value.string y.f0, Value.slice B1 y.f1.length d1] 67)
        have hN_wa := blk_new wr (Obj.cells #[Value.string y.f0, Value.slice B1 y.f1.length d1] 67)
        have hS_wa : (wr.alloc (Obj.cells #[Value.string y.f0, Value.slice B1 y.f1.length d1] 67)).heap.size = wr.heap.size + 1 := World.size_alloc _ _
        rw [← hg_gb] at hN_wa hS_wa ⊢
        generalize wr.alloc (Obj.cells #[Value.string y.f0, Value.slice B1 y.f1.length d1] 67) = wa at hW_wa hN_wa hS_wa ⊢
        have HMA := Aside0.mk (HM.out.below hW_wa)
        have HBA := Aside0.mk (below_step HB4.out hW_wa)
        have HKA := Aside0.mk hN_wa
        have HGB := Aside0.mk (show gm < gb by have := HZ.out; omega)
        have HZA := Aside0.mk (show gb < wa.heap.size by omega)
        clear hW_wa hN_wa hS_wa hg_gb hx0 hx1 HM HB4 HZ
        have k0 := blk_cell HKA.out 0
        have e0 := blk_cell (blk_below HK9.out HBA.out) 0
        have e1 := blk_cell (blk_below HK9.out HBA.out) 1
        go_wp2_with fail
        go_at_call 11
        have hle8 := HC8.out
        have hcm := HOL.out
        obtain ⟨ix, hix⟩ := attr_is 1001 o.1 o.2.1 y.f0 (by omega) (by omega)
        refine (check_Attr.calls 1001 o.1 A8 c8 o.2.1 y.f0 ix (hasN o.2.1 y.f0) wa (Kd.C_below HR8.out HBA.out) hle8 hix).mono ?_
        clear hle8 hcm hix k0 e0 e1
        rintro ex wb ⟨rfl, hb⟩
        have HMB := Aside0.mk (HMA.out.below hb)
        have HBB := Aside0.mk (below_step HBA.out hb)
        have HKB := Aside0.mk (blk_below HKA.out hb)
        have HZB := Aside0.mk (show gb < wb.heap.size by have := HZA.out; have := hb.size; omega)
        clear hb HMA HBA HKA HZA
        by_cases hh : hasN o.2.1 y.f0 = true
        · have hd := HD.out
          rw [if_pos hh] at hd
          have HD2 := Aside0.mk hd
          have k0 := blk_cell HKB.out 0
          clear HD hd
          go_wp2_with fail
          go_at_call 26
          have hml := HML.out
          have hjl := HLT.out
          have hfa := HA.out.1
          refine (meet_calls gm met y.f0 wb HMB.out (by omega) HFE.out.1).mono ?_
          clear hml hjl hfa k0
          rintro ex wc ⟨rfl, hM, hG⟩
          rw [Hand.has_eq]
          have hgm2 := HGM.out
          have HBC := Aside0.mk (HBB.out.grown hG HBB.out.size (fun k hk => by injection hk with hk; omega))
          have HKC := Aside0.mk ((hG.block gb HZB.out (fun e => by injection e with e; have := HGB.out; omega)).trans HKB.out)
          have HZC := Aside0.mk (show gb < wc.heap.size by have := HZB.out; have := hG.size; omega)
          have HMC := Aside0.mk hM
          clear hM hG hgm2 HMB HBB HKB HZB
          by_cases hm : hasN met y.f0 = true
          · have hd := HD2.out
            rw [if_pos hm] at hd
            have ht := HT.out
            rw [← hd, if_neg (by decide)] at ht
            have HT2 := Aside0.mk ht
            clear hd ht
            go_wp2_with fail
            go_ret
            exact ⟨by rw [HT2.out]; rfl, below_step HB.out HBC.out⟩
          · have hd := HD2.out
            rw [if_neg hm] at hd
            have HD3 := Aside0.mk hd
            replace hm := Bool.eq_false_iff.mpr hm
            have k1 := blk_cell HKC.out 1
            clear hd HD2
            go_wp2_with fail
            go_at_call 16
            have hex := expr_is y.f1 bound HFE.out.2 HBL.out
            refine (check_Expr.calls 101001 B1 d1 y.f1 AB cB bound (exprT bound y.f1) wc (Kd.C_below HI1.out (below_step HB.out HBC.out)) HL1.out (Kd.C_below HBD.out (below_step HB.out HBC.out)) HCB.out hex).mono ?_
            clear hex k1
            rintro ex wd ⟨rfl, hb⟩
            have HMD := Aside0.mk (HMC.out.below hb)
            have HBDD := Aside0.mk (below_step HBC.out hb)
            have HZD := Aside0.mk (show gm < wd.heap.size by have := HZC.out; have := HGB.out; have := hb.size; omega)
            clear hb HMC HBC HKC HZC
            by_cases hz : exprT bound y.f1 = 0
            · have hd := HD3.out
              rw [if_pos hz] at hd
              have HD4 := Aside0.mk hd
              rw [hz]
              clear hd hz
              go_wp2_with fail
              have hln := HA.out.1
              have hlt2 := HLT.out
              rw [add1' (by omega)]
              exact ⟨⟨j + 1, met ++ [y.f0], by omega, rfl, by rw [List.length_append, HML.out]; rfl, HD4.out, HMD.out, HBDD.out, HZD.out⟩, by simp [intOf]; omega⟩
            · have hd := HD3.out
              rw [if_neg hz] at hd
              have ht := HT.out
              rw [← hd, if_neg hz] at ht
              have HT2 := Aside0.mk ht
              have hzz : (exprT bound y.f1 != 0) = true := bne_iff_ne.mpr hz
              clear hd ht hz
              go_wp2_with fail
              go_ret
              exact ⟨by rw [HT2.out]; rfl, below_step HB.out HBDD.out⟩
        · have hd := HD.out
          rw [if_neg hh] at hd
          have ht := HT.out
          rw [← hd, if_neg (by decide)] at ht
          have HT2 := Aside0.mk ht
          replace hh := Bool.eq_false_iff.mpr hh
          clear hd ht
          go_wp2_with fail
          go_ret
          exact ⟨by rw [HT2.out]; rfl, below_step HB.out HBB.out⟩
      · obtain rfl : j = a.f4.length := by omega
        have b1 : decide ((a.f4.length : Int) < (a.f4.length : Int)) = false := decide_eq_false (by omega)
        have hd := HST.out
        rw [List.drop_length, setsT] at hd
        have ht := HT.out
        rw [← hd, if_pos rfl] at ht
        have HT2 := Aside0.mk ht
        clear hlt hd ht
        have k5 := blk_cell (blk_below HK6.out HB4.out) 5
        have HB5 := Aside0.mk (below_step HB.out HB4.out)
        clear HT HST HM HZ
        go_wp2_with fail
        clear k5
        go_loopw [62] (fun i wr => ∃ (j : Nat), j ≤ a.f5.length ∧ i = .int .i64 (j : Int) ∧ exprsT bound (a.f5.drop j) = exprsT bound a.f5 ∧ Below w.heap.size w wr)
          (fun i _ => a.f5.length - (intOf i).toNat)
        case atStart => exact ⟨0, Nat.zero_le _, rfl, rfl, HB5.out⟩
        case round =>
          obtain ⟨j, hj, rfl, hst, hb⟩ := hrel
          clear HB5 HB4
          have HST := Aside0.mk hst
          have HB5 := Aside0.mk hb
          clear hst hb
          by_cases hlt : j < a.f5.length
          · have b1 : decide ((j : Int) < (a.f5.length : Int)) = true := decide_eq_true (by omega)
            have HLT := Aside0.mk hlt
            obtain ⟨ad, B1, d1, e1, hx0, hl1, hi1⟩ := at_L12 H5.out (j : Int) (by omega) (by omega)
            subst e1
            replace hx0 := (HB5.out.cell (World.block_lt_of_cell? w _ hx0)).trans hx0
            have hd := HST.out
            rw [List.drop_eq_getElem_cons hlt, exprsT] at hd
            rw [rdL12 a.f5 j hlt] at hx0 hl1 hi1
            have hfe := HA.out.2.2.2 _ (List.getElem_mem hlt)
            rw [Int.toNat_natCast] at hx0
            generalize a.f5[j] = y at hx0 hl1 hi1 hd hfe
            have p0 := eq_true (show 0 ≤ (j : Int) by omega)
            have p1 := eq_true (show (j : Int) < (a.f5.length : Int) by omega)
            have HD := Aside0.mk hd
            have HFE := Aside0.mk hfe
            have HI1 := Aside0.mk hi1
            have HL1 := Aside0.mk hl1
            clear hlt hd hfe hl1 hi1
            go_wp2_with fail
            go_at_call 16
            have hex := expr_is y bound HFE.out HBL.out
            refine (check_Expr.calls 101001 B1 d1 y AB cB bound (exprT bound y) wr (Kd.C_below HI1.out HB5.out) HL1.out (Kd.C_below HBD.out HB5.out) HCB.out hex).mono ?_
            clear hex hx0
            rintro ex wd ⟨rfl, hb⟩
            have HB6 := Aside0.mk (below_step HB5.out hb)
            clear hb HB5
            by_cases hz : exprT bound y = 0
            · have hd := HD.out
              rw [if_pos hz] at hd
              have HD4 := Aside0.mk hd
              rw [hz]
              clear hd hz
              go_wp2_with fail
              have hln := HA.out.2.2.1
              have hlt2 := HLT.out
              rw [add1' (by omega)]
              exact ⟨⟨j + 1, by omega, rfl, HD4.out, HB6.out⟩, by simp [intOf]; omega⟩
            · have hd := HD.out
              rw [if_neg hz] at hd
              have ht := HT2.out
              rw [← hd] at ht
              have HT3 := Aside0.mk ht
              have hzz : (exprT bound y != 0) = true := bne_iff_ne.mpr hz
              clear hd ht hz
              go_wp2_with fail
              go_ret
              exact ⟨by rw [HT3.out]; rfl, HB6.out⟩
          · obtain rfl : j = a.f5.length := by omega
            have b1 : decide ((a.f5.length : Int) < (a.f5.length : Int)) = false := decide_eq_false (by omega)
            have hd := HST.out
            rw [List.drop_length, exprsT] at hd
            have ht := HT2.out
            rw [← hd] at ht
            have HT3 := Aside0.mk ht
            clear hlt hd ht
            go_wp2_with fail
            go_ret
            exact ⟨by rw [HT3.out]; rfl, HB5.out⟩
  · have ht := HT.out
    rw [if_neg hz] at ht
    clear HT
    have HT := Aside0.mk ht
    have hzz : (o.2.2 != 0) = true := bne_iff_ne.mpr hz
    clear ht hz
    go_wp2_with fail
    go_ret
    exact ⟨by rw [HT.out]; rfl, HB.out⟩
end Go.Proofs.Ytlbcnkmojoinfaa.MCk
