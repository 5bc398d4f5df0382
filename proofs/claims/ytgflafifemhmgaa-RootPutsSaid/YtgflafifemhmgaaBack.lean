/- The walk of the law RootBack. -/
import Derived.Test.YtgflafifemhmgaaRootAw
namespace Go.Proofs.Ytgflafifemhmgaa.MRt
open Go.RowKit Go.Proofs.Ytgflafifemhmgaa.Hand Go.Proofs.Ytgflafifemhmgaa.Crc Go.Proofs.Ytgflafifemhmgaa.RootV Go.Proofs.Ytgflafifemhmgaa.RSums Go.Proofs.Ytgflafifemhmgaa.RPure Go.Proofs.YtgflafifemhmgaaW.PrintWords Go.Proofs.YtgflafifemhmgaaW.PrintLast Go.Proofs.YtgflafifemhmgaaW.PrintMore
set_option linter.unusedVariables false
set_option linter.unusedSimpArgs false
theorem light_is (r : RV) : intarsialaw05_light.f r.ep r.bl r.nx r.st r.tb r.mp = some (decide (r.tb.length ≤ 60 ∧ r.mp.length ≤ 60)) := by
  unfold intarsialaw05_light.f
  by_cases h : (r.tb.length : Int) ≤ 60
  · rw [if_pos h]
    congr 1
    rw [decide_eq_decide]
    omega
  · rw [if_neg h, decide_eq_false (by omega)]
set_option maxHeartbeats 16000000 in
set_option maxRecDepth 100000 in
theorem RootBack_calls (r : RV) (A : Option Addr) (c : Nat) (B : Option Addr) (d : Nat) (w : World) (hrA : Kd.C (Kd.int .i64) w A r.tb.length r.tb) (hcA : r.tb.length ≤ c) (hrB : Kd.C (Kd.int .i64) w B r.mp.length r.mp) (hcB : r.mp.length ≤ d) (hep : -9223372036854775808 ≤ r.ep ∧ r.ep < 9223372036854775808) :
    Calls Try.prog 10 #[.agg #[.int .i64 r.ep, .int .i64 r.bl, .int .i64 r.nx, .int .i64 r.st, .slice A r.tb.length c, .slice B r.mp.length d]] w fun e w' => e = .returned (.bool true) ∧ Below w.heap.size w w' := by
  have HA := Aside0.mk hrA
  have HCA := Aside0.mk hcA
  have HD := Aside0.mk hrB
  have HCD := Aside0.mk hcB
  clear hrA hcA hrB hcB hep
  go_enter Try.func10, Try.ntmps10
  go_wp2_with fail
  go_at_call 23
  have HA0 := HA
  have HD0 := HD
  have HB := Aside0.mk (Below.refl w.heap.size w)
  obtain ⟨g1, hg1⟩ : ∃ g, g = w.heap.size := ⟨_, rfl⟩
  have hW := below_alloc (Below.refl w.heap.size w) (Obj.cells #[Value.int IntKind.i64 (r).ep, Value.int IntKind.i64 (r).bl, Value.int IntKind.i64 (r).nx, Value.int IntKind.i64 (r).st, Value.slice A (r).tb.length c, Value.slice B (r).mp.length d] 52)
  have hN := blk_new w (Obj.cells #[Value.int IntKind.i64 (r).ep, Value.int IntKind.i64 (r).bl, Value.int IntKind.i64 (r).nx, Value.int IntKind.i64 (r).st, Value.slice A (r).tb.length c, Value.slice B (r).mp.length d] 52)
  rw [← hg1] at hN ⊢
  generalize w.alloc (Obj.cells #[Value.int IntKind.i64 (r).ep, Value.int IntKind.i64 (r).bl, Value.int IntKind.i64 (r).nx, Value.int IntKind.i64 (r).st, Value.slice A (r).tb.length c, Value.slice B (r).mp.length d] 52) = U1 at hW hN ⊢
  have n_HB := Aside0.mk (below_step HB.out hW)
  have n_HA := Aside0.mk (Kd.C_below HA.out hW)
  have n_HD := Aside0.mk (Kd.C_below HD.out hW)
  clear HB HA HD
  have HB := n_HB
  have HA := n_HA
  have HD := n_HD
  clear n_HB n_HA n_HD
  have HK1 := Aside0.mk (hN)
  have Eg1 := Aside0.mk hg1
  clear hW hN hg1
  have hg := intarsialaw05_light.calls r.ep r.bl r.nx r.st A c r.tb B d r.mp _ U1 HA.out HCA.out HD.out HCD.out (light_is r)
  refine hg.mono ?_
  clear hg
  rintro ex U2 ⟨rfl, hb⟩
  have n_HB := Aside0.mk (below_step HB.out hb)
  have n_HA := Aside0.mk (Kd.C_below HA.out hb)
  have n_HD := Aside0.mk (Kd.C_below HD.out hb)
  have n_HK1 := Aside0.mk (blk_below HK1.out hb)
  clear HB HA HD HK1
  have HB := n_HB
  have HA := n_HA
  have HD := n_HD
  have HK1 := n_HK1
  clear n_HB n_HA n_HD n_HK1
  clear hb
  by_cases hl : r.tb.length ≤ 60 ∧ r.mp.length ≤ 60
  · have HL := Aside0.mk hl
    rw [decide_eq_true hl]
    clear hl
    have ck0 := blk_cell HK1.out 0; have fk0 := blk_frozen HK1.out 0; have ck1 := blk_cell HK1.out 1; have fk1 := blk_frozen HK1.out 1; have ck2 := blk_cell HK1.out 2; have fk2 := blk_frozen HK1.out 2; have ck3 := blk_cell HK1.out 3; have fk3 := blk_frozen HK1.out 3; have ck4 := blk_cell HK1.out 4; have fk4 := blk_frozen HK1.out 4; have ck5 := blk_cell HK1.out 5; have fk5 := blk_frozen HK1.out 5
    go_wp2_with fail
    go_at_call 25
    clear ck0 fk0 ck1 fk1 ck2 fk2 ck3 fk3 ck4 fk4 ck5 fk5
    have hg := root_Put.calls 3000 r.ep r.bl r.nx r.st A c r.tb B d r.mp (rput r).1 (rput r).2 U2 HA.out HCA.out HD.out HCD.out (put_is 0 r (by have := HL.out; omega) (by have := HL.out; omega))
    refine hg.mono ?_
    clear hg
    rintro ex U3 ⟨v3, rfl, hr, hb⟩
    obtain ⟨L, cL, rfl⟩ := Kd.R_slice hr
    have n_HB := Aside0.mk (below_step HB.out hb)
    have n_HA := Aside0.mk (Kd.C_below HA.out hb)
    have n_HD := Aside0.mk (Kd.C_below HD.out hb)
    have n_HK1 := Aside0.mk (blk_below HK1.out hb)
    clear HB HA HD HK1
    have HB := n_HB
    have HA := n_HA
    have HD := n_HD
    have HK1 := n_HK1
    clear n_HB n_HA n_HD n_HK1
    have HR := Aside0.mk (Kd.R_reads' hr).2.2
    have HRC := Aside0.mk (Kd.R_reads' hr).2.1
    clear hr hb
    by_cases hc : rcheck r = 0
    · skip
      have HC := Aside0.mk hc
      have hbl := rcheck_ok hc
      have hby : ∀ x ∈ (rput r).1, Byte x := rput_byte r
      have hget : rget (rput r).1 = (r, 0) := by rw [rput_ok hc]; exact rget_laid hc
      have hlt : r.tb.length ≤ 1000 ∧ r.mp.length ≤ 1000 := by omega
      have hep : 0 ≤ r.ep := hbl.1.1
      have hb0 : r.ep % 2 = 0 → rchoose (rput r).1 [] = (r, 0, 0) := fun h => by rw [rput_ok hc]; exact rchoose_back0 hc h
      have hb1 : r.ep % 2 = 1 → rchoose [] (rput r).1 = (r, 1, 0) := fun h => by rw [rput_ok hc]; exact rchoose_back1 hc h
      have eb : ((rput r).2 != 0) = false := by rw [rput_ok hc]; rfl
      clear hc hbl
      have HBY := Aside0.mk hby
      have HGET := Aside0.mk hget
      have HLT := Aside0.mk hlt
      have HEP := Aside0.mk hep
      have HB0 := Aside0.mk hb0
      have HB1 := Aside0.mk hb1
      clear hby hget hlt hep hb0 hb1
      go_wp2_with fail
      go_at_call 30
      have hg := root_Get L cL (rput r).1 U3 HR.out HRC.out HBY.out
      rw [HGET.out] at hg
      refine hg.mono ?_
      clear hg
      rintro ex U4 ⟨v, rfl, hv, hb⟩
      obtain ⟨vT, vM, rfl, hT, hM⟩ := hv
      obtain ⟨T1, cT1, rfl⟩ := Kd.R_slice hT
      obtain ⟨M1, cM1, rfl⟩ := Kd.R_slice hM
      have n_HB := Aside0.mk (below_step HB.out hb)
      have n_HA := Aside0.mk (Kd.C_below HA.out hb)
      have n_HD := Aside0.mk (Kd.C_below HD.out hb)
      have n_HK1 := Aside0.mk (blk_below HK1.out hb)
      have n_HR := Aside0.mk (Kd.C_below HR.out hb)
      clear HB HA HD HK1 HR
      have HB := n_HB
      have HA := n_HA
      have HD := n_HD
      have HK1 := n_HK1
      have HR := n_HR
      clear n_HB n_HA n_HD n_HK1 n_HR
      have HT1 := Aside0.mk (Kd.R_bound hT)
      have HM1 := Aside0.mk (Kd.R_bound hM)
      clear hT hM hb
      go_wp2_with fail
      go_at_call 32
      obtain ⟨g5, hg5⟩ : ∃ g, g = U4.heap.size := ⟨_, rfl⟩
      have hW := below_alloc (Below.refl U4.heap.size U4) (Obj.cells #[Value.int IntKind.i64 (r).ep, Value.int IntKind.i64 (r).bl, Value.int IntKind.i64 (r).nx, Value.int IntKind.i64 (r).st, Value.slice T1 (r).tb.length cT1, Value.slice M1 (r).mp.length cM1] 55)
      have hN := blk_new U4 (Obj.cells #[Value.int IntKind.i64 (r).ep, Value.int IntKind.i64 (r).bl, Value.int IntKind.i64 (r).nx, Value.int IntKind.i64 (r).st, Value.slice T1 (r).tb.length cT1, Value.slice M1 (r).mp.length cM1] 55)
      rw [← hg5] at hN ⊢
      generalize U4.alloc (Obj.cells #[Value.int IntKind.i64 (r).ep, Value.int IntKind.i64 (r).bl, Value.int IntKind.i64 (r).nx, Value.int IntKind.i64 (r).st, Value.slice T1 (r).tb.length cT1, Value.slice M1 (r).mp.length cM1] 55) = U5 at hW hN ⊢
      have n_HB := Aside0.mk (below_step HB.out hW)
      have n_HA := Aside0.mk (Kd.C_below HA.out hW)
      have n_HD := Aside0.mk (Kd.C_below HD.out hW)
      have n_HK1 := Aside0.mk (blk_below HK1.out hW)
      have n_HR := Aside0.mk (Kd.C_below HR.out hW)
      have n_HT1 := Aside0.mk (Kd.R_below HT1.out hW)
      have n_HM1 := Aside0.mk (Kd.R_below HM1.out hW)
      clear HB HA HD HK1 HR HT1 HM1
      have HB := n_HB
      have HA := n_HA
      have HD := n_HD
      have HK1 := n_HK1
      have HR := n_HR
      have HT1 := n_HT1
      have HM1 := n_HM1
      clear n_HB n_HA n_HD n_HK1 n_HR n_HT1 n_HM1
      have HK5 := Aside0.mk (hN)
      have Eg5 := Aside0.mk hg5
      clear hW hN hg5
      by_cases he : r.ep % 2 = 1
      · have HE := Aside0.mk he
        clear he
        have hg := root_Choose L cL (rput r).1 none 0 [] U5 HR.out HRC.out HBY.out (Kd.C_nil _ _) (Nat.le_refl _) (by intro x hx; cases hx)
        refine hg.mono ?_
        clear hg
        rintro ex U6 ⟨v, rfl, hv, hb⟩
        obtain ⟨vT, vM, rfl, hT, hM⟩ := hv
        obtain ⟨T2, cT2, rfl⟩ := Kd.R_slice hT
        obtain ⟨M2, cM2, rfl⟩ := Kd.R_slice hM
        have n_HB := Aside0.mk (below_step HB.out hb)
        have n_HA := Aside0.mk (Kd.C_below HA.out hb)
        have n_HD := Aside0.mk (Kd.C_below HD.out hb)
        have n_HK1 := Aside0.mk (blk_below HK1.out hb)
        have n_HR := Aside0.mk (Kd.C_below HR.out hb)
        have n_HT1 := Aside0.mk (Kd.R_below HT1.out hb)
        have n_HM1 := Aside0.mk (Kd.R_below HM1.out hb)
        have n_HK5 := Aside0.mk (blk_below HK5.out hb)
        clear HB HA HD HK1 HR HT1 HM1 HK5
        have HB := n_HB
        have HA := n_HA
        have HD := n_HD
        have HK1 := n_HK1
        have HR := n_HR
        have HT1 := n_HT1
        have HM1 := n_HM1
        have HK5 := n_HK5
        clear n_HB n_HA n_HD n_HK1 n_HR n_HT1 n_HM1 n_HK5
        clear hT hM hb
        go_upto_region 8 with fail
        have hl5 := blk_lt HK5.out
        have hl1 := blk_lt HK1.out
        have hlw := HB.out.size
        obtain ⟨g7, hg7⟩ : ∃ g, g = U6.heap.size := ⟨_, rfl⟩
        have hW := below_alloc (Below.refl U6.heap.size U6) (Obj.cells #[Value.int IntKind.i64 ((rchoose (rput r).1 []).1).ep, Value.int IntKind.i64 ((rchoose (rput r).1 []).1).bl, Value.int IntKind.i64 ((rchoose (rput r).1 []).1).nx, Value.int IntKind.i64 ((rchoose (rput r).1 []).1).st, Value.slice T2 ((rchoose (rput r).1 []).1).tb.length cT2, Value.slice M2 ((rchoose (rput r).1 []).1).mp.length cM2] 55)
        have hN := blk_new U6 (Obj.cells #[Value.int IntKind.i64 ((rchoose (rput r).1 []).1).ep, Value.int IntKind.i64 ((rchoose (rput r).1 []).1).bl, Value.int IntKind.i64 ((rchoose (rput r).1 []).1).nx, Value.int IntKind.i64 ((rchoose (rput r).1 []).1).st, Value.slice T2 ((rchoose (rput r).1 []).1).tb.length cT2, Value.slice M2 ((rchoose (rput r).1 []).1).mp.length cM2] 55)
        rw [← hg7] at hN ⊢
        generalize U6.alloc (Obj.cells #[Value.int IntKind.i64 ((rchoose (rput r).1 []).1).ep, Value.int IntKind.i64 ((rchoose (rput r).1 []).1).bl, Value.int IntKind.i64 ((rchoose (rput r).1 []).1).nx, Value.int IntKind.i64 ((rchoose (rput r).1 []).1).st, Value.slice T2 ((rchoose (rput r).1 []).1).tb.length cT2, Value.slice M2 ((rchoose (rput r).1 []).1).mp.length cM2] 55) = U7 at hW hN ⊢
        have n_HB := Aside0.mk (below_step HB.out hW)
        have n_HA := Aside0.mk (Kd.C_below HA.out hW)
        have n_HD := Aside0.mk (Kd.C_below HD.out hW)
        have n_HK1 := Aside0.mk (blk_below HK1.out hW)
        have n_HR := Aside0.mk (Kd.C_below HR.out hW)
        have n_HT1 := Aside0.mk (Kd.R_below HT1.out hW)
        have n_HM1 := Aside0.mk (Kd.R_below HM1.out hW)
        have n_HK5 := Aside0.mk (blk_below HK5.out hW)
        clear HB HA HD HK1 HR HT1 HM1 HK5
        have HB := n_HB
        have HA := n_HA
        have HD := n_HD
        have HK1 := n_HK1
        have HR := n_HR
        have HT1 := n_HT1
        have HM1 := n_HM1
        have HK5 := n_HK5
        clear n_HB n_HA n_HD n_HK1 n_HR n_HT1 n_HM1 n_HK5
        have HK7 := Aside0.mk (hN)
        have Eg7 := Aside0.mk hg7
        clear hW hN hg7
        have HN57 := Aside0.mk (show g5 < g7 by have := Eg7.out; omega)
        have HN17 := Aside0.mk (show g1 < g7 by have := Eg7.out; omega)
        have HZ7 := Aside0.mk (show w.heap.size ≤ g7 by have := Eg7.out; omega)
        have HS7 := Aside0.mk (blk_lt HK7.out)
        clear hl5 hl1 hlw
        have htm : Int.tmod r.ep 2 = r.ep % 2 := Int.tmod_eq_emod_of_nonneg HEP.out
        have hwm : wrap64 (r.ep % 2) = r.ep % 2 := by unfold wrap64; omega
        have hee := HE.out
        have p1 : (r.ep % 2 == 1) = true := by rw [hee]; rfl
        have p2 : ((1 : Int) == r.ep % 2) = true := by rw [hee]; rfl
        clear hee
        have ck0 := blk_cell HK1.out 0; have fk0 := blk_frozen HK1.out 0; have ck1 := blk_cell HK1.out 1; have fk1 := blk_frozen HK1.out 1; have ck2 := blk_cell HK1.out 2; have fk2 := blk_frozen HK1.out 2; have ck3 := blk_cell HK1.out 3; have fk3 := blk_frozen HK1.out 3; have ck4 := blk_cell HK1.out 4; have fk4 := blk_frozen HK1.out 4; have ck5 := blk_cell HK1.out 5; have fk5 := blk_frozen HK1.out 5
        go_wp2_with fail
        go_at_call 32
        clear ck0 fk0 ck1 fk1 ck2 fk2 ck3 fk3 ck4 fk4 ck5 fk5
        have hg := root_Choose none 0 [] L cL (rput r).1 U7 (Kd.C_nil _ _) (Nat.le_refl _) (by intro x hx; cases hx) HR.out HRC.out HBY.out
        rw [HB1.out HE.out] at hg
        refine hg.mono ?_
        clear hg
        rintro ex U7b ⟨v, rfl, hv, hb⟩
        obtain ⟨vT, vM, rfl, hT, hM⟩ := hv
        obtain ⟨T3, cT3, rfl⟩ := Kd.R_slice hT
        obtain ⟨M3, cM3, rfl⟩ := Kd.R_slice hM
        have n_HB := Aside0.mk (below_step HB.out hb)
        have n_HA := Aside0.mk (Kd.C_below HA.out hb)
        have n_HD := Aside0.mk (Kd.C_below HD.out hb)
        have n_HK1 := Aside0.mk (blk_below HK1.out hb)
        have n_HR := Aside0.mk (Kd.C_below HR.out hb)
        have n_HT1 := Aside0.mk (Kd.R_below HT1.out hb)
        have n_HM1 := Aside0.mk (Kd.R_below HM1.out hb)
        have n_HK5 := Aside0.mk (blk_below HK5.out hb)
        have n_HK7 := Aside0.mk (blk_below HK7.out hb)
        clear HB HA HD HK1 HR HT1 HM1 HK5 HK7
        have HB := n_HB
        have HA := n_HA
        have HD := n_HD
        have HK1 := n_HK1
        have HR := n_HR
        have HT1 := n_HT1
        have HM1 := n_HM1
        have HK5 := n_HK5
        have HK7 := n_HK7
        clear n_HB n_HA n_HD n_HK1 n_HR n_HT1 n_HM1 n_HK5 n_HK7
        have HT3 := Aside0.mk (hT)
        have HM3 := Aside0.mk (hM)
        clear hT hM hb
        have cx0 := blk_cell HK7.out 0; have fx0 := blk_frozen HK7.out 0; have cx1 := blk_cell HK7.out 1; have fx1 := blk_frozen HK7.out 1; have cx2 := blk_cell HK7.out 2; have fx2 := blk_frozen HK7.out 2; have cx3 := blk_cell HK7.out 3; have fx3 := blk_frozen HK7.out 3; have cx4 := blk_cell HK7.out 4; have fx4 := blk_frozen HK7.out 4; have cx5 := blk_cell HK7.out 5; have fx5 := blk_frozen HK7.out 5
        go_upto_region 10 with fail
        clear cx0 fx0 cx1 fx1 cx2 fx2 cx3 fx3 cx4 fx4 cx5 fx5
        have hfar : ∀ q, q ≠ g7 → (put6 U7b g7 (Value.int IntKind.i64 r.ep) (Value.int IntKind.i64 r.bl) (Value.int IntKind.i64 r.nx) (Value.int IntKind.i64 r.st) (Value.slice T3 r.tb.length cT3) (Value.slice M3 r.mp.length cM3)).heap[q]? = U7b.heap[q]? := fun q hq => put6_far _ _ _ _ _ _ _ _ _ hq
        have hx7 : (put6 U7b g7 (Value.int IntKind.i64 r.ep) (Value.int IntKind.i64 r.bl) (Value.int IntKind.i64 r.nx) (Value.int IntKind.i64 r.st) (Value.slice T3 r.tb.length cT3) (Value.slice M3 r.mp.length cM3)).heap[g7]? = _ := put6_heap HK7.out _ _ _ _ _ _
        have hbel : Below w.heap.size w (put6 U7b g7 (Value.int IntKind.i64 r.ep) (Value.int IntKind.i64 r.bl) (Value.int IntKind.i64 r.nx) (Value.int IntKind.i64 r.st) (Value.slice T3 r.tb.length cT3) (Value.slice M3 r.mp.length cM3)) := put6_below HB.out HZ7.out _ _ _ _ _ _
        change Code.wp _ _ _ _ (put6 U7b g7 (Value.int IntKind.i64 r.ep) (Value.int IntKind.i64 r.bl) (Value.int IntKind.i64 r.nx) (Value.int IntKind.i64 r.st) (Value.slice T3 r.tb.length cT3) (Value.slice M3 r.mp.length cM3))
        generalize put6 U7b g7 (Value.int IntKind.i64 r.ep) (Value.int IntKind.i64 r.bl) (Value.int IntKind.i64 r.nx) (Value.int IntKind.i64 r.st) (Value.slice T3 r.tb.length cT3) (Value.slice M3 r.mp.length cM3) = U7c at hfar hx7 hbel ⊢
        have n_HB := Aside0.mk hbel
        have n_HK1 := Aside0.mk ((hfar g1 (by have := HN17.out; omega)).trans HK1.out)
        have n_HK5 := Aside0.mk ((hfar g5 (by have := HN57.out; omega)).trans HK5.out)
        have n_HK7 := Aside0.mk hx7
        have n_HT1 := Aside0.mk (Kd.R_step HT1.out (fun q hq _ => hfar q (by have := hq.2.2.1; have := Eg5.out; have := HN57.out; omega)))
        have n_HM1 := Aside0.mk (Kd.R_step HM1.out (fun q hq _ => hfar q (by have := hq.2.2.1; have := Eg5.out; have := HN57.out; omega)))
        have n_HT3 := Aside0.mk (Kd.R_step (Kd.R_bound HT3.out) (fun q hq _ => hfar q (by have := hq.2.1; have := HS7.out; omega)))
        have n_HM3 := Aside0.mk (Kd.R_step (Kd.R_bound HM3.out) (fun q hq _ => hfar q (by have := hq.2.1; have := HS7.out; omega)))
        have n_HA := Aside0.mk (Kd.C_below HA0.out hbel)
        have n_HD := Aside0.mk (Kd.C_below HD0.out hbel)
        clear hfar hx7 hbel HB HK1 HK5 HK7 HT1 HM1 HT3 HM3 HA HD HR
        have HB := n_HB
        clear n_HB
        have HK1 := n_HK1
        clear n_HK1
        have HK5 := n_HK5
        clear n_HK5
        have HK7 := n_HK7
        clear n_HK7
        have HT1 := n_HT1
        clear n_HT1
        have HM1 := n_HM1
        clear n_HM1
        have HT3 := n_HT3
        clear n_HT3
        have HM3 := n_HM3
        clear n_HM3
        have HA := n_HA
        clear n_HA
        have HD := n_HD
        clear n_HD
        have ck0 := blk_cell HK1.out 0; have fk0 := blk_frozen HK1.out 0; have ck1 := blk_cell HK1.out 1; have fk1 := blk_frozen HK1.out 1; have ck2 := blk_cell HK1.out 2; have fk2 := blk_frozen HK1.out 2; have ck3 := blk_cell HK1.out 3; have fk3 := blk_frozen HK1.out 3; have ck4 := blk_cell HK1.out 4; have fk4 := blk_frozen HK1.out 4; have ck5 := blk_cell HK1.out 5; have fk5 := blk_frozen HK1.out 5
        have cm0 := blk_cell HK5.out 0; have fm0 := blk_frozen HK5.out 0; have cm1 := blk_cell HK5.out 1; have fm1 := blk_frozen HK5.out 1; have cm2 := blk_cell HK5.out 2; have fm2 := blk_frozen HK5.out 2; have cm3 := blk_cell HK5.out 3; have fm3 := blk_frozen HK5.out 3; have cm4 := blk_cell HK5.out 4; have fm4 := blk_frozen HK5.out 4; have cm5 := blk_cell HK5.out 5; have fm5 := blk_frozen HK5.out 5
        have cx0 := blk_cell HK7.out 0; have fx0 := blk_frozen HK7.out 0; have cx1 := blk_cell HK7.out 1; have fx1 := blk_frozen HK7.out 1; have cx2 := blk_cell HK7.out 2; have fx2 := blk_frozen HK7.out 2; have cx3 := blk_cell HK7.out 3; have fx3 := blk_frozen HK7.out 3; have cx4 := blk_cell HK7.out 4; have fx4 := blk_frozen HK7.out 4; have cx5 := blk_cell HK7.out 5; have fx5 := blk_frozen HK7.out 5
        go_wp2_with fail
        go_at_call 29
        clear ck0 fk0 ck1 fk1 ck2 fk2 ck3 fk3 ck4 fk4 ck5 fk5 cm0 fm0 cm1 fm1 cm2 fm2 cm3 fm3 cm4 fm4 cm5 fm5 cx0 fx0 cx1 fx1 cx2 fx2 cx3 fx3 cx4 fx4 cx5 fx5
        have hs := intarsiaref05_Same.calls 1001 r.ep r.bl r.nx r.st T1 cT1 r.tb M1 cM1 r.mp r.ep r.bl r.nx r.st A c r.tb B d r.mp true U7c (Kd.R_reads' HT1.out).2.2 (Kd.R_reads' HT1.out).2.1 (Kd.R_reads' HM1.out).2.2 (Kd.R_reads' HM1.out).2.1 HA.out HCA.out HD.out HCD.out (by have := rSame_is r r HLT.out.1 HLT.out.2; rw [rsame_self] at this; exact this)
        refine hs.mono ?_
        clear hs
        rintro ex U8 ⟨rfl, hb⟩
        have n_HB := Aside0.mk (below_step HB.out hb)
        have n_HA := Aside0.mk (Kd.C_below HA.out hb)
        have n_HD := Aside0.mk (Kd.C_below HD.out hb)
        have n_HK1 := Aside0.mk (blk_below HK1.out hb)
        have n_HT1 := Aside0.mk (Kd.R_below HT1.out hb)
        have n_HM1 := Aside0.mk (Kd.R_below HM1.out hb)
        have n_HK5 := Aside0.mk (blk_below HK5.out hb)
        have n_HK7 := Aside0.mk (blk_below HK7.out hb)
        have n_HT3 := Aside0.mk (Kd.R_below HT3.out hb)
        have n_HM3 := Aside0.mk (Kd.R_below HM3.out hb)
        clear HB HA HD HK1 HT1 HM1 HK5 HK7 HT3 HM3
        have HB := n_HB
        have HA := n_HA
        have HD := n_HD
        have HK1 := n_HK1
        have HT1 := n_HT1
        have HM1 := n_HM1
        have HK5 := n_HK5
        have HK7 := n_HK7
        have HT3 := n_HT3
        have HM3 := n_HM3
        clear n_HB n_HA n_HD n_HK1 n_HT1 n_HM1 n_HK5 n_HK7 n_HT3 n_HM3
        clear hb
        have ck0 := blk_cell HK1.out 0; have fk0 := blk_frozen HK1.out 0; have ck1 := blk_cell HK1.out 1; have fk1 := blk_frozen HK1.out 1; have ck2 := blk_cell HK1.out 2; have fk2 := blk_frozen HK1.out 2; have ck3 := blk_cell HK1.out 3; have fk3 := blk_frozen HK1.out 3; have ck4 := blk_cell HK1.out 4; have fk4 := blk_frozen HK1.out 4; have ck5 := blk_cell HK1.out 5; have fk5 := blk_frozen HK1.out 5
        have cx0 := blk_cell HK7.out 0; have fx0 := blk_frozen HK7.out 0; have cx1 := blk_cell HK7.out 1; have fx1 := blk_frozen HK7.out 1; have cx2 := blk_cell HK7.out 2; have fx2 := blk_frozen HK7.out 2; have cx3 := blk_cell HK7.out 3; have fx3 := blk_frozen HK7.out 3; have cx4 := blk_cell HK7.out 4; have fx4 := blk_frozen HK7.out 4; have cx5 := blk_cell HK7.out 5; have fx5 := blk_frozen HK7.out 5
        go_wp2_with fail
        go_at_call 29
        clear ck0 fk0 ck1 fk1 ck2 fk2 ck3 fk3 ck4 fk4 ck5 fk5 cx0 fx0 cx1 fx1 cx2 fx2 cx3 fx3 cx4 fx4 cx5 fx5
        have hs := intarsiaref05_Same.calls 1001 r.ep r.bl r.nx r.st T3 cT3 r.tb M3 cM3 r.mp r.ep r.bl r.nx r.st A c r.tb B d r.mp true U8 (Kd.R_reads' HT3.out).2.2 (Kd.R_reads' HT3.out).2.1 (Kd.R_reads' HM3.out).2.2 (Kd.R_reads' HM3.out).2.1 HA.out HCA.out HD.out HCD.out (by have := rSame_is r r HLT.out.1 HLT.out.2; rw [rsame_self] at this; exact this)
        refine hs.mono ?_
        clear hs
        rintro ex U9 ⟨rfl, hb⟩
        have n_HB := Aside0.mk (below_step HB.out hb)
        have n_HA := Aside0.mk (Kd.C_below HA.out hb)
        have n_HD := Aside0.mk (Kd.C_below HD.out hb)
        have n_HK1 := Aside0.mk (blk_below HK1.out hb)
        have n_HT1 := Aside0.mk (Kd.R_below HT1.out hb)
        have n_HM1 := Aside0.mk (Kd.R_below HM1.out hb)
        have n_HK5 := Aside0.mk (blk_below HK5.out hb)
        have n_HK7 := Aside0.mk (blk_below HK7.out hb)
        have n_HT3 := Aside0.mk (Kd.R_below HT3.out hb)
        have n_HM3 := Aside0.mk (Kd.R_below HM3.out hb)
        clear HB HA HD HK1 HT1 HM1 HK5 HK7 HT3 HM3
        have HB := n_HB
        have HA := n_HA
        have HD := n_HD
        have HK1 := n_HK1
        have HT1 := n_HT1
        have HM1 := n_HM1
        have HK5 := n_HK5
        have HK7 := n_HK7
        have HT3 := n_HT3
        have HM3 := n_HM3
        clear n_HB n_HA n_HD n_HK1 n_HT1 n_HM1 n_HK5 n_HK7 n_HT3 n_HM3
        clear hb
        go_wp2_with fail
        go_at_call 24
        refine (awake_calls U9).mono ?_
        rintro ex VA ⟨rfl, hb⟩
        have HBA := Aside0.mk (below_step HB.out hb)
        clear hb
        go_wp2
        go_ret
        exact ⟨rfl, HBA.out⟩
      · have HE := Aside0.mk (show r.ep % 2 = 0 by omega)
        clear he
        have hg := root_Choose L cL (rput r).1 none 0 [] U5 HR.out HRC.out HBY.out (Kd.C_nil _ _) (Nat.le_refl _) (by intro x hx; cases hx)
        rw [HB0.out HE.out] at hg
        refine hg.mono ?_
        clear hg
        rintro ex U6 ⟨v, rfl, hv, hb⟩
        obtain ⟨vT, vM, rfl, hT, hM⟩ := hv
        obtain ⟨T2, cT2, rfl⟩ := Kd.R_slice hT
        obtain ⟨M2, cM2, rfl⟩ := Kd.R_slice hM
        have n_HB := Aside0.mk (below_step HB.out hb)
        have n_HA := Aside0.mk (Kd.C_below HA.out hb)
        have n_HD := Aside0.mk (Kd.C_below HD.out hb)
        have n_HK1 := Aside0.mk (blk_below HK1.out hb)
        have n_HR := Aside0.mk (Kd.C_below HR.out hb)
        have n_HT1 := Aside0.mk (Kd.R_below HT1.out hb)
        have n_HM1 := Aside0.mk (Kd.R_below HM1.out hb)
        have n_HK5 := Aside0.mk (blk_below HK5.out hb)
        clear HB HA HD HK1 HR HT1 HM1 HK5
        have HB := n_HB
        have HA := n_HA
        have HD := n_HD
        have HK1 := n_HK1
        have HR := n_HR
        have HT1 := n_HT1
        have HM1 := n_HM1
        have HK5 := n_HK5
        clear n_HB n_HA n_HD n_HK1 n_HR n_HT1 n_HM1 n_HK5
        have HT2 := Aside0.mk (hT)
        have HM2 := Aside0.mk (hM)
        clear hT hM hb
        go_upto_region 8 with fail
        obtain ⟨g7, hg7⟩ : ∃ g, g = U6.heap.size := ⟨_, rfl⟩
        have hW := below_alloc (Below.refl U6.heap.size U6) (Obj.cells #[Value.int IntKind.i64 (r).ep, Value.int IntKind.i64 (r).bl, Value.int IntKind.i64 (r).nx, Value.int IntKind.i64 (r).st, Value.slice T2 (r).tb.length cT2, Value.slice M2 (r).mp.length cM2] 55)
        have hN := blk_new U6 (Obj.cells #[Value.int IntKind.i64 (r).ep, Value.int IntKind.i64 (r).bl, Value.int IntKind.i64 (r).nx, Value.int IntKind.i64 (r).st, Value.slice T2 (r).tb.length cT2, Value.slice M2 (r).mp.length cM2] 55)
        rw [← hg7] at hN ⊢
        generalize U6.alloc (Obj.cells #[Value.int IntKind.i64 (r).ep, Value.int IntKind.i64 (r).bl, Value.int IntKind.i64 (r).nx, Value.int IntKind.i64 (r).st, Value.slice T2 (r).tb.length cT2, Value.slice M2 (r).mp.length cM2] 55) = U7 at hW hN ⊢
        have n_HB := Aside0.mk (below_step HB.out hW)
        have n_HA := Aside0.mk (Kd.C_below HA.out hW)
        have n_HD := Aside0.mk (Kd.C_below HD.out hW)
        have n_HK1 := Aside0.mk (blk_below HK1.out hW)
        have n_HR := Aside0.mk (Kd.C_below HR.out hW)
        have n_HT1 := Aside0.mk (Kd.R_below HT1.out hW)
        have n_HM1 := Aside0.mk (Kd.R_below HM1.out hW)
        have n_HK5 := Aside0.mk (blk_below HK5.out hW)
        have n_HT2 := Aside0.mk (Kd.R_below HT2.out hW)
        have n_HM2 := Aside0.mk (Kd.R_below HM2.out hW)
        clear HB HA HD HK1 HR HT1 HM1 HK5 HT2 HM2
        have HB := n_HB
        have HA := n_HA
        have HD := n_HD
        have HK1 := n_HK1
        have HR := n_HR
        have HT1 := n_HT1
        have HM1 := n_HM1
        have HK5 := n_HK5
        have HT2 := n_HT2
        have HM2 := n_HM2
        clear n_HB n_HA n_HD n_HK1 n_HR n_HT1 n_HM1 n_HK5 n_HT2 n_HM2
        have HK7 := Aside0.mk (hN)
        have Eg7 := Aside0.mk hg7
        clear hW hN hg7
        have htm : Int.tmod r.ep 2 = r.ep % 2 := Int.tmod_eq_emod_of_nonneg HEP.out
        have hwm : wrap64 (r.ep % 2) = r.ep % 2 := by unfold wrap64; omega
        have hee := HE.out
        have p1 : (r.ep % 2 == 1) = false := by rw [hee]; rfl
        have p2 : ((0 : Int) == r.ep % 2) = true := by rw [hee]; rfl
        clear hee
        have ck0 := blk_cell HK1.out 0; have fk0 := blk_frozen HK1.out 0; have ck1 := blk_cell HK1.out 1; have fk1 := blk_frozen HK1.out 1; have ck2 := blk_cell HK1.out 2; have fk2 := blk_frozen HK1.out 2; have ck3 := blk_cell HK1.out 3; have fk3 := blk_frozen HK1.out 3; have ck4 := blk_cell HK1.out 4; have fk4 := blk_frozen HK1.out 4; have ck5 := blk_cell HK1.out 5; have fk5 := blk_frozen HK1.out 5
        have cm0 := blk_cell HK5.out 0; have fm0 := blk_frozen HK5.out 0; have cm1 := blk_cell HK5.out 1; have fm1 := blk_frozen HK5.out 1; have cm2 := blk_cell HK5.out 2; have fm2 := blk_frozen HK5.out 2; have cm3 := blk_cell HK5.out 3; have fm3 := blk_frozen HK5.out 3; have cm4 := blk_cell HK5.out 4; have fm4 := blk_frozen HK5.out 4; have cm5 := blk_cell HK5.out 5; have fm5 := blk_frozen HK5.out 5
        have cx0 := blk_cell HK7.out 0; have fx0 := blk_frozen HK7.out 0; have cx1 := blk_cell HK7.out 1; have fx1 := blk_frozen HK7.out 1; have cx2 := blk_cell HK7.out 2; have fx2 := blk_frozen HK7.out 2; have cx3 := blk_cell HK7.out 3; have fx3 := blk_frozen HK7.out 3; have cx4 := blk_cell HK7.out 4; have fx4 := blk_frozen HK7.out 4; have cx5 := blk_cell HK7.out 5; have fx5 := blk_frozen HK7.out 5
        go_wp2_with fail
        go_at_call 29
        clear ck0 fk0 ck1 fk1 ck2 fk2 ck3 fk3 ck4 fk4 ck5 fk5 cm0 fm0 cm1 fm1 cm2 fm2 cm3 fm3 cm4 fm4 cm5 fm5 cx0 fx0 cx1 fx1 cx2 fx2 cx3 fx3 cx4 fx4 cx5 fx5
        have hs := intarsiaref05_Same.calls 1001 r.ep r.bl r.nx r.st T1 cT1 r.tb M1 cM1 r.mp r.ep r.bl r.nx r.st A c r.tb B d r.mp true U7 (Kd.R_reads' HT1.out).2.2 (Kd.R_reads' HT1.out).2.1 (Kd.R_reads' HM1.out).2.2 (Kd.R_reads' HM1.out).2.1 HA.out HCA.out HD.out HCD.out (by have := rSame_is r r HLT.out.1 HLT.out.2; rw [rsame_self] at this; exact this)
        refine hs.mono ?_
        clear hs
        rintro ex U8 ⟨rfl, hb⟩
        have n_HB := Aside0.mk (below_step HB.out hb)
        have n_HA := Aside0.mk (Kd.C_below HA.out hb)
        have n_HD := Aside0.mk (Kd.C_below HD.out hb)
        have n_HK1 := Aside0.mk (blk_below HK1.out hb)
        have n_HR := Aside0.mk (Kd.C_below HR.out hb)
        have n_HT1 := Aside0.mk (Kd.R_below HT1.out hb)
        have n_HM1 := Aside0.mk (Kd.R_below HM1.out hb)
        have n_HK5 := Aside0.mk (blk_below HK5.out hb)
        have n_HT2 := Aside0.mk (Kd.R_below HT2.out hb)
        have n_HM2 := Aside0.mk (Kd.R_below HM2.out hb)
        have n_HK7 := Aside0.mk (blk_below HK7.out hb)
        clear HB HA HD HK1 HR HT1 HM1 HK5 HT2 HM2 HK7
        have HB := n_HB
        have HA := n_HA
        have HD := n_HD
        have HK1 := n_HK1
        have HR := n_HR
        have HT1 := n_HT1
        have HM1 := n_HM1
        have HK5 := n_HK5
        have HT2 := n_HT2
        have HM2 := n_HM2
        have HK7 := n_HK7
        clear n_HB n_HA n_HD n_HK1 n_HR n_HT1 n_HM1 n_HK5 n_HT2 n_HM2 n_HK7
        clear hb
        have ck0 := blk_cell HK1.out 0; have fk0 := blk_frozen HK1.out 0; have ck1 := blk_cell HK1.out 1; have fk1 := blk_frozen HK1.out 1; have ck2 := blk_cell HK1.out 2; have fk2 := blk_frozen HK1.out 2; have ck3 := blk_cell HK1.out 3; have fk3 := blk_frozen HK1.out 3; have ck4 := blk_cell HK1.out 4; have fk4 := blk_frozen HK1.out 4; have ck5 := blk_cell HK1.out 5; have fk5 := blk_frozen HK1.out 5
        have cx0 := blk_cell HK7.out 0; have fx0 := blk_frozen HK7.out 0; have cx1 := blk_cell HK7.out 1; have fx1 := blk_frozen HK7.out 1; have cx2 := blk_cell HK7.out 2; have fx2 := blk_frozen HK7.out 2; have cx3 := blk_cell HK7.out 3; have fx3 := blk_frozen HK7.out 3; have cx4 := blk_cell HK7.out 4; have fx4 := blk_frozen HK7.out 4; have cx5 := blk_cell HK7.out 5; have fx5 := blk_frozen HK7.out 5
        go_wp2_with fail
        go_at_call 29
        clear ck0 fk0 ck1 fk1 ck2 fk2 ck3 fk3 ck4 fk4 ck5 fk5 cx0 fx0 cx1 fx1 cx2 fx2 cx3 fx3 cx4 fx4 cx5 fx5
        have hs := intarsiaref05_Same.calls 1001 r.ep r.bl r.nx r.st T2 cT2 r.tb M2 cM2 r.mp r.ep r.bl r.nx r.st A c r.tb B d r.mp true U8 (Kd.R_reads' HT2.out).2.2 (Kd.R_reads' HT2.out).2.1 (Kd.R_reads' HM2.out).2.2 (Kd.R_reads' HM2.out).2.1 HA.out HCA.out HD.out HCD.out (by have := rSame_is r r HLT.out.1 HLT.out.2; rw [rsame_self] at this; exact this)
        refine hs.mono ?_
        clear hs
        rintro ex U9 ⟨rfl, hb⟩
        have n_HB := Aside0.mk (below_step HB.out hb)
        have n_HA := Aside0.mk (Kd.C_below HA.out hb)
        have n_HD := Aside0.mk (Kd.C_below HD.out hb)
        have n_HK1 := Aside0.mk (blk_below HK1.out hb)
        have n_HR := Aside0.mk (Kd.C_below HR.out hb)
        have n_HT1 := Aside0.mk (Kd.R_below HT1.out hb)
        have n_HM1 := Aside0.mk (Kd.R_below HM1.out hb)
        have n_HK5 := Aside0.mk (blk_below HK5.out hb)
        have n_HT2 := Aside0.mk (Kd.R_below HT2.out hb)
        have n_HM2 := Aside0.mk (Kd.R_below HM2.out hb)
        have n_HK7 := Aside0.mk (blk_below HK7.out hb)
        clear HB HA HD HK1 HR HT1 HM1 HK5 HT2 HM2 HK7
        have HB := n_HB
        have HA := n_HA
        have HD := n_HD
        have HK1 := n_HK1
        have HR := n_HR
        have HT1 := n_HT1
        have HM1 := n_HM1
        have HK5 := n_HK5
        have HT2 := n_HT2
        have HM2 := n_HM2
        have HK7 := n_HK7
        clear n_HB n_HA n_HD n_HK1 n_HR n_HT1 n_HM1 n_HK5 n_HT2 n_HM2 n_HK7
        clear hb
        go_wp2_with fail
        go_at_call 24
        refine (awake_calls U9).mono ?_
        rintro ex VA ⟨rfl, hb⟩
        have HBA := Aside0.mk (below_step HB.out hb)
        clear hb
        go_wp2
        go_ret
        exact ⟨rfl, HBA.out⟩
    · skip
      have HC := Aside0.mk hc
      clear hc
      have eb : ((rput r).2 != 0) = true := bne_iff_ne.mpr (fun h => HC.out (rput_err.mp h))
      have ez : ((rput r).1.length : Int) = 0 := by rw [rput_not HC.out]; rfl
      have ez2 : (((rput r).1.length : Int) == 0) = true := by rw [ez]; rfl
      have ez3 : ((rput r).1.length == 0) = true := by rw [rput_not HC.out]; rfl
      go_wp2_with fail
      go_at_call 24
      refine (awake_calls U3).mono ?_
      rintro ex VA ⟨rfl, hb⟩
      have HBA := Aside0.mk (below_step HB.out hb)
      clear hb
      go_wp2
      go_ret
      exact ⟨rfl, HBA.out⟩
  · rw [decide_eq_false hl]
    clear hl
    go_wp2_with fail
    go_at_call 24
    refine (awake_calls U2).mono ?_
    rintro ex VA ⟨rfl, hb⟩
    have HBA := Aside0.mk (below_step HB.out hb)
    clear hb
    go_wp2
    go_ret
    exact ⟨rfl, HBA.out⟩
end Go.Proofs.Ytgflafifemhmgaa.MRt
