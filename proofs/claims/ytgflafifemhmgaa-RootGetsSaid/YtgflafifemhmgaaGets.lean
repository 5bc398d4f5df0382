/- The walk of the law RootGets. -/
import Derived.Test.YtgflafifemhmgaaRootAw
import Derived.Test.YtgflafifemhmgaaRootRC
namespace Go.Proofs.Ytgflafifemhmgaa.MRt
open Go.RowKit Go.Proofs.Ytgflafifemhmgaa.Hand Go.Proofs.Ytgflafifemhmgaa.Crc Go.Proofs.Ytgflafifemhmgaa.RootV Go.Proofs.Ytgflafifemhmgaa.RSums Go.Proofs.Ytgflafifemhmgaa.RPure Go.Proofs.YtgflafifemhmgaaW.PrintWords Go.Proofs.YtgflafifemhmgaaW.PrintLast Go.Proofs.YtgflafifemhmgaaW.PrintMore
set_option linter.unusedVariables false
set_option linter.unusedSimpArgs false
theorem rchoose_len (a b : List Int) : (rchoose a b).1.tb.length ≤ 26 ∧ (rchoose a b).1.mp.length ≤ 3 := by
  unfold rchoose
  split
  · exact rget_len a
  · split
    · exact rget_len b
    · exact ⟨Nat.zero_le _, Nat.zero_le _⟩
set_option maxHeartbeats 16000000 in
set_option maxRecDepth 100000 in
theorem RootGets_calls (A0 : Option Addr) (c0 : Nat) (a : List Int) (A1 : Option Addr) (c1 : Nat) (b : List Int) (w : World) (hr0 : Kd.C (Kd.int .u8) w A0 a.length a) (hc0 : a.length ≤ c0) (hb0 : ∀ x ∈ a, Byte x) (hr1 : Kd.C (Kd.int .u8) w A1 b.length b) (hc1 : b.length ≤ c1) (hb1 : ∀ x ∈ b, Byte x) :
    Calls Try.prog 9 #[.slice A0 a.length c0, .slice A1 b.length c1] w fun e w' => e = .returned (.bool true) ∧ Below w.heap.size w w' := by
  have HRa := Aside0.mk hr0
  have HCa := Aside0.mk hc0
  have HYa := Aside0.mk hb0
  have HRb := Aside0.mk hr1
  have HCb := Aside0.mk hc1
  have HYb := Aside0.mk hb1
  clear hr0 hc0 hb0 hr1 hc1 hb1
  by_cases hl : a.length > 400 ∨ b.length > 400
  · by_cases ha : a.length > 400
    · have b1 : decide ((400 : Int) < (a.length : Int)) = true := decide_eq_true (by omega)
      have b2 : decide (400 < a.length) = true := decide_eq_true ha
      clear ha hl
      go_enter Try.func9, Try.ntmps9
      go_wp2_with fail
      go_at_call 24
      refine (awake_calls w).mono ?_
      rintro ex W1 ⟨rfl, hb⟩
      have HB := Aside0.mk hb
      clear hb
      go_wp2
      go_ret
      exact ⟨rfl, HB.out⟩
    · have b1 : decide ((400 : Int) < (a.length : Int)) = false := decide_eq_false (by omega)
      have b2 : decide (400 < a.length) = false := decide_eq_false ha
      have b3 : decide ((400 : Int) < (b.length : Int)) = true := decide_eq_true (by omega)
      have b4 : decide (400 < b.length) = true := decide_eq_true (by omega)
      clear ha hl
      go_enter Try.func9, Try.ntmps9
      go_wp2_with fail
      go_at_call 24
      refine (awake_calls w).mono ?_
      rintro ex W1 ⟨rfl, hb⟩
      have HB := Aside0.mk hb
      clear hb
      go_wp2
      go_ret
      exact ⟨rfl, HB.out⟩
  · have b1 : decide ((400 : Int) < (a.length : Int)) = false := decide_eq_false (by omega)
    have b2 : decide (400 < a.length) = false := decide_eq_false (by omega)
    have b3 : decide ((400 : Int) < (b.length : Int)) = false := decide_eq_false (by omega)
    have b4 : decide (400 < b.length) = false := decide_eq_false (by omega)
    clear hl
    have HB := Aside0.mk (Below.refl w.heap.size w)
    go_enter Try.func9, Try.ntmps9
    go_wp2_with fail
    go_at_call 30
    have hg := root_Get A0 c0 a w HRa.out HCa.out HYa.out
    refine hg.mono ?_
    clear hg
    rintro ex V1 ⟨v, rfl, hv, hb⟩
    obtain ⟨vT, vM, rfl, hT, hM⟩ := hv
    obtain ⟨T1, cT1, rfl⟩ := Kd.R_slice hT
    obtain ⟨M1, cM1, rfl⟩ := Kd.R_slice hM
    have nB := Aside0.mk (below_step HB.out hb)
    have nT1 := Aside0.mk hT
    have nM1 := Aside0.mk hM
    clear hT hM hb HB 
    have HB := nB
    have HT1 := nT1
    have HM1 := nM1
    clear nB nT1 nM1 
    go_wp2_with fail
    go_at_call 31
    obtain ⟨g1, hg⟩ : ∃ g, g = V1.heap.size := ⟨_, rfl⟩
    have hW := below_alloc (Below.refl V1.heap.size V1) (Obj.cells #[Value.int IntKind.i64 ((rget a).1).ep, Value.int IntKind.i64 ((rget a).1).bl, Value.int IntKind.i64 ((rget a).1).nx, Value.int IntKind.i64 ((rget a).1).st, Value.slice T1 ((rget a).1).tb.length cT1, Value.slice M1 ((rget a).1).mp.length cM1] 55)
    have hN := blk_new V1 (Obj.cells #[Value.int IntKind.i64 ((rget a).1).ep, Value.int IntKind.i64 ((rget a).1).bl, Value.int IntKind.i64 ((rget a).1).nx, Value.int IntKind.i64 ((rget a).1).st, Value.slice T1 ((rget a).1).tb.length cT1, Value.slice M1 ((rget a).1).mp.length cM1] 55)
    rw [← hg] at hN ⊢
    generalize V1.alloc (Obj.cells #[Value.int IntKind.i64 ((rget a).1).ep, Value.int IntKind.i64 ((rget a).1).bl, Value.int IntKind.i64 ((rget a).1).nx, Value.int IntKind.i64 ((rget a).1).st, Value.slice T1 ((rget a).1).tb.length cT1, Value.slice M1 ((rget a).1).mp.length cM1] 55) = U1 at hW hN ⊢
    have nB := Aside0.mk (below_step HB.out hW)
    have nK1 := Aside0.mk hN
    have nT1 := Aside0.mk (Kd.R_below HT1.out hW)
    have nM1 := Aside0.mk (Kd.R_below HM1.out hW)
    clear hW hN hg HB HT1 HM1 
    have HB := nB
    have HT1 := nT1
    have HM1 := nM1
    have HK1 := nK1
    clear nB nT1 nM1 nK1
    have hg := ref_Get A0 c0 a U1 (Kd.C_below HRa.out HB.out) HCa.out HYa.out
    refine hg.mono ?_
    clear hg
    rintro ex V2 ⟨v, rfl, hv, hb⟩
    obtain ⟨vT, vM, rfl, hT, hM⟩ := hv
    obtain ⟨T2, cT2, rfl⟩ := Kd.R_slice hT
    obtain ⟨M2, cM2, rfl⟩ := Kd.R_slice hM
    have nB := Aside0.mk (below_step HB.out hb)
    have nT2 := Aside0.mk hT
    have nM2 := Aside0.mk hM
    have nT1 := Aside0.mk (Kd.R_below HT1.out hb)
    have nM1 := Aside0.mk (Kd.R_below HM1.out hb)
    have nK1 := Aside0.mk (blk_below HK1.out hb)
    clear hT hM hb HB HT1 HM1 HK1
    have HB := nB
    have HT1 := nT1
    have HM1 := nM1
    have HT2 := nT2
    have HM2 := nM2
    have HK1 := nK1
    clear nB nT1 nM1 nT2 nM2 nK1
    go_wp2_with fail
    go_at_call 32
    obtain ⟨g2, hg⟩ : ∃ g, g = V2.heap.size := ⟨_, rfl⟩
    have hW := below_alloc (Below.refl V2.heap.size V2) (Obj.cells #[Value.int IntKind.i64 ((rget a).1).ep, Value.int IntKind.i64 ((rget a).1).bl, Value.int IntKind.i64 ((rget a).1).nx, Value.int IntKind.i64 ((rget a).1).st, Value.slice T2 ((rget a).1).tb.length cT2, Value.slice M2 ((rget a).1).mp.length cM2] 52)
    have hN := blk_new V2 (Obj.cells #[Value.int IntKind.i64 ((rget a).1).ep, Value.int IntKind.i64 ((rget a).1).bl, Value.int IntKind.i64 ((rget a).1).nx, Value.int IntKind.i64 ((rget a).1).st, Value.slice T2 ((rget a).1).tb.length cT2, Value.slice M2 ((rget a).1).mp.length cM2] 52)
    rw [← hg] at hN ⊢
    generalize V2.alloc (Obj.cells #[Value.int IntKind.i64 ((rget a).1).ep, Value.int IntKind.i64 ((rget a).1).bl, Value.int IntKind.i64 ((rget a).1).nx, Value.int IntKind.i64 ((rget a).1).st, Value.slice T2 ((rget a).1).tb.length cT2, Value.slice M2 ((rget a).1).mp.length cM2] 52) = U2 at hW hN ⊢
    have nB := Aside0.mk (below_step HB.out hW)
    have nK2 := Aside0.mk hN
    have nT1 := Aside0.mk (Kd.R_below HT1.out hW)
    have nM1 := Aside0.mk (Kd.R_below HM1.out hW)
    have nT2 := Aside0.mk (Kd.R_below HT2.out hW)
    have nM2 := Aside0.mk (Kd.R_below HM2.out hW)
    have nK1 := Aside0.mk (blk_below HK1.out hW)
    clear hW hN hg HB HT1 HM1 HT2 HM2 HK1
    have HB := nB
    have HT1 := nT1
    have HM1 := nM1
    have HK1 := nK1
    have HT2 := nT2
    have HM2 := nM2
    have HK2 := nK2
    clear nB nT1 nM1 nK1 nT2 nM2 nK2
    have hg := root_Choose A0 c0 a A1 c1 b U2 (Kd.C_below HRa.out HB.out) HCa.out HYa.out (Kd.C_below HRb.out HB.out) HCb.out HYb.out
    refine hg.mono ?_
    clear hg
    rintro ex V3 ⟨v, rfl, hv, hb⟩
    obtain ⟨vT, vM, rfl, hT, hM⟩ := hv
    obtain ⟨T3, cT3, rfl⟩ := Kd.R_slice hT
    obtain ⟨M3, cM3, rfl⟩ := Kd.R_slice hM
    have nB := Aside0.mk (below_step HB.out hb)
    have nT3 := Aside0.mk hT
    have nM3 := Aside0.mk hM
    have nT1 := Aside0.mk (Kd.R_below HT1.out hb)
    have nM1 := Aside0.mk (Kd.R_below HM1.out hb)
    have nK1 := Aside0.mk (blk_below HK1.out hb)
    have nT2 := Aside0.mk (Kd.R_below HT2.out hb)
    have nM2 := Aside0.mk (Kd.R_below HM2.out hb)
    have nK2 := Aside0.mk (blk_below HK2.out hb)
    clear hT hM hb HB HT1 HM1 HK1 HT2 HM2 HK2
    have HB := nB
    have HT1 := nT1
    have HM1 := nM1
    have HT2 := nT2
    have HM2 := nM2
    have HT3 := nT3
    have HM3 := nM3
    have HK1 := nK1
    have HK2 := nK2
    clear nB nT1 nM1 nT2 nM2 nT3 nM3 nK1 nK2
    go_wp2_with fail
    go_at_call 33
    obtain ⟨g3, hg⟩ : ∃ g, g = V3.heap.size := ⟨_, rfl⟩
    have hW := below_alloc (Below.refl V3.heap.size V3) (Obj.cells #[Value.int IntKind.i64 ((rchoose a b).1).ep, Value.int IntKind.i64 ((rchoose a b).1).bl, Value.int IntKind.i64 ((rchoose a b).1).nx, Value.int IntKind.i64 ((rchoose a b).1).st, Value.slice T3 ((rchoose a b).1).tb.length cT3, Value.slice M3 ((rchoose a b).1).mp.length cM3] 55)
    have hN := blk_new V3 (Obj.cells #[Value.int IntKind.i64 ((rchoose a b).1).ep, Value.int IntKind.i64 ((rchoose a b).1).bl, Value.int IntKind.i64 ((rchoose a b).1).nx, Value.int IntKind.i64 ((rchoose a b).1).st, Value.slice T3 ((rchoose a b).1).tb.length cT3, Value.slice M3 ((rchoose a b).1).mp.length cM3] 55)
    rw [← hg] at hN ⊢
    generalize V3.alloc (Obj.cells #[Value.int IntKind.i64 ((rchoose a b).1).ep, Value.int IntKind.i64 ((rchoose a b).1).bl, Value.int IntKind.i64 ((rchoose a b).1).nx, Value.int IntKind.i64 ((rchoose a b).1).st, Value.slice T3 ((rchoose a b).1).tb.length cT3, Value.slice M3 ((rchoose a b).1).mp.length cM3] 55) = U3 at hW hN ⊢
    have nB := Aside0.mk (below_step HB.out hW)
    have nK3 := Aside0.mk hN
    have nT1 := Aside0.mk (Kd.R_below HT1.out hW)
    have nM1 := Aside0.mk (Kd.R_below HM1.out hW)
    have nT2 := Aside0.mk (Kd.R_below HT2.out hW)
    have nM2 := Aside0.mk (Kd.R_below HM2.out hW)
    have nT3 := Aside0.mk (Kd.R_below HT3.out hW)
    have nM3 := Aside0.mk (Kd.R_below HM3.out hW)
    have nK1 := Aside0.mk (blk_below HK1.out hW)
    have nK2 := Aside0.mk (blk_below HK2.out hW)
    clear hW hN hg HB HT1 HM1 HT2 HM2 HT3 HM3 HK1 HK2
    have HB := nB
    have HT1 := nT1
    have HM1 := nM1
    have HK1 := nK1
    have HT2 := nT2
    have HM2 := nM2
    have HK2 := nK2
    have HT3 := nT3
    have HM3 := nM3
    have HK3 := nK3
    clear nB nT1 nM1 nK1 nT2 nM2 nK2 nT3 nM3 nK3
    have hg := ref_Choose A0 c0 a A1 c1 b U3 (Kd.C_below HRa.out HB.out) HCa.out HYa.out (Kd.C_below HRb.out HB.out) HCb.out HYb.out
    refine hg.mono ?_
    clear hg
    rintro ex V4 ⟨v, rfl, hv, hb⟩
    obtain ⟨vT, vM, rfl, hT, hM⟩ := hv
    obtain ⟨T4, cT4, rfl⟩ := Kd.R_slice hT
    obtain ⟨M4, cM4, rfl⟩ := Kd.R_slice hM
    have nB := Aside0.mk (below_step HB.out hb)
    have nT4 := Aside0.mk hT
    have nM4 := Aside0.mk hM
    have nT1 := Aside0.mk (Kd.R_below HT1.out hb)
    have nM1 := Aside0.mk (Kd.R_below HM1.out hb)
    have nK1 := Aside0.mk (blk_below HK1.out hb)
    have nT2 := Aside0.mk (Kd.R_below HT2.out hb)
    have nM2 := Aside0.mk (Kd.R_below HM2.out hb)
    have nK2 := Aside0.mk (blk_below HK2.out hb)
    have nT3 := Aside0.mk (Kd.R_below HT3.out hb)
    have nM3 := Aside0.mk (Kd.R_below HM3.out hb)
    have nK3 := Aside0.mk (blk_below HK3.out hb)
    clear hT hM hb HB HT1 HM1 HK1 HT2 HM2 HK2 HT3 HM3 HK3
    have HB := nB
    have HT1 := nT1
    have HM1 := nM1
    have HT2 := nT2
    have HM2 := nM2
    have HT3 := nT3
    have HM3 := nM3
    have HT4 := nT4
    have HM4 := nM4
    have HK1 := nK1
    have HK2 := nK2
    have HK3 := nK3
    clear nB nT1 nM1 nT2 nM2 nT3 nM3 nT4 nM4 nK1 nK2 nK3
    go_upto_region 7 with fail
    obtain ⟨g4, hg⟩ : ∃ g, g = V4.heap.size := ⟨_, rfl⟩
    have hW := below_alloc (Below.refl V4.heap.size V4) (Obj.cells #[Value.int IntKind.i64 ((rchoose a b).1).ep, Value.int IntKind.i64 ((rchoose a b).1).bl, Value.int IntKind.i64 ((rchoose a b).1).nx, Value.int IntKind.i64 ((rchoose a b).1).st, Value.slice T4 ((rchoose a b).1).tb.length cT4, Value.slice M4 ((rchoose a b).1).mp.length cM4] 52)
    have hN := blk_new V4 (Obj.cells #[Value.int IntKind.i64 ((rchoose a b).1).ep, Value.int IntKind.i64 ((rchoose a b).1).bl, Value.int IntKind.i64 ((rchoose a b).1).nx, Value.int IntKind.i64 ((rchoose a b).1).st, Value.slice T4 ((rchoose a b).1).tb.length cT4, Value.slice M4 ((rchoose a b).1).mp.length cM4] 52)
    rw [← hg] at hN ⊢
    generalize V4.alloc (Obj.cells #[Value.int IntKind.i64 ((rchoose a b).1).ep, Value.int IntKind.i64 ((rchoose a b).1).bl, Value.int IntKind.i64 ((rchoose a b).1).nx, Value.int IntKind.i64 ((rchoose a b).1).st, Value.slice T4 ((rchoose a b).1).tb.length cT4, Value.slice M4 ((rchoose a b).1).mp.length cM4] 52) = U4 at hW hN ⊢
    have nB := Aside0.mk (below_step HB.out hW)
    have nK4 := Aside0.mk hN
    have nT1 := Aside0.mk (Kd.R_below HT1.out hW)
    have nM1 := Aside0.mk (Kd.R_below HM1.out hW)
    have nT2 := Aside0.mk (Kd.R_below HT2.out hW)
    have nM2 := Aside0.mk (Kd.R_below HM2.out hW)
    have nT3 := Aside0.mk (Kd.R_below HT3.out hW)
    have nM3 := Aside0.mk (Kd.R_below HM3.out hW)
    have nT4 := Aside0.mk (Kd.R_below HT4.out hW)
    have nM4 := Aside0.mk (Kd.R_below HM4.out hW)
    have nK1 := Aside0.mk (blk_below HK1.out hW)
    have nK2 := Aside0.mk (blk_below HK2.out hW)
    have nK3 := Aside0.mk (blk_below HK3.out hW)
    clear hW hN hg HB HT1 HM1 HT2 HM2 HT3 HM3 HT4 HM4 HK1 HK2 HK3
    have HB := nB
    have HT1 := nT1
    have HM1 := nM1
    have HK1 := nK1
    have HT2 := nT2
    have HM2 := nM2
    have HK2 := nK2
    have HT3 := nT3
    have HM3 := nM3
    have HK3 := nK3
    have HT4 := nT4
    have HM4 := nM4
    have HK4 := nK4
    clear nB nT1 nM1 nK1 nT2 nM2 nK2 nT3 nM3 nK3 nT4 nM4 nK4
    have d1_0 := blk_cell HK1.out 0; have f1_0 := blk_frozen HK1.out 0; have d1_1 := blk_cell HK1.out 1; have f1_1 := blk_frozen HK1.out 1; have d1_2 := blk_cell HK1.out 2; have f1_2 := blk_frozen HK1.out 2; have d1_3 := blk_cell HK1.out 3; have f1_3 := blk_frozen HK1.out 3; have d1_4 := blk_cell HK1.out 4; have f1_4 := blk_frozen HK1.out 4; have d1_5 := blk_cell HK1.out 5; have f1_5 := blk_frozen HK1.out 5
    have d2_0 := blk_cell HK2.out 0; have f2_0 := blk_frozen HK2.out 0; have d2_1 := blk_cell HK2.out 1; have f2_1 := blk_frozen HK2.out 1; have d2_2 := blk_cell HK2.out 2; have f2_2 := blk_frozen HK2.out 2; have d2_3 := blk_cell HK2.out 3; have f2_3 := blk_frozen HK2.out 3; have d2_4 := blk_cell HK2.out 4; have f2_4 := blk_frozen HK2.out 4; have d2_5 := blk_cell HK2.out 5; have f2_5 := blk_frozen HK2.out 5
    go_wp2_with fail
    go_at_call 29
    clear d1_0 f1_0 d1_1 f1_1 d1_2 f1_2 d1_3 f1_3 d1_4 f1_4 d1_5 f1_5 d2_0 f2_0 d2_1 f2_1 d2_2 f2_2 d2_3 f2_3 d2_4 f2_4 d2_5 f2_5
    have hs := intarsiaref05_Same.calls 1001 ((rget a).1).ep ((rget a).1).bl ((rget a).1).nx ((rget a).1).st T1 cT1 ((rget a).1).tb M1 cM1 ((rget a).1).mp ((rget a).1).ep ((rget a).1).bl ((rget a).1).nx ((rget a).1).st T2 cT2 ((rget a).1).tb M2 cM2 ((rget a).1).mp true U4 (Kd.R_reads' HT1.out).2.2 (Kd.R_reads' HT1.out).2.1 (Kd.R_reads' HM1.out).2.2 (Kd.R_reads' HM1.out).2.1 (Kd.R_reads' HT2.out).2.2 (Kd.R_reads' HT2.out).2.1 (Kd.R_reads' HM2.out).2.2 (Kd.R_reads' HM2.out).2.1 (by have := rSame_is ((rget a).1) ((rget a).1) (by have := (rget_len a).1; omega) (by have := (rget_len a).2; omega); rw [rsame_self] at this; exact this)
    refine hs.mono ?_
    clear hs
    rintro ex V5 ⟨rfl, hb⟩
    have nB := Aside0.mk (below_step HB.out hb)
    have nT3 := Aside0.mk (Kd.R_below HT3.out hb)
    have nM3 := Aside0.mk (Kd.R_below HM3.out hb)
    have nK3 := Aside0.mk (blk_below HK3.out hb)
    have nT4 := Aside0.mk (Kd.R_below HT4.out hb)
    have nM4 := Aside0.mk (Kd.R_below HM4.out hb)
    have nK4 := Aside0.mk (blk_below HK4.out hb)
    clear hb HB HT1 HM1 HK1 HT2 HM2 HK2 HT3 HM3 HK3 HT4 HM4 HK4
    have HB := nB
    have HT3 := nT3
    have HM3 := nM3
    have HK3 := nK3
    have HT4 := nT4
    have HM4 := nM4
    have HK4 := nK4
    clear nB nT3 nM3 nK3 nT4 nM4 nK4
    have d3_0 := blk_cell HK3.out 0; have f3_0 := blk_frozen HK3.out 0; have d3_1 := blk_cell HK3.out 1; have f3_1 := blk_frozen HK3.out 1; have d3_2 := blk_cell HK3.out 2; have f3_2 := blk_frozen HK3.out 2; have d3_3 := blk_cell HK3.out 3; have f3_3 := blk_frozen HK3.out 3; have d3_4 := blk_cell HK3.out 4; have f3_4 := blk_frozen HK3.out 4; have d3_5 := blk_cell HK3.out 5; have f3_5 := blk_frozen HK3.out 5
    have d4_0 := blk_cell HK4.out 0; have f4_0 := blk_frozen HK4.out 0; have d4_1 := blk_cell HK4.out 1; have f4_1 := blk_frozen HK4.out 1; have d4_2 := blk_cell HK4.out 2; have f4_2 := blk_frozen HK4.out 2; have d4_3 := blk_cell HK4.out 3; have f4_3 := blk_frozen HK4.out 3; have d4_4 := blk_cell HK4.out 4; have f4_4 := blk_frozen HK4.out 4; have d4_5 := blk_cell HK4.out 5; have f4_5 := blk_frozen HK4.out 5
    have q1 : ((rget a).2 == (rget a).2) = true := beq_self_eq_true _
    have q2 : ((rchoose a b).2.1 == (rchoose a b).2.1) = true := beq_self_eq_true _
    have q3 : ((rchoose a b).2.2 == (rchoose a b).2.2) = true := beq_self_eq_true _
    go_wp2_with fail
    go_at_call 29
    clear d3_0 f3_0 d3_1 f3_1 d3_2 f3_2 d3_3 f3_3 d3_4 f3_4 d3_5 f3_5 d4_0 f4_0 d4_1 f4_1 d4_2 f4_2 d4_3 f4_3 d4_4 f4_4 d4_5 f4_5
    have hs := intarsiaref05_Same.calls 1001 ((rchoose a b).1).ep ((rchoose a b).1).bl ((rchoose a b).1).nx ((rchoose a b).1).st T3 cT3 ((rchoose a b).1).tb M3 cM3 ((rchoose a b).1).mp ((rchoose a b).1).ep ((rchoose a b).1).bl ((rchoose a b).1).nx ((rchoose a b).1).st T4 cT4 ((rchoose a b).1).tb M4 cM4 ((rchoose a b).1).mp true V5 (Kd.R_reads' HT3.out).2.2 (Kd.R_reads' HT3.out).2.1 (Kd.R_reads' HM3.out).2.2 (Kd.R_reads' HM3.out).2.1 (Kd.R_reads' HT4.out).2.2 (Kd.R_reads' HT4.out).2.1 (Kd.R_reads' HM4.out).2.2 (Kd.R_reads' HM4.out).2.1 (by have := rSame_is ((rchoose a b).1) ((rchoose a b).1) (by have := (rchoose_len a b).1; omega) (by have := (rchoose_len a b).2; omega); rw [rsame_self] at this; exact this)
    refine hs.mono ?_
    clear hs
    rintro ex V6 ⟨rfl, hb⟩
    have nB := Aside0.mk (below_step HB.out hb)
    clear hb HB HT3 HM3 HK3 HT4 HM4 HK4
    go_wp2_with fail
    go_at_call 24
    refine (awake_calls V6).mono ?_
    rintro ex V7 ⟨rfl, hb⟩
    have HB := Aside0.mk (below_step nB.out hb)
    clear hb nB
    go_wp2
    go_ret
    exact ⟨rfl, HB.out⟩
end Go.Proofs.Ytgflafifemhmgaa.MRt
