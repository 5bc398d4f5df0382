/- The contract of the reference's Choose. -/
import Derived.Test.YtgflafifemhmgaaRootRG
namespace Go.Proofs.Ytgflafifemhmgaa.MRt
open Go.RowKit Go.Proofs.Ytgflafifemhmgaa.Hand Go.Proofs.Ytgflafifemhmgaa.Crc Go.Proofs.Ytgflafifemhmgaa.RootV Go.Proofs.Ytgflafifemhmgaa.RSums Go.Proofs.Ytgflafifemhmgaa.RPure Go.Proofs.YtgflafifemhmgaaW.PrintWords Go.Proofs.YtgflafifemhmgaaW.PrintLast Go.Proofs.YtgflafifemhmgaaW.PrintMore
set_option linter.unusedVariables false
set_option linter.unusedSimpArgs false
set_option maxHeartbeats 16000000 in
set_option maxRecDepth 100000 in
theorem ref_Choose (A0 : Option Addr) (c0 : Nat) (a : List Int) (A1 : Option Addr) (c1 : Nat) (b : List Int) (w : World) (hr0 : Kd.C (Kd.int .u8) w A0 a.length a) (hc0 : a.length ≤ c0) (hb0 : ∀ x ∈ a, Byte x) (hr1 : Kd.C (Kd.int .u8) w A1 b.length b) (hc1 : b.length ≤ c1) (hb1 : ∀ x ∈ b, Byte x) :
    Calls Try.prog 33 #[.slice A0 a.length c0, .slice A1 b.length c1] w fun ex w' => ∃ v, ex = .returned (.tuple #[v, .int .i64 (rchoose a b).2.1, .int .i64 (rchoose a b).2.2]) ∧ rvAt w' w.heap.size v (rchoose a b).1 ∧ Below w.heap.size w w' := by
  have HRa := Aside0.mk hr0
  have HCa := Aside0.mk hc0
  have HYa := Aside0.mk hb0
  have HRb := Aside0.mk hr1
  have HCb := Aside0.mk hc1
  have HYb := Aside0.mk hb1
  clear hr0 hc0 hb0 hr1 hc1 hb1
  go_enter Try.func33, Try.ntmps33
  go_wp2_with fail
  go_at_call 31
  obtain ⟨g4, hg4⟩ : ∃ g, g = w.heap.size := ⟨_, rfl⟩
  have hW := below_alloc (Below.refl w.heap.size w) (Obj.cells #[Value.int IntKind.i64 0, Value.int IntKind.i64 0, Value.int IntKind.i64 0, Value.int IntKind.i64 0, Value.slice none 0 0, Value.slice none 0 0] 52)
  have hN := blk_new w (Obj.cells #[Value.int IntKind.i64 0, Value.int IntKind.i64 0, Value.int IntKind.i64 0, Value.int IntKind.i64 0, Value.slice none 0 0, Value.slice none 0 0] 52)
  rw [← hg4] at hN ⊢
  generalize w.alloc (Obj.cells #[Value.int IntKind.i64 0, Value.int IntKind.i64 0, Value.int IntKind.i64 0, Value.int IntKind.i64 0, Value.slice none 0 0, Value.slice none 0 0] 52) = W1 at hW hN ⊢
  have HB := Aside0.mk hW
  have HN := Aside0.mk hN
  have HG4 := Aside0.mk hg4
  have HS := Aside0.mk (blk_lt hN)
  have HZ := Aside0.mk hW.size
  clear hW hN hg4
  have hget := ref_Get A0 c0 a W1 (Kd.C_below HRa.out HB.out) HCa.out HYa.out
  refine hget.mono ?_
  clear hget
  rintro ex W2 ⟨va, rfl, hv, hb⟩
  obtain ⟨vT, vM, rfl, hT, hM⟩ := hv
  obtain ⟨Ta, cTa, rfl⟩ := Kd.R_slice hT
  obtain ⟨Ma, cMa, rfl⟩ := Kd.R_slice hM
  have nB := Aside0.mk (below_step HB.out hb)
  have nN := Aside0.mk (blk_below HN.out hb)
  have HSA := Aside0.mk hb.size
  have HTa := Aside0.mk hT
  have HMa := Aside0.mk hM
  clear hT hM hb HB HN
  have HB := nB
  have HN := nN
  clear nB nN
  go_wp2_with fail
  go_at_call 31
  obtain ⟨g7, hg7⟩ : ∃ g, g = W2.heap.size := ⟨_, rfl⟩
  have hW := below_alloc (Below.refl W2.heap.size W2) (Obj.cells #[Value.int IntKind.i64 (rget a).1.ep, Value.int IntKind.i64 (rget a).1.bl, Value.int IntKind.i64 (rget a).1.nx, Value.int IntKind.i64 (rget a).1.st, Value.slice Ta (rget a).1.tb.length cTa, Value.slice Ma (rget a).1.mp.length cMa] 52)
  have hN := blk_new W2 (Obj.cells #[Value.int IntKind.i64 (rget a).1.ep, Value.int IntKind.i64 (rget a).1.bl, Value.int IntKind.i64 (rget a).1.nx, Value.int IntKind.i64 (rget a).1.st, Value.slice Ta (rget a).1.tb.length cTa, Value.slice Ma (rget a).1.mp.length cMa] 52)
  rw [← hg7] at hN ⊢
  generalize W2.alloc (Obj.cells #[Value.int IntKind.i64 (rget a).1.ep, Value.int IntKind.i64 (rget a).1.bl, Value.int IntKind.i64 (rget a).1.nx, Value.int IntKind.i64 (rget a).1.st, Value.slice Ta (rget a).1.tb.length cTa, Value.slice Ma (rget a).1.mp.length cMa] 52) = W3 at hW hN ⊢
  have nB := Aside0.mk (below_step HB.out hW)
  have nN := Aside0.mk (blk_below HN.out hW)
  have nT := Aside0.mk (Kd.R_below HTa.out hW)
  have nM := Aside0.mk (Kd.R_below HMa.out hW)
  have HSB := Aside0.mk hW.size
  have HKa := Aside0.mk hN
  clear hW hN hg7 HB HN HTa HMa
  have HB := nB
  have HN := nN
  have HTa := nT
  have HMa := nM
  clear nB nN nT nM
  have hget := ref_Get A1 c1 b W3 (Kd.C_below HRb.out HB.out) HCb.out HYb.out
  refine hget.mono ?_
  clear hget
  rintro ex W4 ⟨vb, rfl, hv, hb⟩
  obtain ⟨vT, vM, rfl, hT, hM⟩ := hv
  obtain ⟨Tb, cTb, rfl⟩ := Kd.R_slice hT
  obtain ⟨Mb, cMb, rfl⟩ := Kd.R_slice hM
  have nB := Aside0.mk (below_step HB.out hb)
  have nN := Aside0.mk (blk_below HN.out hb)
  have nT := Aside0.mk (Kd.R_below HTa.out hb)
  have nM := Aside0.mk (Kd.R_below HMa.out hb)
  have nK := Aside0.mk (blk_below HKa.out hb)
  have HTb := Aside0.mk (Kd.R_lower hT (show W1.heap.size ≤ W3.heap.size by have := HSA.out; have := HSB.out; omega))
  have HMb := Aside0.mk (Kd.R_lower hM (show W1.heap.size ≤ W3.heap.size by have := HSA.out; have := HSB.out; omega))
  clear hT hM hb HB HN HTa HMa HKa
  have HB := nB
  have HN := nN
  have HTa := nT
  have HMa := nM
  have HKa := nK
  clear nB nN nT nM nK
  go_upto_region 3 with fail
  obtain ⟨g9, hg9⟩ : ∃ g, g = W4.heap.size := ⟨_, rfl⟩
  have hW := below_alloc (Below.refl W4.heap.size W4) (Obj.cells #[Value.int IntKind.i64 (rget b).1.ep, Value.int IntKind.i64 (rget b).1.bl, Value.int IntKind.i64 (rget b).1.nx, Value.int IntKind.i64 (rget b).1.st, Value.slice Tb (rget b).1.tb.length cTb, Value.slice Mb (rget b).1.mp.length cMb] 52)
  have hN := blk_new W4 (Obj.cells #[Value.int IntKind.i64 (rget b).1.ep, Value.int IntKind.i64 (rget b).1.bl, Value.int IntKind.i64 (rget b).1.nx, Value.int IntKind.i64 (rget b).1.st, Value.slice Tb (rget b).1.tb.length cTb, Value.slice Mb (rget b).1.mp.length cMb] 52)
  rw [← hg9] at hN ⊢
  generalize W4.alloc (Obj.cells #[Value.int IntKind.i64 (rget b).1.ep, Value.int IntKind.i64 (rget b).1.bl, Value.int IntKind.i64 (rget b).1.nx, Value.int IntKind.i64 (rget b).1.st, Value.slice Tb (rget b).1.tb.length cTb, Value.slice Mb (rget b).1.mp.length cMb] 52) = W5 at hW hN ⊢
  have nB := Aside0.mk (below_step HB.out hW)
  have nN := Aside0.mk (blk_below HN.out hW)
  have nT := Aside0.mk (Kd.R_below HTa.out hW)
  have nM := Aside0.mk (Kd.R_below HMa.out hW)
  have nTb := Aside0.mk (Kd.R_below HTb.out hW)
  have nMb := Aside0.mk (Kd.R_below HMb.out hW)
  have nK := Aside0.mk (blk_below HKa.out hW)
  have HKb := Aside0.mk hN
  clear hW hN hg9 HB HN HTa HMa HTb HMb HKa
  have HB := nB
  have HN := nN
  have HTa := nT
  have HMa := nM
  have HTb := nTb
  have HMb := nMb
  have HKa := nK
  clear nB nN nT nM nTb nMb nK
  by_cases h0a : (rget a).2 = 0
  · have b0a : ((rget a).2 == 0) = true := beq_iff_eq.mpr h0a
    have E0a := Aside0.mk h0a
    have EPa := Aside0.mk (rget_ep h0a)
    clear h0a
    have htma : Int.tmod (rget a).1.ep 2 = (rget a).1.ep % 2 := Int.tmod_eq_emod_of_nonneg EPa.out
    have hwma : wrap64 ((rget a).1.ep % 2) = (rget a).1.ep % 2 := by unfold wrap64; omega
    by_cases h1a : (rget a).1.ep % 2 = 0
    · have b1a : ((rget a).1.ep % 2 == 0) = true := beq_iff_eq.mpr h1a
      have E1a := Aside0.mk h1a
      clear h1a
      by_cases h0b : (rget b).2 = 0
      · have b0b : ((rget b).2 == 0) = true := beq_iff_eq.mpr h0b
        have E0b := Aside0.mk h0b
        have EPb := Aside0.mk (rget_ep h0b)
        clear h0b
        have htmb : Int.tmod (rget b).1.ep 2 = (rget b).1.ep % 2 := Int.tmod_eq_emod_of_nonneg EPb.out
        have hwmb : wrap64 ((rget b).1.ep % 2) = (rget b).1.ep % 2 := by unfold wrap64; omega
        by_cases h1b : (rget b).1.ep % 2 = 1
        · have b1b : ((rget b).1.ep % 2 == 1) = true := beq_iff_eq.mpr h1b
          have E1b := Aside0.mk h1b
          clear h1b
          by_cases h2 : (rget a).1.ep > (rget b).1.ep
          · have b2 : decide ((rget b).1.ep < (rget a).1.ep) = true := decide_eq_true h2
            have E2 := Aside0.mk h2
            clear h2
            have d0 := blk_cell HKa.out 0; have f0 := blk_frozen HKa.out 0; have d1 := blk_cell HKa.out 1; have f1 := blk_frozen HKa.out 1; have d2 := blk_cell HKa.out 2; have f2 := blk_frozen HKa.out 2; have d3 := blk_cell HKa.out 3; have f3 := blk_frozen HKa.out 3; have d4 := blk_cell HKa.out 4; have f4 := blk_frozen HKa.out 4; have d5 := blk_cell HKa.out 5; have f5 := blk_frozen HKa.out 5
            have k0 := blk_cell HKb.out 0; have z0 := blk_frozen HKb.out 0; have k1 := blk_cell HKb.out 1; have z1 := blk_frozen HKb.out 1; have k2 := blk_cell HKb.out 2; have z2 := blk_frozen HKb.out 2; have k3 := blk_cell HKb.out 3; have z3 := blk_frozen HKb.out 3; have k4 := blk_cell HKb.out 4; have z4 := blk_frozen HKb.out 4; have k5 := blk_cell HKb.out 5; have z5 := blk_frozen HKb.out 5
            go_quiet (fail)
            have nB := Aside0.mk (pw_below_drewN HB.out nq)
            have nN := Aside0.mk (blk_drewN HN.out nq)
            have nKa := Aside0.mk (blk_drewN HKa.out nq)
            have nKb := Aside0.mk (blk_drewN HKb.out nq)
            have nTa := Aside0.mk (Kd.R_drewN HTa.out nq)
            have nMa := Aside0.mk (Kd.R_drewN HMa.out nq)
            have nTb := Aside0.mk (Kd.R_drewN HTb.out nq)
            have nMb := Aside0.mk (Kd.R_drewN HMb.out nq)
            generalize W5.drewN nq = W6 at nB nN nKa nKb nTa nMa nTb nMb ⊢
            clear HB HN HKa HKb HTa HMa HTb HMb d0 f0 k0 z0 d1 f1 k1 z1 d2 f2 k2 z2 d3 f3 k3 z3 d4 f4 k4 z4 d5 f5 k5 z5
            have HB := nB
            have HN := nN
            have HKa := nKa
            have HKb := nKb
            have HTa := nTa
            have HMa := nMa
            have HTb := nTb
            have HMb := nMb
            clear nB nN nKa nKb nTa nMa nTb nMb
            have d0 := blk_cell HKa.out 0; have f0 := blk_frozen HKa.out 0; have d1 := blk_cell HKa.out 1; have f1 := blk_frozen HKa.out 1; have d2 := blk_cell HKa.out 2; have f2 := blk_frozen HKa.out 2; have d3 := blk_cell HKa.out 3; have f3 := blk_frozen HKa.out 3; have d4 := blk_cell HKa.out 4; have f4 := blk_frozen HKa.out 4; have d5 := blk_cell HKa.out 5; have f5 := blk_frozen HKa.out 5
            have k0 := blk_cell HKb.out 0; have z0 := blk_frozen HKb.out 0; have k1 := blk_cell HKb.out 1; have z1 := blk_frozen HKb.out 1; have k2 := blk_cell HKb.out 2; have z2 := blk_frozen HKb.out 2; have k3 := blk_cell HKb.out 3; have z3 := blk_frozen HKb.out 3; have k4 := blk_cell HKb.out 4; have z4 := blk_frozen HKb.out 4; have k5 := blk_cell HKb.out 5; have z5 := blk_frozen HKb.out 5
            have e0 := blk_cell HN.out 0; have y0 := blk_frozen HN.out 0; have e1 := blk_cell HN.out 1; have y1 := blk_frozen HN.out 1; have e2 := blk_cell HN.out 2; have y2 := blk_frozen HN.out 2; have e3 := blk_cell HN.out 3; have y3 := blk_frozen HN.out 3; have e4 := blk_cell HN.out 4; have y4 := blk_frozen HN.out 4; have e5 := blk_cell HN.out 5; have y5 := blk_frozen HN.out 5
            go_wp2_with fail
            clear d0 f0 k0 z0 e0 y0 d1 f1 k1 z1 e1 y1 d2 f2 k2 z2 e2 y2 d3 f3 k3 z3 e3 y3 d4 f4 k4 z4 e4 y4 d5 f5 k5 z5 e5 y5
            have hz : rchoose a b = ((rget a).1, 0, 0) := by unfold rchoose; rw [if_pos ⟨E0a.out, E1a.out, .inr E2.out⟩]
            refine bodyPost_ret (results_ctt rfl _ _ g4 52 _ (0, 0) _ rfl (put6_heap HN.out _ _ _ _ _ _) Try.underlying52 rfl (by kernel_rfl)) rfl ?_
            rw [hz]
            refine ⟨_, rfl, ⟨_, _, rfl, ?_, ?_⟩, put6_below HB.out (Nat.le_of_eq HG4.out.symm) _ _ _ _ _ _⟩
            · exact Kd.R_lower (Kd.R_mono (Kd.R_step (Kd.R_bound HTa.out) (fun q hq _ => put6_far _ g4 _ _ _ _ _ _ q (by have := hq.2.1; have := HS.out; omega))) (fun _ _ => trivial)) HZ.out
            · exact Kd.R_lower (Kd.R_mono (Kd.R_step (Kd.R_bound HMa.out) (fun q hq _ => put6_far _ g4 _ _ _ _ _ _ q (by have := hq.2.1; have := HS.out; omega))) (fun _ _ => trivial)) HZ.out
          · have b2 : decide ((rget b).1.ep < (rget a).1.ep) = false := decide_eq_false h2
            have E2 := Aside0.mk h2
            clear h2
            have d0 := blk_cell HKa.out 0; have f0 := blk_frozen HKa.out 0; have d1 := blk_cell HKa.out 1; have f1 := blk_frozen HKa.out 1; have d2 := blk_cell HKa.out 2; have f2 := blk_frozen HKa.out 2; have d3 := blk_cell HKa.out 3; have f3 := blk_frozen HKa.out 3; have d4 := blk_cell HKa.out 4; have f4 := blk_frozen HKa.out 4; have d5 := blk_cell HKa.out 5; have f5 := blk_frozen HKa.out 5
            have k0 := blk_cell HKb.out 0; have z0 := blk_frozen HKb.out 0; have k1 := blk_cell HKb.out 1; have z1 := blk_frozen HKb.out 1; have k2 := blk_cell HKb.out 2; have z2 := blk_frozen HKb.out 2; have k3 := blk_cell HKb.out 3; have z3 := blk_frozen HKb.out 3; have k4 := blk_cell HKb.out 4; have z4 := blk_frozen HKb.out 4; have k5 := blk_cell HKb.out 5; have z5 := blk_frozen HKb.out 5
            go_quiet (fail)
            have nB := Aside0.mk (pw_below_drewN HB.out nq)
            have nN := Aside0.mk (blk_drewN HN.out nq)
            have nKa := Aside0.mk (blk_drewN HKa.out nq)
            have nKb := Aside0.mk (blk_drewN HKb.out nq)
            have nTa := Aside0.mk (Kd.R_drewN HTa.out nq)
            have nMa := Aside0.mk (Kd.R_drewN HMa.out nq)
            have nTb := Aside0.mk (Kd.R_drewN HTb.out nq)
            have nMb := Aside0.mk (Kd.R_drewN HMb.out nq)
            generalize W5.drewN nq = W6 at nB nN nKa nKb nTa nMa nTb nMb ⊢
            clear HB HN HKa HKb HTa HMa HTb HMb d0 f0 k0 z0 d1 f1 k1 z1 d2 f2 k2 z2 d3 f3 k3 z3 d4 f4 k4 z4 d5 f5 k5 z5
            have HB := nB
            have HN := nN
            have HKa := nKa
            have HKb := nKb
            have HTa := nTa
            have HMa := nMa
            have HTb := nTb
            have HMb := nMb
            clear nB nN nKa nKb nTa nMa nTb nMb
            have d0 := blk_cell HKa.out 0; have f0 := blk_frozen HKa.out 0; have d1 := blk_cell HKa.out 1; have f1 := blk_frozen HKa.out 1; have d2 := blk_cell HKa.out 2; have f2 := blk_frozen HKa.out 2; have d3 := blk_cell HKa.out 3; have f3 := blk_frozen HKa.out 3; have d4 := blk_cell HKa.out 4; have f4 := blk_frozen HKa.out 4; have d5 := blk_cell HKa.out 5; have f5 := blk_frozen HKa.out 5
            have k0 := blk_cell HKb.out 0; have z0 := blk_frozen HKb.out 0; have k1 := blk_cell HKb.out 1; have z1 := blk_frozen HKb.out 1; have k2 := blk_cell HKb.out 2; have z2 := blk_frozen HKb.out 2; have k3 := blk_cell HKb.out 3; have z3 := blk_frozen HKb.out 3; have k4 := blk_cell HKb.out 4; have z4 := blk_frozen HKb.out 4; have k5 := blk_cell HKb.out 5; have z5 := blk_frozen HKb.out 5
            have e0 := blk_cell HN.out 0; have y0 := blk_frozen HN.out 0; have e1 := blk_cell HN.out 1; have y1 := blk_frozen HN.out 1; have e2 := blk_cell HN.out 2; have y2 := blk_frozen HN.out 2; have e3 := blk_cell HN.out 3; have y3 := blk_frozen HN.out 3; have e4 := blk_cell HN.out 4; have y4 := blk_frozen HN.out 4; have e5 := blk_cell HN.out 5; have y5 := blk_frozen HN.out 5
            go_wp2_with fail
            clear d0 f0 k0 z0 e0 y0 d1 f1 k1 z1 e1 y1 d2 f2 k2 z2 e2 y2 d3 f3 k3 z3 e3 y3 d4 f4 k4 z4 e4 y4 d5 f5 k5 z5 e5 y5
            have hz : rchoose a b = ((rget b).1, 1, 0) := by
              unfold rchoose
              rw [if_neg (by rintro ⟨_, _, h | h⟩; (exact h ⟨E0b.out, E1b.out⟩); (have := E2.out; omega)), if_pos ⟨E0b.out, E1b.out⟩]
            refine bodyPost_ret (results_ctt rfl _ _ g4 52 _ (0, 0) _ rfl (put6_heap HN.out _ _ _ _ _ _) Try.underlying52 rfl (by kernel_rfl)) rfl ?_
            rw [hz]
            refine ⟨_, rfl, ⟨_, _, rfl, ?_, ?_⟩, put6_below HB.out (Nat.le_of_eq HG4.out.symm) _ _ _ _ _ _⟩
            · exact Kd.R_lower (Kd.R_mono (Kd.R_step (Kd.R_bound HTb.out) (fun q hq _ => put6_far _ g4 _ _ _ _ _ _ q (by have := hq.2.1; have := HS.out; omega))) (fun _ _ => trivial)) HZ.out
            · exact Kd.R_lower (Kd.R_mono (Kd.R_step (Kd.R_bound HMb.out) (fun q hq _ => put6_far _ g4 _ _ _ _ _ _ q (by have := hq.2.1; have := HS.out; omega))) (fun _ _ => trivial)) HZ.out
        · have b1b : ((rget b).1.ep % 2 == 1) = false := beq_eq_false_iff_ne.mpr h1b
          have E1b := Aside0.mk h1b
          clear h1b
          have d0 := blk_cell HKa.out 0; have f0 := blk_frozen HKa.out 0; have d1 := blk_cell HKa.out 1; have f1 := blk_frozen HKa.out 1; have d2 := blk_cell HKa.out 2; have f2 := blk_frozen HKa.out 2; have d3 := blk_cell HKa.out 3; have f3 := blk_frozen HKa.out 3; have d4 := blk_cell HKa.out 4; have f4 := blk_frozen HKa.out 4; have d5 := blk_cell HKa.out 5; have f5 := blk_frozen HKa.out 5
          have k0 := blk_cell HKb.out 0; have z0 := blk_frozen HKb.out 0; have k1 := blk_cell HKb.out 1; have z1 := blk_frozen HKb.out 1; have k2 := blk_cell HKb.out 2; have z2 := blk_frozen HKb.out 2; have k3 := blk_cell HKb.out 3; have z3 := blk_frozen HKb.out 3; have k4 := blk_cell HKb.out 4; have z4 := blk_frozen HKb.out 4; have k5 := blk_cell HKb.out 5; have z5 := blk_frozen HKb.out 5
          go_quiet (fail)
          have nB := Aside0.mk (pw_below_drewN HB.out nq)
          have nN := Aside0.mk (blk_drewN HN.out nq)
          have nKa := Aside0.mk (blk_drewN HKa.out nq)
          have nKb := Aside0.mk (blk_drewN HKb.out nq)
          have nTa := Aside0.mk (Kd.R_drewN HTa.out nq)
          have nMa := Aside0.mk (Kd.R_drewN HMa.out nq)
          have nTb := Aside0.mk (Kd.R_drewN HTb.out nq)
          have nMb := Aside0.mk (Kd.R_drewN HMb.out nq)
          generalize W5.drewN nq = W6 at nB nN nKa nKb nTa nMa nTb nMb ⊢
          clear HB HN HKa HKb HTa HMa HTb HMb d0 f0 k0 z0 d1 f1 k1 z1 d2 f2 k2 z2 d3 f3 k3 z3 d4 f4 k4 z4 d5 f5 k5 z5
          have HB := nB
          have HN := nN
          have HKa := nKa
          have HKb := nKb
          have HTa := nTa
          have HMa := nMa
          have HTb := nTb
          have HMb := nMb
          clear nB nN nKa nKb nTa nMa nTb nMb
          have d0 := blk_cell HKa.out 0; have f0 := blk_frozen HKa.out 0; have d1 := blk_cell HKa.out 1; have f1 := blk_frozen HKa.out 1; have d2 := blk_cell HKa.out 2; have f2 := blk_frozen HKa.out 2; have d3 := blk_cell HKa.out 3; have f3 := blk_frozen HKa.out 3; have d4 := blk_cell HKa.out 4; have f4 := blk_frozen HKa.out 4; have d5 := blk_cell HKa.out 5; have f5 := blk_frozen HKa.out 5
          have k0 := blk_cell HKb.out 0; have z0 := blk_frozen HKb.out 0; have k1 := blk_cell HKb.out 1; have z1 := blk_frozen HKb.out 1; have k2 := blk_cell HKb.out 2; have z2 := blk_frozen HKb.out 2; have k3 := blk_cell HKb.out 3; have z3 := blk_frozen HKb.out 3; have k4 := blk_cell HKb.out 4; have z4 := blk_frozen HKb.out 4; have k5 := blk_cell HKb.out 5; have z5 := blk_frozen HKb.out 5
          have e0 := blk_cell HN.out 0; have y0 := blk_frozen HN.out 0; have e1 := blk_cell HN.out 1; have y1 := blk_frozen HN.out 1; have e2 := blk_cell HN.out 2; have y2 := blk_frozen HN.out 2; have e3 := blk_cell HN.out 3; have y3 := blk_frozen HN.out 3; have e4 := blk_cell HN.out 4; have y4 := blk_frozen HN.out 4; have e5 := blk_cell HN.out 5; have y5 := blk_frozen HN.out 5
          go_wp2_with fail
          clear d0 f0 k0 z0 e0 y0 d1 f1 k1 z1 e1 y1 d2 f2 k2 z2 e2 y2 d3 f3 k3 z3 e3 y3 d4 f4 k4 z4 e4 y4 d5 f5 k5 z5 e5 y5
          have hz : rchoose a b = ((rget a).1, 0, 0) := by unfold rchoose; rw [if_pos ⟨E0a.out, E1a.out, .inl (fun h => E1b.out h.2)⟩]
          refine bodyPost_ret (results_ctt rfl _ _ g4 52 _ (0, 0) _ rfl (put6_heap HN.out _ _ _ _ _ _) Try.underlying52 rfl (by kernel_rfl)) rfl ?_
          rw [hz]
          refine ⟨_, rfl, ⟨_, _, rfl, ?_, ?_⟩, put6_below HB.out (Nat.le_of_eq HG4.out.symm) _ _ _ _ _ _⟩
          · exact Kd.R_lower (Kd.R_mono (Kd.R_step (Kd.R_bound HTa.out) (fun q hq _ => put6_far _ g4 _ _ _ _ _ _ q (by have := hq.2.1; have := HS.out; omega))) (fun _ _ => trivial)) HZ.out
          · exact Kd.R_lower (Kd.R_mono (Kd.R_step (Kd.R_bound HMa.out) (fun q hq _ => put6_far _ g4 _ _ _ _ _ _ q (by have := hq.2.1; have := HS.out; omega))) (fun _ _ => trivial)) HZ.out
      · have b0b : ((rget b).2 == 0) = false := beq_eq_false_iff_ne.mpr h0b
        have E0b := Aside0.mk h0b
        clear h0b
        have d0 := blk_cell HKa.out 0; have f0 := blk_frozen HKa.out 0; have d1 := blk_cell HKa.out 1; have f1 := blk_frozen HKa.out 1; have d2 := blk_cell HKa.out 2; have f2 := blk_frozen HKa.out 2; have d3 := blk_cell HKa.out 3; have f3 := blk_frozen HKa.out 3; have d4 := blk_cell HKa.out 4; have f4 := blk_frozen HKa.out 4; have d5 := blk_cell HKa.out 5; have f5 := blk_frozen HKa.out 5
        have k0 := blk_cell HKb.out 0; have z0 := blk_frozen HKb.out 0; have k1 := blk_cell HKb.out 1; have z1 := blk_frozen HKb.out 1; have k2 := blk_cell HKb.out 2; have z2 := blk_frozen HKb.out 2; have k3 := blk_cell HKb.out 3; have z3 := blk_frozen HKb.out 3; have k4 := blk_cell HKb.out 4; have z4 := blk_frozen HKb.out 4; have k5 := blk_cell HKb.out 5; have z5 := blk_frozen HKb.out 5
        go_quiet (fail)
        have nB := Aside0.mk (pw_below_drewN HB.out nq)
        have nN := Aside0.mk (blk_drewN HN.out nq)
        have nKa := Aside0.mk (blk_drewN HKa.out nq)
        have nKb := Aside0.mk (blk_drewN HKb.out nq)
        have nTa := Aside0.mk (Kd.R_drewN HTa.out nq)
        have nMa := Aside0.mk (Kd.R_drewN HMa.out nq)
        have nTb := Aside0.mk (Kd.R_drewN HTb.out nq)
        have nMb := Aside0.mk (Kd.R_drewN HMb.out nq)
        generalize W5.drewN nq = W6 at nB nN nKa nKb nTa nMa nTb nMb ⊢
        clear HB HN HKa HKb HTa HMa HTb HMb d0 f0 k0 z0 d1 f1 k1 z1 d2 f2 k2 z2 d3 f3 k3 z3 d4 f4 k4 z4 d5 f5 k5 z5
        have HB := nB
        have HN := nN
        have HKa := nKa
        have HKb := nKb
        have HTa := nTa
        have HMa := nMa
        have HTb := nTb
        have HMb := nMb
        clear nB nN nKa nKb nTa nMa nTb nMb
        have d0 := blk_cell HKa.out 0; have f0 := blk_frozen HKa.out 0; have d1 := blk_cell HKa.out 1; have f1 := blk_frozen HKa.out 1; have d2 := blk_cell HKa.out 2; have f2 := blk_frozen HKa.out 2; have d3 := blk_cell HKa.out 3; have f3 := blk_frozen HKa.out 3; have d4 := blk_cell HKa.out 4; have f4 := blk_frozen HKa.out 4; have d5 := blk_cell HKa.out 5; have f5 := blk_frozen HKa.out 5
        have k0 := blk_cell HKb.out 0; have z0 := blk_frozen HKb.out 0; have k1 := blk_cell HKb.out 1; have z1 := blk_frozen HKb.out 1; have k2 := blk_cell HKb.out 2; have z2 := blk_frozen HKb.out 2; have k3 := blk_cell HKb.out 3; have z3 := blk_frozen HKb.out 3; have k4 := blk_cell HKb.out 4; have z4 := blk_frozen HKb.out 4; have k5 := blk_cell HKb.out 5; have z5 := blk_frozen HKb.out 5
        have e0 := blk_cell HN.out 0; have y0 := blk_frozen HN.out 0; have e1 := blk_cell HN.out 1; have y1 := blk_frozen HN.out 1; have e2 := blk_cell HN.out 2; have y2 := blk_frozen HN.out 2; have e3 := blk_cell HN.out 3; have y3 := blk_frozen HN.out 3; have e4 := blk_cell HN.out 4; have y4 := blk_frozen HN.out 4; have e5 := blk_cell HN.out 5; have y5 := blk_frozen HN.out 5
        go_wp2_with fail
        clear d0 f0 k0 z0 e0 y0 d1 f1 k1 z1 e1 y1 d2 f2 k2 z2 e2 y2 d3 f3 k3 z3 e3 y3 d4 f4 k4 z4 e4 y4 d5 f5 k5 z5 e5 y5
        have hz : rchoose a b = ((rget a).1, 0, 0) := by unfold rchoose; rw [if_pos ⟨E0a.out, E1a.out, .inl (fun h => E0b.out h.1)⟩]
        refine bodyPost_ret (results_ctt rfl _ _ g4 52 _ (0, 0) _ rfl (put6_heap HN.out _ _ _ _ _ _) Try.underlying52 rfl (by kernel_rfl)) rfl ?_
        rw [hz]
        refine ⟨_, rfl, ⟨_, _, rfl, ?_, ?_⟩, put6_below HB.out (Nat.le_of_eq HG4.out.symm) _ _ _ _ _ _⟩
        · exact Kd.R_lower (Kd.R_mono (Kd.R_step (Kd.R_bound HTa.out) (fun q hq _ => put6_far _ g4 _ _ _ _ _ _ q (by have := hq.2.1; have := HS.out; omega))) (fun _ _ => trivial)) HZ.out
        · exact Kd.R_lower (Kd.R_mono (Kd.R_step (Kd.R_bound HMa.out) (fun q hq _ => put6_far _ g4 _ _ _ _ _ _ q (by have := hq.2.1; have := HS.out; omega))) (fun _ _ => trivial)) HZ.out
    · have b1a : ((rget a).1.ep % 2 == 0) = false := beq_eq_false_iff_ne.mpr h1a
      have E1a := Aside0.mk h1a
      clear h1a
      by_cases h0b : (rget b).2 = 0
      · have b0b : ((rget b).2 == 0) = true := beq_iff_eq.mpr h0b
        have E0b := Aside0.mk h0b
        have EPb := Aside0.mk (rget_ep h0b)
        clear h0b
        have htmb : Int.tmod (rget b).1.ep 2 = (rget b).1.ep % 2 := Int.tmod_eq_emod_of_nonneg EPb.out
        have hwmb : wrap64 ((rget b).1.ep % 2) = (rget b).1.ep % 2 := by unfold wrap64; omega
        by_cases h1b : (rget b).1.ep % 2 = 1
        · have b1b : ((rget b).1.ep % 2 == 1) = true := beq_iff_eq.mpr h1b
          have E1b := Aside0.mk h1b
          clear h1b
          have d0 := blk_cell HKa.out 0; have f0 := blk_frozen HKa.out 0; have d1 := blk_cell HKa.out 1; have f1 := blk_frozen HKa.out 1; have d2 := blk_cell HKa.out 2; have f2 := blk_frozen HKa.out 2; have d3 := blk_cell HKa.out 3; have f3 := blk_frozen HKa.out 3; have d4 := blk_cell HKa.out 4; have f4 := blk_frozen HKa.out 4; have d5 := blk_cell HKa.out 5; have f5 := blk_frozen HKa.out 5
          have k0 := blk_cell HKb.out 0; have z0 := blk_frozen HKb.out 0; have k1 := blk_cell HKb.out 1; have z1 := blk_frozen HKb.out 1; have k2 := blk_cell HKb.out 2; have z2 := blk_frozen HKb.out 2; have k3 := blk_cell HKb.out 3; have z3 := blk_frozen HKb.out 3; have k4 := blk_cell HKb.out 4; have z4 := blk_frozen HKb.out 4; have k5 := blk_cell HKb.out 5; have z5 := blk_frozen HKb.out 5
          go_quiet (fail)
          have nB := Aside0.mk (pw_below_drewN HB.out nq)
          have nN := Aside0.mk (blk_drewN HN.out nq)
          have nKa := Aside0.mk (blk_drewN HKa.out nq)
          have nKb := Aside0.mk (blk_drewN HKb.out nq)
          have nTa := Aside0.mk (Kd.R_drewN HTa.out nq)
          have nMa := Aside0.mk (Kd.R_drewN HMa.out nq)
          have nTb := Aside0.mk (Kd.R_drewN HTb.out nq)
          have nMb := Aside0.mk (Kd.R_drewN HMb.out nq)
          generalize W5.drewN nq = W6 at nB nN nKa nKb nTa nMa nTb nMb ⊢
          clear HB HN HKa HKb HTa HMa HTb HMb d0 f0 k0 z0 d1 f1 k1 z1 d2 f2 k2 z2 d3 f3 k3 z3 d4 f4 k4 z4 d5 f5 k5 z5
          have HB := nB
          have HN := nN
          have HKa := nKa
          have HKb := nKb
          have HTa := nTa
          have HMa := nMa
          have HTb := nTb
          have HMb := nMb
          clear nB nN nKa nKb nTa nMa nTb nMb
          have d0 := blk_cell HKa.out 0; have f0 := blk_frozen HKa.out 0; have d1 := blk_cell HKa.out 1; have f1 := blk_frozen HKa.out 1; have d2 := blk_cell HKa.out 2; have f2 := blk_frozen HKa.out 2; have d3 := blk_cell HKa.out 3; have f3 := blk_frozen HKa.out 3; have d4 := blk_cell HKa.out 4; have f4 := blk_frozen HKa.out 4; have d5 := blk_cell HKa.out 5; have f5 := blk_frozen HKa.out 5
          have k0 := blk_cell HKb.out 0; have z0 := blk_frozen HKb.out 0; have k1 := blk_cell HKb.out 1; have z1 := blk_frozen HKb.out 1; have k2 := blk_cell HKb.out 2; have z2 := blk_frozen HKb.out 2; have k3 := blk_cell HKb.out 3; have z3 := blk_frozen HKb.out 3; have k4 := blk_cell HKb.out 4; have z4 := blk_frozen HKb.out 4; have k5 := blk_cell HKb.out 5; have z5 := blk_frozen HKb.out 5
          have e0 := blk_cell HN.out 0; have y0 := blk_frozen HN.out 0; have e1 := blk_cell HN.out 1; have y1 := blk_frozen HN.out 1; have e2 := blk_cell HN.out 2; have y2 := blk_frozen HN.out 2; have e3 := blk_cell HN.out 3; have y3 := blk_frozen HN.out 3; have e4 := blk_cell HN.out 4; have y4 := blk_frozen HN.out 4; have e5 := blk_cell HN.out 5; have y5 := blk_frozen HN.out 5
          go_wp2_with fail
          clear d0 f0 k0 z0 e0 y0 d1 f1 k1 z1 e1 y1 d2 f2 k2 z2 e2 y2 d3 f3 k3 z3 e3 y3 d4 f4 k4 z4 e4 y4 d5 f5 k5 z5 e5 y5
          have hz : rchoose a b = ((rget b).1, 1, 0) := by
            unfold rchoose
            rw [if_neg (fun h' => (fun h => E1a.out h.2 : ¬ ((rget a).2 = 0 ∧ (rget a).1.ep % 2 = 0)) ⟨h'.1, h'.2.1⟩), if_pos ⟨E0b.out, E1b.out⟩]
          refine bodyPost_ret (results_ctt rfl _ _ g4 52 _ (0, 0) _ rfl (put6_heap HN.out _ _ _ _ _ _) Try.underlying52 rfl (by kernel_rfl)) rfl ?_
          rw [hz]
          refine ⟨_, rfl, ⟨_, _, rfl, ?_, ?_⟩, put6_below HB.out (Nat.le_of_eq HG4.out.symm) _ _ _ _ _ _⟩
          · exact Kd.R_lower (Kd.R_mono (Kd.R_step (Kd.R_bound HTb.out) (fun q hq _ => put6_far _ g4 _ _ _ _ _ _ q (by have := hq.2.1; have := HS.out; omega))) (fun _ _ => trivial)) HZ.out
          · exact Kd.R_lower (Kd.R_mono (Kd.R_step (Kd.R_bound HMb.out) (fun q hq _ => put6_far _ g4 _ _ _ _ _ _ q (by have := hq.2.1; have := HS.out; omega))) (fun _ _ => trivial)) HZ.out
        · have b1b : ((rget b).1.ep % 2 == 1) = false := beq_eq_false_iff_ne.mpr h1b
          have E1b := Aside0.mk h1b
          clear h1b
          have d0 := blk_cell HKa.out 0; have f0 := blk_frozen HKa.out 0; have d1 := blk_cell HKa.out 1; have f1 := blk_frozen HKa.out 1; have d2 := blk_cell HKa.out 2; have f2 := blk_frozen HKa.out 2; have d3 := blk_cell HKa.out 3; have f3 := blk_frozen HKa.out 3; have d4 := blk_cell HKa.out 4; have f4 := blk_frozen HKa.out 4; have d5 := blk_cell HKa.out 5; have f5 := blk_frozen HKa.out 5
          have k0 := blk_cell HKb.out 0; have z0 := blk_frozen HKb.out 0; have k1 := blk_cell HKb.out 1; have z1 := blk_frozen HKb.out 1; have k2 := blk_cell HKb.out 2; have z2 := blk_frozen HKb.out 2; have k3 := blk_cell HKb.out 3; have z3 := blk_frozen HKb.out 3; have k4 := blk_cell HKb.out 4; have z4 := blk_frozen HKb.out 4; have k5 := blk_cell HKb.out 5; have z5 := blk_frozen HKb.out 5
          go_quiet (fail)
          have nB := Aside0.mk (pw_below_drewN HB.out nq)
          have nN := Aside0.mk (blk_drewN HN.out nq)
          have nKa := Aside0.mk (blk_drewN HKa.out nq)
          have nKb := Aside0.mk (blk_drewN HKb.out nq)
          have nTa := Aside0.mk (Kd.R_drewN HTa.out nq)
          have nMa := Aside0.mk (Kd.R_drewN HMa.out nq)
          have nTb := Aside0.mk (Kd.R_drewN HTb.out nq)
          have nMb := Aside0.mk (Kd.R_drewN HMb.out nq)
          generalize W5.drewN nq = W6 at nB nN nKa nKb nTa nMa nTb nMb ⊢
          clear HB HN HKa HKb HTa HMa HTb HMb d0 f0 k0 z0 d1 f1 k1 z1 d2 f2 k2 z2 d3 f3 k3 z3 d4 f4 k4 z4 d5 f5 k5 z5
          have HB := nB
          have HN := nN
          have HKa := nKa
          have HKb := nKb
          have HTa := nTa
          have HMa := nMa
          have HTb := nTb
          have HMb := nMb
          clear nB nN nKa nKb nTa nMa nTb nMb
          have d0 := blk_cell HKa.out 0; have f0 := blk_frozen HKa.out 0; have d1 := blk_cell HKa.out 1; have f1 := blk_frozen HKa.out 1; have d2 := blk_cell HKa.out 2; have f2 := blk_frozen HKa.out 2; have d3 := blk_cell HKa.out 3; have f3 := blk_frozen HKa.out 3; have d4 := blk_cell HKa.out 4; have f4 := blk_frozen HKa.out 4; have d5 := blk_cell HKa.out 5; have f5 := blk_frozen HKa.out 5
          have k0 := blk_cell HKb.out 0; have z0 := blk_frozen HKb.out 0; have k1 := blk_cell HKb.out 1; have z1 := blk_frozen HKb.out 1; have k2 := blk_cell HKb.out 2; have z2 := blk_frozen HKb.out 2; have k3 := blk_cell HKb.out 3; have z3 := blk_frozen HKb.out 3; have k4 := blk_cell HKb.out 4; have z4 := blk_frozen HKb.out 4; have k5 := blk_cell HKb.out 5; have z5 := blk_frozen HKb.out 5
          have e0 := blk_cell HN.out 0; have y0 := blk_frozen HN.out 0; have e1 := blk_cell HN.out 1; have y1 := blk_frozen HN.out 1; have e2 := blk_cell HN.out 2; have y2 := blk_frozen HN.out 2; have e3 := blk_cell HN.out 3; have y3 := blk_frozen HN.out 3; have e4 := blk_cell HN.out 4; have y4 := blk_frozen HN.out 4; have e5 := blk_cell HN.out 5; have y5 := blk_frozen HN.out 5
          go_wp2_with fail
          clear d0 f0 k0 z0 e0 y0 d1 f1 k1 z1 e1 y1 d2 f2 k2 z2 e2 y2 d3 f3 k3 z3 e3 y3 d4 f4 k4 z4 e4 y4 d5 f5 k5 z5 e5 y5
          have hz : rchoose a b = (rzero, 0, 4) := by
            unfold rchoose
            rw [if_neg (fun h' => (fun h => E1a.out h.2 : ¬ ((rget a).2 = 0 ∧ (rget a).1.ep % 2 = 0)) ⟨h'.1, h'.2.1⟩), if_neg (fun h => E1b.out h.2)]
          refine bodyPost_ret (results_ctt rfl _ _ g4 52 _ (0, 0) _ rfl (put6_heap HN.out _ _ _ _ _ _) Try.underlying52 rfl (by kernel_rfl)) rfl ?_
          rw [hz]
          exact ⟨_, rfl, rvAt.zero _ _, put6_below HB.out (Nat.le_of_eq HG4.out.symm) _ _ _ _ _ _⟩
      · have b0b : ((rget b).2 == 0) = false := beq_eq_false_iff_ne.mpr h0b
        have E0b := Aside0.mk h0b
        clear h0b
        have d0 := blk_cell HKa.out 0; have f0 := blk_frozen HKa.out 0; have d1 := blk_cell HKa.out 1; have f1 := blk_frozen HKa.out 1; have d2 := blk_cell HKa.out 2; have f2 := blk_frozen HKa.out 2; have d3 := blk_cell HKa.out 3; have f3 := blk_frozen HKa.out 3; have d4 := blk_cell HKa.out 4; have f4 := blk_frozen HKa.out 4; have d5 := blk_cell HKa.out 5; have f5 := blk_frozen HKa.out 5
        have k0 := blk_cell HKb.out 0; have z0 := blk_frozen HKb.out 0; have k1 := blk_cell HKb.out 1; have z1 := blk_frozen HKb.out 1; have k2 := blk_cell HKb.out 2; have z2 := blk_frozen HKb.out 2; have k3 := blk_cell HKb.out 3; have z3 := blk_frozen HKb.out 3; have k4 := blk_cell HKb.out 4; have z4 := blk_frozen HKb.out 4; have k5 := blk_cell HKb.out 5; have z5 := blk_frozen HKb.out 5
        go_quiet (fail)
        have nB := Aside0.mk (pw_below_drewN HB.out nq)
        have nN := Aside0.mk (blk_drewN HN.out nq)
        have nKa := Aside0.mk (blk_drewN HKa.out nq)
        have nKb := Aside0.mk (blk_drewN HKb.out nq)
        have nTa := Aside0.mk (Kd.R_drewN HTa.out nq)
        have nMa := Aside0.mk (Kd.R_drewN HMa.out nq)
        have nTb := Aside0.mk (Kd.R_drewN HTb.out nq)
        have nMb := Aside0.mk (Kd.R_drewN HMb.out nq)
        generalize W5.drewN nq = W6 at nB nN nKa nKb nTa nMa nTb nMb ⊢
        clear HB HN HKa HKb HTa HMa HTb HMb d0 f0 k0 z0 d1 f1 k1 z1 d2 f2 k2 z2 d3 f3 k3 z3 d4 f4 k4 z4 d5 f5 k5 z5
        have HB := nB
        have HN := nN
        have HKa := nKa
        have HKb := nKb
        have HTa := nTa
        have HMa := nMa
        have HTb := nTb
        have HMb := nMb
        clear nB nN nKa nKb nTa nMa nTb nMb
        have d0 := blk_cell HKa.out 0; have f0 := blk_frozen HKa.out 0; have d1 := blk_cell HKa.out 1; have f1 := blk_frozen HKa.out 1; have d2 := blk_cell HKa.out 2; have f2 := blk_frozen HKa.out 2; have d3 := blk_cell HKa.out 3; have f3 := blk_frozen HKa.out 3; have d4 := blk_cell HKa.out 4; have f4 := blk_frozen HKa.out 4; have d5 := blk_cell HKa.out 5; have f5 := blk_frozen HKa.out 5
        have k0 := blk_cell HKb.out 0; have z0 := blk_frozen HKb.out 0; have k1 := blk_cell HKb.out 1; have z1 := blk_frozen HKb.out 1; have k2 := blk_cell HKb.out 2; have z2 := blk_frozen HKb.out 2; have k3 := blk_cell HKb.out 3; have z3 := blk_frozen HKb.out 3; have k4 := blk_cell HKb.out 4; have z4 := blk_frozen HKb.out 4; have k5 := blk_cell HKb.out 5; have z5 := blk_frozen HKb.out 5
        have e0 := blk_cell HN.out 0; have y0 := blk_frozen HN.out 0; have e1 := blk_cell HN.out 1; have y1 := blk_frozen HN.out 1; have e2 := blk_cell HN.out 2; have y2 := blk_frozen HN.out 2; have e3 := blk_cell HN.out 3; have y3 := blk_frozen HN.out 3; have e4 := blk_cell HN.out 4; have y4 := blk_frozen HN.out 4; have e5 := blk_cell HN.out 5; have y5 := blk_frozen HN.out 5
        go_wp2_with fail
        clear d0 f0 k0 z0 e0 y0 d1 f1 k1 z1 e1 y1 d2 f2 k2 z2 e2 y2 d3 f3 k3 z3 e3 y3 d4 f4 k4 z4 e4 y4 d5 f5 k5 z5 e5 y5
        have hz : rchoose a b = (rzero, 0, 4) := by
          unfold rchoose
          rw [if_neg (fun h' => (fun h => E1a.out h.2 : ¬ ((rget a).2 = 0 ∧ (rget a).1.ep % 2 = 0)) ⟨h'.1, h'.2.1⟩), if_neg (fun h => E0b.out h.1)]
        refine bodyPost_ret (results_ctt rfl _ _ g4 52 _ (0, 0) _ rfl (put6_heap HN.out _ _ _ _ _ _) Try.underlying52 rfl (by kernel_rfl)) rfl ?_
        rw [hz]
        exact ⟨_, rfl, rvAt.zero _ _, put6_below HB.out (Nat.le_of_eq HG4.out.symm) _ _ _ _ _ _⟩
  · have b0a : ((rget a).2 == 0) = false := beq_eq_false_iff_ne.mpr h0a
    have E0a := Aside0.mk h0a
    clear h0a
    by_cases h0b : (rget b).2 = 0
    · have b0b : ((rget b).2 == 0) = true := beq_iff_eq.mpr h0b
      have E0b := Aside0.mk h0b
      have EPb := Aside0.mk (rget_ep h0b)
      clear h0b
      have htmb : Int.tmod (rget b).1.ep 2 = (rget b).1.ep % 2 := Int.tmod_eq_emod_of_nonneg EPb.out
      have hwmb : wrap64 ((rget b).1.ep % 2) = (rget b).1.ep % 2 := by unfold wrap64; omega
      by_cases h1b : (rget b).1.ep % 2 = 1
      · have b1b : ((rget b).1.ep % 2 == 1) = true := beq_iff_eq.mpr h1b
        have E1b := Aside0.mk h1b
        clear h1b
        have d0 := blk_cell HKa.out 0; have f0 := blk_frozen HKa.out 0; have d1 := blk_cell HKa.out 1; have f1 := blk_frozen HKa.out 1; have d2 := blk_cell HKa.out 2; have f2 := blk_frozen HKa.out 2; have d3 := blk_cell HKa.out 3; have f3 := blk_frozen HKa.out 3; have d4 := blk_cell HKa.out 4; have f4 := blk_frozen HKa.out 4; have d5 := blk_cell HKa.out 5; have f5 := blk_frozen HKa.out 5
        have k0 := blk_cell HKb.out 0; have z0 := blk_frozen HKb.out 0; have k1 := blk_cell HKb.out 1; have z1 := blk_frozen HKb.out 1; have k2 := blk_cell HKb.out 2; have z2 := blk_frozen HKb.out 2; have k3 := blk_cell HKb.out 3; have z3 := blk_frozen HKb.out 3; have k4 := blk_cell HKb.out 4; have z4 := blk_frozen HKb.out 4; have k5 := blk_cell HKb.out 5; have z5 := blk_frozen HKb.out 5
        go_quiet (fail)
        have nB := Aside0.mk (pw_below_drewN HB.out nq)
        have nN := Aside0.mk (blk_drewN HN.out nq)
        have nKa := Aside0.mk (blk_drewN HKa.out nq)
        have nKb := Aside0.mk (blk_drewN HKb.out nq)
        have nTa := Aside0.mk (Kd.R_drewN HTa.out nq)
        have nMa := Aside0.mk (Kd.R_drewN HMa.out nq)
        have nTb := Aside0.mk (Kd.R_drewN HTb.out nq)
        have nMb := Aside0.mk (Kd.R_drewN HMb.out nq)
        generalize W5.drewN nq = W6 at nB nN nKa nKb nTa nMa nTb nMb ⊢
        clear HB HN HKa HKb HTa HMa HTb HMb d0 f0 k0 z0 d1 f1 k1 z1 d2 f2 k2 z2 d3 f3 k3 z3 d4 f4 k4 z4 d5 f5 k5 z5
        have HB := nB
        have HN := nN
        have HKa := nKa
        have HKb := nKb
        have HTa := nTa
        have HMa := nMa
        have HTb := nTb
        have HMb := nMb
        clear nB nN nKa nKb nTa nMa nTb nMb
        have d0 := blk_cell HKa.out 0; have f0 := blk_frozen HKa.out 0; have d1 := blk_cell HKa.out 1; have f1 := blk_frozen HKa.out 1; have d2 := blk_cell HKa.out 2; have f2 := blk_frozen HKa.out 2; have d3 := blk_cell HKa.out 3; have f3 := blk_frozen HKa.out 3; have d4 := blk_cell HKa.out 4; have f4 := blk_frozen HKa.out 4; have d5 := blk_cell HKa.out 5; have f5 := blk_frozen HKa.out 5
        have k0 := blk_cell HKb.out 0; have z0 := blk_frozen HKb.out 0; have k1 := blk_cell HKb.out 1; have z1 := blk_frozen HKb.out 1; have k2 := blk_cell HKb.out 2; have z2 := blk_frozen HKb.out 2; have k3 := blk_cell HKb.out 3; have z3 := blk_frozen HKb.out 3; have k4 := blk_cell HKb.out 4; have z4 := blk_frozen HKb.out 4; have k5 := blk_cell HKb.out 5; have z5 := blk_frozen HKb.out 5
        have e0 := blk_cell HN.out 0; have y0 := blk_frozen HN.out 0; have e1 := blk_cell HN.out 1; have y1 := blk_frozen HN.out 1; have e2 := blk_cell HN.out 2; have y2 := blk_frozen HN.out 2; have e3 := blk_cell HN.out 3; have y3 := blk_frozen HN.out 3; have e4 := blk_cell HN.out 4; have y4 := blk_frozen HN.out 4; have e5 := blk_cell HN.out 5; have y5 := blk_frozen HN.out 5
        go_wp2_with fail
        clear d0 f0 k0 z0 e0 y0 d1 f1 k1 z1 e1 y1 d2 f2 k2 z2 e2 y2 d3 f3 k3 z3 e3 y3 d4 f4 k4 z4 e4 y4 d5 f5 k5 z5 e5 y5
        have hz : rchoose a b = ((rget b).1, 1, 0) := by
          unfold rchoose
          rw [if_neg (fun h' => (fun h => E0a.out h.1 : ¬ ((rget a).2 = 0 ∧ (rget a).1.ep % 2 = 0)) ⟨h'.1, h'.2.1⟩), if_pos ⟨E0b.out, E1b.out⟩]
        refine bodyPost_ret (results_ctt rfl _ _ g4 52 _ (0, 0) _ rfl (put6_heap HN.out _ _ _ _ _ _) Try.underlying52 rfl (by kernel_rfl)) rfl ?_
        rw [hz]
        refine ⟨_, rfl, ⟨_, _, rfl, ?_, ?_⟩, put6_below HB.out (Nat.le_of_eq HG4.out.symm) _ _ _ _ _ _⟩
        · exact Kd.R_lower (Kd.R_mono (Kd.R_step (Kd.R_bound HTb.out) (fun q hq _ => put6_far _ g4 _ _ _ _ _ _ q (by have := hq.2.1; have := HS.out; omega))) (fun _ _ => trivial)) HZ.out
        · exact Kd.R_lower (Kd.R_mono (Kd.R_step (Kd.R_bound HMb.out) (fun q hq _ => put6_far _ g4 _ _ _ _ _ _ q (by have := hq.2.1; have := HS.out; omega))) (fun _ _ => trivial)) HZ.out
      · have b1b : ((rget b).1.ep % 2 == 1) = false := beq_eq_false_iff_ne.mpr h1b
        have E1b := Aside0.mk h1b
        clear h1b
        have d0 := blk_cell HKa.out 0; have f0 := blk_frozen HKa.out 0; have d1 := blk_cell HKa.out 1; have f1 := blk_frozen HKa.out 1; have d2 := blk_cell HKa.out 2; have f2 := blk_frozen HKa.out 2; have d3 := blk_cell HKa.out 3; have f3 := blk_frozen HKa.out 3; have d4 := blk_cell HKa.out 4; have f4 := blk_frozen HKa.out 4; have d5 := blk_cell HKa.out 5; have f5 := blk_frozen HKa.out 5
        have k0 := blk_cell HKb.out 0; have z0 := blk_frozen HKb.out 0; have k1 := blk_cell HKb.out 1; have z1 := blk_frozen HKb.out 1; have k2 := blk_cell HKb.out 2; have z2 := blk_frozen HKb.out 2; have k3 := blk_cell HKb.out 3; have z3 := blk_frozen HKb.out 3; have k4 := blk_cell HKb.out 4; have z4 := blk_frozen HKb.out 4; have k5 := blk_cell HKb.out 5; have z5 := blk_frozen HKb.out 5
        go_quiet (fail)
        have nB := Aside0.mk (pw_below_drewN HB.out nq)
        have nN := Aside0.mk (blk_drewN HN.out nq)
        have nKa := Aside0.mk (blk_drewN HKa.out nq)
        have nKb := Aside0.mk (blk_drewN HKb.out nq)
        have nTa := Aside0.mk (Kd.R_drewN HTa.out nq)
        have nMa := Aside0.mk (Kd.R_drewN HMa.out nq)
        have nTb := Aside0.mk (Kd.R_drewN HTb.out nq)
        have nMb := Aside0.mk (Kd.R_drewN HMb.out nq)
        generalize W5.drewN nq = W6 at nB nN nKa nKb nTa nMa nTb nMb ⊢
        clear HB HN HKa HKb HTa HMa HTb HMb d0 f0 k0 z0 d1 f1 k1 z1 d2 f2 k2 z2 d3 f3 k3 z3 d4 f4 k4 z4 d5 f5 k5 z5
        have HB := nB
        have HN := nN
        have HKa := nKa
        have HKb := nKb
        have HTa := nTa
        have HMa := nMa
        have HTb := nTb
        have HMb := nMb
        clear nB nN nKa nKb nTa nMa nTb nMb
        have d0 := blk_cell HKa.out 0; have f0 := blk_frozen HKa.out 0; have d1 := blk_cell HKa.out 1; have f1 := blk_frozen HKa.out 1; have d2 := blk_cell HKa.out 2; have f2 := blk_frozen HKa.out 2; have d3 := blk_cell HKa.out 3; have f3 := blk_frozen HKa.out 3; have d4 := blk_cell HKa.out 4; have f4 := blk_frozen HKa.out 4; have d5 := blk_cell HKa.out 5; have f5 := blk_frozen HKa.out 5
        have k0 := blk_cell HKb.out 0; have z0 := blk_frozen HKb.out 0; have k1 := blk_cell HKb.out 1; have z1 := blk_frozen HKb.out 1; have k2 := blk_cell HKb.out 2; have z2 := blk_frozen HKb.out 2; have k3 := blk_cell HKb.out 3; have z3 := blk_frozen HKb.out 3; have k4 := blk_cell HKb.out 4; have z4 := blk_frozen HKb.out 4; have k5 := blk_cell HKb.out 5; have z5 := blk_frozen HKb.out 5
        have e0 := blk_cell HN.out 0; have y0 := blk_frozen HN.out 0; have e1 := blk_cell HN.out 1; have y1 := blk_frozen HN.out 1; have e2 := blk_cell HN.out 2; have y2 := blk_frozen HN.out 2; have e3 := blk_cell HN.out 3; have y3 := blk_frozen HN.out 3; have e4 := blk_cell HN.out 4; have y4 := blk_frozen HN.out 4; have e5 := blk_cell HN.out 5; have y5 := blk_frozen HN.out 5
        go_wp2_with fail
        clear d0 f0 k0 z0 e0 y0 d1 f1 k1 z1 e1 y1 d2 f2 k2 z2 e2 y2 d3 f3 k3 z3 e3 y3 d4 f4 k4 z4 e4 y4 d5 f5 k5 z5 e5 y5
        have hz : rchoose a b = (rzero, 0, 4) := by
          unfold rchoose
          rw [if_neg (fun h' => (fun h => E0a.out h.1 : ¬ ((rget a).2 = 0 ∧ (rget a).1.ep % 2 = 0)) ⟨h'.1, h'.2.1⟩), if_neg (fun h => E1b.out h.2)]
        refine bodyPost_ret (results_ctt rfl _ _ g4 52 _ (0, 0) _ rfl (put6_heap HN.out _ _ _ _ _ _) Try.underlying52 rfl (by kernel_rfl)) rfl ?_
        rw [hz]
        exact ⟨_, rfl, rvAt.zero _ _, put6_below HB.out (Nat.le_of_eq HG4.out.symm) _ _ _ _ _ _⟩
    · have b0b : ((rget b).2 == 0) = false := beq_eq_false_iff_ne.mpr h0b
      have E0b := Aside0.mk h0b
      clear h0b
      have d0 := blk_cell HKa.out 0; have f0 := blk_frozen HKa.out 0; have d1 := blk_cell HKa.out 1; have f1 := blk_frozen HKa.out 1; have d2 := blk_cell HKa.out 2; have f2 := blk_frozen HKa.out 2; have d3 := blk_cell HKa.out 3; have f3 := blk_frozen HKa.out 3; have d4 := blk_cell HKa.out 4; have f4 := blk_frozen HKa.out 4; have d5 := blk_cell HKa.out 5; have f5 := blk_frozen HKa.out 5
      have k0 := blk_cell HKb.out 0; have z0 := blk_frozen HKb.out 0; have k1 := blk_cell HKb.out 1; have z1 := blk_frozen HKb.out 1; have k2 := blk_cell HKb.out 2; have z2 := blk_frozen HKb.out 2; have k3 := blk_cell HKb.out 3; have z3 := blk_frozen HKb.out 3; have k4 := blk_cell HKb.out 4; have z4 := blk_frozen HKb.out 4; have k5 := blk_cell HKb.out 5; have z5 := blk_frozen HKb.out 5
      go_quiet (fail)
      have nB := Aside0.mk (pw_below_drewN HB.out nq)
      have nN := Aside0.mk (blk_drewN HN.out nq)
      have nKa := Aside0.mk (blk_drewN HKa.out nq)
      have nKb := Aside0.mk (blk_drewN HKb.out nq)
      have nTa := Aside0.mk (Kd.R_drewN HTa.out nq)
      have nMa := Aside0.mk (Kd.R_drewN HMa.out nq)
      have nTb := Aside0.mk (Kd.R_drewN HTb.out nq)
      have nMb := Aside0.mk (Kd.R_drewN HMb.out nq)
      generalize W5.drewN nq = W6 at nB nN nKa nKb nTa nMa nTb nMb ⊢
      clear HB HN HKa HKb HTa HMa HTb HMb d0 f0 k0 z0 d1 f1 k1 z1 d2 f2 k2 z2 d3 f3 k3 z3 d4 f4 k4 z4 d5 f5 k5 z5
      have HB := nB
      have HN := nN
      have HKa := nKa
      have HKb := nKb
      have HTa := nTa
      have HMa := nMa
      have HTb := nTb
      have HMb := nMb
      clear nB nN nKa nKb nTa nMa nTb nMb
      have d0 := blk_cell HKa.out 0; have f0 := blk_frozen HKa.out 0; have d1 := blk_cell HKa.out 1; have f1 := blk_frozen HKa.out 1; have d2 := blk_cell HKa.out 2; have f2 := blk_frozen HKa.out 2; have d3 := blk_cell HKa.out 3; have f3 := blk_frozen HKa.out 3; have d4 := blk_cell HKa.out 4; have f4 := blk_frozen HKa.out 4; have d5 := blk_cell HKa.out 5; have f5 := blk_frozen HKa.out 5
      have k0 := blk_cell HKb.out 0; have z0 := blk_frozen HKb.out 0; have k1 := blk_cell HKb.out 1; have z1 := blk_frozen HKb.out 1; have k2 := blk_cell HKb.out 2; have z2 := blk_frozen HKb.out 2; have k3 := blk_cell HKb.out 3; have z3 := blk_frozen HKb.out 3; have k4 := blk_cell HKb.out 4; have z4 := blk_frozen HKb.out 4; have k5 := blk_cell HKb.out 5; have z5 := blk_frozen HKb.out 5
      have e0 := blk_cell HN.out 0; have y0 := blk_frozen HN.out 0; have e1 := blk_cell HN.out 1; have y1 := blk_frozen HN.out 1; have e2 := blk_cell HN.out 2; have y2 := blk_frozen HN.out 2; have e3 := blk_cell HN.out 3; have y3 := blk_frozen HN.out 3; have e4 := blk_cell HN.out 4; have y4 := blk_frozen HN.out 4; have e5 := blk_cell HN.out 5; have y5 := blk_frozen HN.out 5
      go_wp2_with fail
      clear d0 f0 k0 z0 e0 y0 d1 f1 k1 z1 e1 y1 d2 f2 k2 z2 e2 y2 d3 f3 k3 z3 e3 y3 d4 f4 k4 z4 e4 y4 d5 f5 k5 z5 e5 y5
      have hz : rchoose a b = (rzero, 0, 4) := by
        unfold rchoose
        rw [if_neg (fun h' => (fun h => E0a.out h.1 : ¬ ((rget a).2 = 0 ∧ (rget a).1.ep % 2 = 0)) ⟨h'.1, h'.2.1⟩), if_neg (fun h => E0b.out h.1)]
      refine bodyPost_ret (results_ctt rfl _ _ g4 52 _ (0, 0) _ rfl (put6_heap HN.out _ _ _ _ _ _) Try.underlying52 rfl (by kernel_rfl)) rfl ?_
      rw [hz]
      exact ⟨_, rfl, rvAt.zero _ _, put6_below HB.out (Nat.le_of_eq HG4.out.symm) _ _ _ _ _ _⟩
end Go.Proofs.Ytgflafifemhmgaa.MRt
