/- The walk of the law RootPuts. -/
import Derived.Test.YtgflafifemhmgaaBack
namespace Go.Proofs.Ytgflafifemhmgaa.MRt
open Go.RowKit Go.Proofs.Ytgflafifemhmgaa.Hand Go.Proofs.Ytgflafifemhmgaa.Crc Go.Proofs.Ytgflafifemhmgaa.RootV Go.Proofs.Ytgflafifemhmgaa.RSums Go.Proofs.Ytgflafifemhmgaa.RPure Go.Proofs.YtgflafifemhmgaaW.PrintWords Go.Proofs.YtgflafifemhmgaaW.PrintLast Go.Proofs.YtgflafifemhmgaaW.PrintMore
set_option linter.unusedVariables false
set_option linter.unusedSimpArgs false
def RootPuts.T5 : Bool × List (List Nat × List Nat) := (true, [([], []), ([0], [0]), ([], []), ([2], [2]), ([1, 3], [1, 3]), ([4], [4]), ([5], [5]), ([5], [5]), ([6, 7, 5], [5, 6, 7]), ([5, 8], [5, 8]), ([9, 5], [9]), ([10], [10]), ([11, 10, 10], [10, 11]), ([10], [10]), ([12, 13, 10], [10, 12, 13]), ([10, 14], [10, 14]), ([15, 12], [15]), ([16], [16]), ([16], [16]), ([17, 18, 16, 16], [16, 17, 18]), ([16], [16]), ([16], [16]), ([20, 21, 19, 16], [16, 20, 21]), ([19, 22, 16], [16, 19, 22]), ([16, 23], [16, 23]), ([24, 22], [24]), ([25, 25], [25]), ([25, 26], [25, 26]), ([27, 26, 0, 1, 2, 3, 4, 5, 6, 7, 8, 9, 10, 11, 12, 13, 14, 15, 16, 17, 18, 19, 20, 21, 22, 23, 24, 25, 26, 27], [27])])
def RootPuts.B5 : List Nat := [0, 1, 0, 4, 15, 31, 63, 63, 255, 511, 1023, 2047, 4095, 2047, 16383, 32767, 65535, 131071, 131071, 524287, 131071, 131071, 4194303, 8388607, 16777215, 33554431, 67108863, 134217727, 268435455]
theorem RootPuts.tab5 : rtab .any (opsOf Try.f8 5) = RootPuts.T5 := by kernel_rfl
theorem RootPuts.bits5 : waitsOk RootPuts.T5.2 RootPuts.B5 = true := by kernel_rfl
set_option maxHeartbeats 16000000 in
set_option maxRecDepth 100000 in
theorem RootPuts_calls (r : RV) (A : Option Addr) (c : Nat) (B : Option Addr) (d : Nat) (s : RV) (C : Option Addr) (e : Nat) (D : Option Addr) (f : Nat) (w : World) (hrA : Kd.C (Kd.int .i64) w A r.tb.length r.tb) (hcA : r.tb.length ≤ c) (hrB : Kd.C (Kd.int .i64) w B r.mp.length r.mp) (hcB : r.mp.length ≤ d) (hep : -9223372036854775808 ≤ r.ep ∧ r.ep < 9223372036854775808)
    (hrC : Kd.C (Kd.int .i64) w C s.tb.length s.tb) (hcC : s.tb.length ≤ e) (hrD : Kd.C (Kd.int .i64) w D s.mp.length s.mp) (hcD : s.mp.length ≤ f) (hes : -9223372036854775808 ≤ s.ep ∧ s.ep < 9223372036854775808) :
    Calls Try.prog 8 #[.agg #[.int .i64 r.ep, .int .i64 r.bl, .int .i64 r.nx, .int .i64 r.st, .slice A r.tb.length c, .slice B r.mp.length d], .agg #[.int .i64 s.ep, .int .i64 s.bl, .int .i64 s.nx, .int .i64 s.st, .slice C s.tb.length e, .slice D s.mp.length f]] w fun e w' => e = .returned (.bool true) ∧ Below w.heap.size w w' := by
  have HA := Aside0.mk hrA
  have HCA := Aside0.mk hcA
  have HD := Aside0.mk hrB
  have HCD := Aside0.mk hcB
  have HE := Aside0.mk hrC
  have HCE := Aside0.mk hcC
  have HF := Aside0.mk hrD
  have HCF := Aside0.mk hcD
  clear hrA hcA hrB hcB hep hrC hcC hrD hcD hes
  go_enter Try.func8, Try.ntmps8
  go_wp2_with fail
  go_at_call 23
  have HB := Aside0.mk (Below.refl w.heap.size w)
  have hsz1 : (w.alloc (Obj.cells #[Value.int IntKind.i64 (r).ep, Value.int IntKind.i64 (r).bl, Value.int IntKind.i64 (r).nx, Value.int IntKind.i64 (r).st, Value.slice A (r).tb.length c, Value.slice B (r).mp.length d] 52)).heap.size = w.heap.size + 1 := World.size_alloc _ _
  have hgw : w.heap.size = w.heap.size := rfl
  obtain ⟨g2, hg2⟩ : ∃ g, g = w.heap.size := ⟨_, rfl⟩
  have hW := below_alloc (Below.refl w.heap.size w) (Obj.cells #[Value.int IntKind.i64 (r).ep, Value.int IntKind.i64 (r).bl, Value.int IntKind.i64 (r).nx, Value.int IntKind.i64 (r).st, Value.slice A (r).tb.length c, Value.slice B (r).mp.length d] 52)
  have hN := blk_new w (Obj.cells #[Value.int IntKind.i64 (r).ep, Value.int IntKind.i64 (r).bl, Value.int IntKind.i64 (r).nx, Value.int IntKind.i64 (r).st, Value.slice A (r).tb.length c, Value.slice B (r).mp.length d] 52)
  rw [← hg2] at hN hsz1 ⊢
  generalize w.alloc (Obj.cells #[Value.int IntKind.i64 (r).ep, Value.int IntKind.i64 (r).bl, Value.int IntKind.i64 (r).nx, Value.int IntKind.i64 (r).st, Value.slice A (r).tb.length c, Value.slice B (r).mp.length d] 52) = U0 at hW hN hsz1 ⊢
  have n_HB := Aside0.mk (below_step HB.out hW)
  have n_HA := Aside0.mk (Kd.C_below HA.out hW)
  have n_HD := Aside0.mk (Kd.C_below HD.out hW)
  have n_HE := Aside0.mk (Kd.C_below HE.out hW)
  have n_HF := Aside0.mk (Kd.C_below HF.out hW)
  clear HB HA HD HE HF
  have HB := n_HB
  have HA := n_HA
  have HD := n_HD
  have HE := n_HE
  have HF := n_HF
  clear n_HB n_HA n_HD n_HE n_HF
  have HK2 := Aside0.mk (hN)
  clear hW hN hgw
  obtain ⟨g3, hg3⟩ : ∃ g, g = U0.heap.size := ⟨_, rfl⟩
  rw [← hsz1]
  have hW := below_alloc (Below.refl U0.heap.size U0) (Obj.cells #[Value.int IntKind.i64 (s).ep, Value.int IntKind.i64 (s).bl, Value.int IntKind.i64 (s).nx, Value.int IntKind.i64 (s).st, Value.slice C (s).tb.length e, Value.slice D (s).mp.length f] 52)
  have hN := blk_new U0 (Obj.cells #[Value.int IntKind.i64 (s).ep, Value.int IntKind.i64 (s).bl, Value.int IntKind.i64 (s).nx, Value.int IntKind.i64 (s).st, Value.slice C (s).tb.length e, Value.slice D (s).mp.length f] 52)
  rw [← hg3] at hN ⊢
  generalize U0.alloc (Obj.cells #[Value.int IntKind.i64 (s).ep, Value.int IntKind.i64 (s).bl, Value.int IntKind.i64 (s).nx, Value.int IntKind.i64 (s).st, Value.slice C (s).tb.length e, Value.slice D (s).mp.length f] 52) = U1 at hW hN ⊢
  have n_HB := Aside0.mk (below_step HB.out hW)
  have n_HA := Aside0.mk (Kd.C_below HA.out hW)
  have n_HD := Aside0.mk (Kd.C_below HD.out hW)
  have n_HE := Aside0.mk (Kd.C_below HE.out hW)
  have n_HF := Aside0.mk (Kd.C_below HF.out hW)
  have n_HK2 := Aside0.mk (blk_below HK2.out hW)
  clear HB HA HD HE HF HK2
  have HB := n_HB
  have HA := n_HA
  have HD := n_HD
  have HE := n_HE
  have HF := n_HF
  have HK2 := n_HK2
  clear n_HB n_HA n_HD n_HE n_HF n_HK2
  have HK3 := Aside0.mk (hN)
  clear hW hN hg2 hg3 hsz1
  have hg := intarsialaw05_light.calls r.ep r.bl r.nx r.st A c r.tb B d r.mp _ U1 HA.out HCA.out HD.out HCD.out (light_is r)
  refine hg.mono ?_
  clear hg
  rintro ex U2 ⟨rfl, hb⟩
  have n_HB := Aside0.mk (below_step HB.out hb)
  have n_HA := Aside0.mk (Kd.C_below HA.out hb)
  have n_HD := Aside0.mk (Kd.C_below HD.out hb)
  have n_HE := Aside0.mk (Kd.C_below HE.out hb)
  have n_HF := Aside0.mk (Kd.C_below HF.out hb)
  have n_HK2 := Aside0.mk (blk_below HK2.out hb)
  have n_HK3 := Aside0.mk (blk_below HK3.out hb)
  clear HB HA HD HE HF HK2 HK3
  have HB := n_HB
  have HA := n_HA
  have HD := n_HD
  have HE := n_HE
  have HF := n_HF
  have HK2 := n_HK2
  have HK3 := n_HK3
  clear n_HB n_HA n_HD n_HE n_HF n_HK2 n_HK3
  clear hb
  by_cases hl : r.tb.length ≤ 60 ∧ r.mp.length ≤ 60
  · have HL := Aside0.mk hl
    rw [decide_eq_true hl]
    clear hl
    have cy0 := blk_cell HK3.out 0; have fy0 := blk_frozen HK3.out 0; have cy1 := blk_cell HK3.out 1; have fy1 := blk_frozen HK3.out 1; have cy2 := blk_cell HK3.out 2; have fy2 := blk_frozen HK3.out 2; have cy3 := blk_cell HK3.out 3; have fy3 := blk_frozen HK3.out 3; have cy4 := blk_cell HK3.out 4; have fy4 := blk_frozen HK3.out 4; have cy5 := blk_cell HK3.out 5; have fy5 := blk_frozen HK3.out 5
    go_wp2_with fail
    go_at_call 23
    clear cy0 fy0 cy1 fy1 cy2 fy2 cy3 fy3 cy4 fy4 cy5 fy5
    have hg := intarsialaw05_light.calls s.ep s.bl s.nx s.st C e s.tb D f s.mp _ U2 HE.out HCE.out HF.out HCF.out (light_is s)
    refine hg.mono ?_
    clear hg
    rintro ex U3 ⟨rfl, hb⟩
    have n_HB := Aside0.mk (below_step HB.out hb)
    have n_HA := Aside0.mk (Kd.C_below HA.out hb)
    have n_HD := Aside0.mk (Kd.C_below HD.out hb)
    have n_HE := Aside0.mk (Kd.C_below HE.out hb)
    have n_HF := Aside0.mk (Kd.C_below HF.out hb)
    have n_HK2 := Aside0.mk (blk_below HK2.out hb)
    have n_HK3 := Aside0.mk (blk_below HK3.out hb)
    clear HB HA HD HE HF HK2 HK3
    have HB := n_HB
    have HA := n_HA
    have HD := n_HD
    have HE := n_HE
    have HF := n_HF
    have HK2 := n_HK2
    have HK3 := n_HK3
    clear n_HB n_HA n_HD n_HE n_HF n_HK2 n_HK3
    clear hb
    by_cases hl2 : s.tb.length ≤ 60 ∧ s.mp.length ≤ 60
    · rw [decide_eq_true hl2]
      clear hl2
      have cx0 := blk_cell HK2.out 0; have fx0 := blk_frozen HK2.out 0; have cx1 := blk_cell HK2.out 1; have fx1 := blk_frozen HK2.out 1; have cx2 := blk_cell HK2.out 2; have fx2 := blk_frozen HK2.out 2; have cx3 := blk_cell HK2.out 3; have fx3 := blk_frozen HK2.out 3; have cx4 := blk_cell HK2.out 4; have fx4 := blk_frozen HK2.out 4; have cx5 := blk_cell HK2.out 5; have fx5 := blk_frozen HK2.out 5
      go_wp2_with fail
      go_at_call 25
      clear cx0 fx0 cx1 fx1 cx2 fx2 cx3 fx3 cx4 fx4 cx5 fx5
      have hg := root_Put.calls 3000 r.ep r.bl r.nx r.st A c r.tb B d r.mp (rput r).1 (rput r).2 U3 HA.out HCA.out HD.out HCD.out (put_is 0 r (by have := HL.out; omega) (by have := HL.out; omega))
      refine hg.mono ?_
      clear hg
      rintro ex U4 ⟨v, rfl, hr, hb⟩
      obtain ⟨L1, cL1, rfl⟩ := Kd.R_slice hr
      have n_HB := Aside0.mk (below_step HB.out hb)
      have n_HA := Aside0.mk (Kd.C_below HA.out hb)
      have n_HD := Aside0.mk (Kd.C_below HD.out hb)
      have n_HE := Aside0.mk (Kd.C_below HE.out hb)
      have n_HF := Aside0.mk (Kd.C_below HF.out hb)
      have n_HK2 := Aside0.mk (blk_below HK2.out hb)
      have n_HK3 := Aside0.mk (blk_below HK3.out hb)
      clear HB HA HD HE HF HK2 HK3
      have HB := n_HB
      have HA := n_HA
      have HD := n_HD
      have HE := n_HE
      have HF := n_HF
      have HK2 := n_HK2
      have HK3 := n_HK3
      clear n_HB n_HA n_HD n_HE n_HF n_HK2 n_HK3
      have HL1 := Aside0.mk ((Kd.R_reads' hr).2.2)
      clear hr hb
      have cx0 := blk_cell HK2.out 0; have fx0 := blk_frozen HK2.out 0; have cx1 := blk_cell HK2.out 1; have fx1 := blk_frozen HK2.out 1; have cx2 := blk_cell HK2.out 2; have fx2 := blk_frozen HK2.out 2; have cx3 := blk_cell HK2.out 3; have fx3 := blk_frozen HK2.out 3; have cx4 := blk_cell HK2.out 4; have fx4 := blk_frozen HK2.out 4; have cx5 := blk_cell HK2.out 5; have fx5 := blk_frozen HK2.out 5
      go_wp2_with fail
      go_at_call 26
      clear cx0 fx0 cx1 fx1 cx2 fx2 cx3 fx3 cx4 fx4 cx5 fx5
      have hg := intarsiaref05_Put.calls 9000 r.ep r.bl r.nx r.st A c r.tb B d r.mp (rput r).1 (rput r).2 U4 HA.out HCA.out HD.out HCD.out (rput_is 0 r (by have := HL.out; omega) (by have := HL.out; omega))
      refine hg.mono ?_
      clear hg
      rintro ex U5 ⟨v, rfl, hr, hb⟩
      obtain ⟨L2, cL2, rfl⟩ := Kd.R_slice hr
      have n_HB := Aside0.mk (below_step HB.out hb)
      have n_HA := Aside0.mk (Kd.C_below HA.out hb)
      have n_HD := Aside0.mk (Kd.C_below HD.out hb)
      have n_HE := Aside0.mk (Kd.C_below HE.out hb)
      have n_HF := Aside0.mk (Kd.C_below HF.out hb)
      have n_HK2 := Aside0.mk (blk_below HK2.out hb)
      have n_HK3 := Aside0.mk (blk_below HK3.out hb)
      have n_HL1 := Aside0.mk (Kd.C_below HL1.out hb)
      clear HB HA HD HE HF HK2 HK3 HL1
      have HB := n_HB
      have HA := n_HA
      have HD := n_HD
      have HE := n_HE
      have HF := n_HF
      have HK2 := n_HK2
      have HK3 := n_HK3
      have HL1 := n_HL1
      clear n_HB n_HA n_HD n_HE n_HF n_HK2 n_HK3 n_HL1
      have HL2 := Aside0.mk ((Kd.R_reads' hr).2.2)
      clear hr hb
      go_wp2_with fail
      have hst : ((strOfNums (rput r).1).toList == (strOfNums (rput r).1).toList) = true := beq_self_eq_true _
      have hq1 : ((rput r).2 == (rput r).2) = true := beq_self_eq_true _
      have hq2 : (rcheck r == (rput r).2) = true := by rw [rput_code]; exact beq_self_eq_true _
      have hq3 : (rsame r s == rsame r s) = true := beq_self_eq_true _
      have hD := below_drew1 (Below.refl U5.heap.size U5)
      have n_HB := Aside0.mk (below_step HB.out hD)
      have n_HA := Aside0.mk (Kd.C_below HA.out hD)
      have n_HD := Aside0.mk (Kd.C_below HD.out hD)
      have n_HE := Aside0.mk (Kd.C_below HE.out hD)
      have n_HF := Aside0.mk (Kd.C_below HF.out hD)
      have n_HK2 := Aside0.mk (blk_below HK2.out hD)
      have n_HK3 := Aside0.mk (blk_below HK3.out hD)
      have n_HL1 := Aside0.mk (Kd.C_below HL1.out hD)
      have n_HL2 := Aside0.mk (Kd.C_below HL2.out hD)
      clear HB HA HD HE HF HK2 HK3 HL1 HL2
      have HB := n_HB
      have HA := n_HA
      have HD := n_HD
      have HE := n_HE
      have HF := n_HF
      have HK2 := n_HK2
      have HK3 := n_HK3
      have HL1 := n_HL1
      have HL2 := n_HL2
      clear n_HB n_HA n_HD n_HE n_HF n_HK2 n_HK3 n_HL1 n_HL2
      clear hD
      refine start_ (n := 29) (S := fun w' => (convert 22 9 (.slice L1 (rput r).1.length cL1)).run Try.prog w' = .ok (.string (strOfNums (rput r).1)) w' ∧ (convert 22 9 (.slice L2 (rput r).1.length cL2)).run Try.prog w' = .ok (.string (strOfNums (rput r).1)) w' ∧ w'.cell? ⟨g2, 0, none⟩ = some (.int .i64 r.ep) ∧ w'.cell? ⟨g2, 1, none⟩ = some (.int .i64 r.bl) ∧ w'.cell? ⟨g2, 2, none⟩ = some (.int .i64 r.nx) ∧ w'.cell? ⟨g2, 3, none⟩ = some (.int .i64 r.st) ∧ w'.cell? ⟨g2, 4, none⟩ = some (.slice A r.tb.length c) ∧ w'.cell? ⟨g2, 5, none⟩ = some (.slice B r.mp.length d) ∧ w'.cell? ⟨g3, 0, none⟩ = some (.int .i64 s.ep) ∧ w'.cell? ⟨g3, 1, none⟩ = some (.int .i64 s.bl) ∧ w'.cell? ⟨g3, 2, none⟩ = some (.int .i64 s.nx) ∧ w'.cell? ⟨g3, 3, none⟩ = some (.int .i64 s.st) ∧ w'.cell? ⟨g3, 4, none⟩ = some (.slice C s.tb.length e) ∧ w'.cell? ⟨g3, 5, none⟩ = some (.slice D s.mp.length f)) (ds := []) #[false, false, false, false, false, false, false, false, false, false, false, false, false, false, false, false, false, false, false, false, false, false, false, false, false, false, false, false, false] (by kernel_rfl) rfl rfl ⟨Kd.C_string (P := Try.prog) Try.underlying22 Try.underlying5 Try.underlying9 HL1.out, Kd.C_string (P := Try.prog) Try.underlying22 Try.underlying5 Try.underlying9 HL2.out, (blk_cell HK2.out 0).trans rfl, (blk_cell HK2.out 1).trans rfl, (blk_cell HK2.out 2).trans rfl, (blk_cell HK2.out 3).trans rfl, (blk_cell HK2.out 4).trans rfl, (blk_cell HK2.out 5).trans rfl, (blk_cell HK3.out 0).trans rfl, (blk_cell HK3.out 1).trans rfl, (blk_cell HK3.out 2).trans rfl, (blk_cell HK3.out 3).trans rfl, (blk_cell HK3.out 4).trans rfl, (blk_cell HK3.out 5).trans rfl⟩ (fun hHeld => ?_); refine with_tabW RootPuts.tab5 RootPuts.bits5 (fun HT_ HW_ => ?_)
      generalize U5.drew = U6 at HB HA HD HE HF HK2 HK3 HL1 HL2 hHeld ⊢
      refine pure_ (i := 0) (N := some 28) (v := ?_) (a' := ?_) #[true, false, false, false, false, false, false, false, false, false, false, false, false, false, false, false, false, false, false, false, false, false, false, false, false, false, false, false, false] rfl rfl (any_of HT_.out (by kernel_rfl)) (fun _ _ _ h => h) (Or.inl ⟨by rfl, ?_⟩) ?_ ?_
      rotate_left
      · intro w'
        go_simp
        with_reducible rfl
      rotate_left
      · simp only [Act.put, List.setIfInBounds_toArray, List.set_cons_zero, List.set_cons_succ, i64_w, i32_w]
        rfl
      refine take_ (i := 1) (N := some 29) (v := ?_) (a' := ?_) #[true, true, false, false, false, false, false, false, false, false, false, false, false, false, false, false, false, false, false, false, false, false, false, false, false, false, false, false, false] rfl rfl (take_ofW HT_.out HW_.out (by kernel_rfl)) (fun _ _ _ h => h) (Or.inl ⟨by rfl, ?_⟩) hHeld ?_ ?_
      rotate_left
      · rintro w' ⟨s0, s1, s2, s3, s4, s5, s6, s7, s8, s9, s10, s11, s12, s13⟩
        go_simp
        with_reducible rfl
      rotate_left
      · simp only [Act.put, List.setIfInBounds_toArray, List.set_cons_zero, List.set_cons_succ, i64_w, i32_w]
        rfl
      refine pure_ (i := 2) (N := some 30) (v := ?_) (a' := ?_) #[true, true, true, false, false, false, false, false, false, false, false, false, false, false, false, false, false, false, false, false, false, false, false, false, false, false, false, false, false] rfl rfl (any_of HT_.out (by kernel_rfl)) (fun _ _ _ h => h) (Or.inl ⟨by rfl, ?_⟩) ?_ ?_
      rotate_left
      · intro w'
        go_simp
        with_reducible rfl
      rotate_left
      · simp only [Act.put, List.setIfInBounds_toArray, List.set_cons_zero, List.set_cons_succ, i64_w, i32_w]
        rfl
      refine take_ (i := 3) (N := some 31) (v := ?_) (a' := ?_) #[true, true, true, true, false, false, false, false, false, false, false, false, false, false, false, false, false, false, false, false, false, false, false, false, false, false, false, false, false] rfl rfl (take_ofW HT_.out HW_.out (by kernel_rfl)) (fun _ _ _ h => h) (Or.inl ⟨by rfl, ?_⟩) hHeld ?_ ?_
      rotate_left
      · rintro w' ⟨s0, s1, s2, s3, s4, s5, s6, s7, s8, s9, s10, s11, s12, s13⟩
        go_simp
        with_reducible rfl
      rotate_left
      · simp only [Act.put, List.setIfInBounds_toArray, List.set_cons_zero, List.set_cons_succ, i64_w, i32_w]
        rfl
      refine pure_ (i := 4) (N := some 32) (v := ?_) (a' := ?_) #[true, true, true, true, true, false, false, false, false, false, false, false, false, false, false, false, false, false, false, false, false, false, false, false, false, false, false, false, false] rfl rfl (any_of HT_.out (by kernel_rfl)) (fun _ _ _ h => h) (Or.inl ⟨by rfl, ?_⟩) ?_ ?_
      rotate_left
      · intro w'
        go_simp
        with_reducible rfl
      rotate_left
      · simp only [Act.put, List.setIfInBounds_toArray, List.set_cons_zero, List.set_cons_succ, i64_w, i32_w]
        rfl
      refine pure_ (i := 5) (N := some 33) (v := ?_) (a' := ?_) #[true, true, true, true, true, true, false, false, false, false, false, false, false, false, false, false, false, false, false, false, false, false, false, false, false, false, false, false, false] rfl rfl (any_of HT_.out (by kernel_rfl)) (fun _ _ _ h => h) (Or.inl ⟨by rfl, ?_⟩) ?_ ?_
      rotate_left
      · intro w'
        go_simp
        with_reducible rfl
      rotate_left
      · simp only [Act.put, List.setIfInBounds_toArray, List.set_cons_zero, List.set_cons_succ, i64_w, i32_w]
        rfl
      refine pure_ (i := 6) (N := some 34) (v := ?_) (a' := ?_) #[true, true, true, true, true, true, true, false, false, false, false, false, false, false, false, false, false, false, false, false, false, false, false, false, false, false, false, false, false] rfl rfl (any_of HT_.out (by kernel_rfl)) (fun _ _ _ h => h) (Or.inl ⟨by rfl, ?_⟩) ?_ ?_
      rotate_left
      · intro w'
        go_simp
        with_reducible rfl
      rotate_left
      · simp only [Act.put, List.setIfInBounds_toArray, List.set_cons_zero, List.set_cons_succ, i64_w, i32_w]
        rfl
      refine pure_ (i := 7) (N := some 35) (v := ?_) (a' := ?_) #[true, true, true, true, true, true, true, true, false, false, false, false, false, false, false, false, false, false, false, false, false, false, false, false, false, false, false, false, false] rfl rfl (any_of HT_.out (by kernel_rfl)) (fun _ _ _ h => h) (Or.inl ⟨by rfl, ?_⟩) ?_ ?_
      rotate_left
      · intro w'
        go_simp
        with_reducible rfl
      rotate_left
      · simp only [Act.put, List.setIfInBounds_toArray, List.set_cons_zero, List.set_cons_succ, i64_w, i32_w]
        rfl
      refine pure_ (i := 8) (N := some 36) (v := ?_) (a' := ?_) #[true, true, true, true, true, true, true, true, true, false, false, false, false, false, false, false, false, false, false, false, false, false, false, false, false, false, false, false, false] rfl rfl (any_of HT_.out (by kernel_rfl)) (fun _ _ _ h => h) (Or.inl ⟨by rfl, ?_⟩) ?_ ?_
      rotate_left
      · intro w'
        go_simp
        with_reducible rfl
      rotate_left
      · simp only [Act.put, List.setIfInBounds_toArray, List.set_cons_zero, List.set_cons_succ, i64_w, i32_w]
        rfl
      refine pure_ (i := 9) (N := some 37) (v := ?_) (a' := ?_) #[true, true, true, true, true, true, true, true, true, true, false, false, false, false, false, false, false, false, false, false, false, false, false, false, false, false, false, false, false] rfl rfl (any_of HT_.out (by kernel_rfl)) (fun _ _ _ h => h) (Or.inl ⟨by rfl, ?_⟩) ?_ ?_
      rotate_left
      · intro w'
        go_simp
        with_reducible rfl
      rotate_left
      · simp only [Act.put, List.setIfInBounds_toArray, List.set_cons_zero, List.set_cons_succ, i64_w, i32_w]
        rfl
      refine pure_ (i := 10) (N := some 38) (v := ?_) (a' := ?_) #[true, true, true, true, true, true, true, true, true, true, true, false, false, false, false, false, false, false, false, false, false, false, false, false, false, false, false, false, false] rfl rfl (any_of HT_.out (by kernel_rfl)) (fun _ _ _ h => h) (Or.inl ⟨by rfl, ?_⟩) ?_ ?_
      rotate_left
      · intro w'
        go_simp
        with_reducible rfl
      rotate_left
      · simp only [Act.put, List.setIfInBounds_toArray, List.set_cons_zero, List.set_cons_succ, i64_w, i32_w]
        rfl
      refine pure_ (i := 13) (N := some 41) (v := ?_) (a' := ?_) #[true, true, true, true, true, true, true, true, true, true, true, false, false, true, false, false, false, false, false, false, false, false, false, false, false, false, false, false, false] rfl rfl (any_of HT_.out (by kernel_rfl)) (fun _ _ _ h => h) (Or.inl ⟨by rfl, ?_⟩) ?_ ?_
      rotate_left
      · intro w'
        go_simp
        with_reducible rfl
      rotate_left
      · simp only [Act.put, List.setIfInBounds_toArray, List.set_cons_zero, List.set_cons_succ, i64_w, i32_w]
        rfl
      refine take_ (i := 11) (N := some 39) (v := ?_) (a' := ?_) #[true, true, true, true, true, true, true, true, true, true, true, true, false, true, false, false, false, false, false, false, false, false, false, false, false, false, false, false, false] rfl rfl (take_ofW HT_.out HW_.out (by kernel_rfl)) (fun _ _ _ h => h) (Or.inl ⟨by rfl, ?_⟩) hHeld ?_ ?_
      rotate_left
      · rintro w' ⟨s0, s1, s2, s3, s4, s5, s6, s7, s8, s9, s10, s11, s12, s13⟩
        go_simp
        with_reducible rfl
      rotate_left
      · simp only [Act.put, List.setIfInBounds_toArray, List.set_cons_zero, List.set_cons_succ, i64_w, i32_w]
        rfl
      refine one_ (i := 12) (N := some 40) #[true, true, true, true, true, true, true, true, true, true, true, true, true, true, false, false, false, false, false, false, false, false, false, false, false, false, false, false, false] rfl rfl (one_of HT_.out (by kernel_rfl)) (by decide) (fun K hK => ?_)
      refine goes_ Try.func27 (by kernel_rfl) rfl #[.agg #[.int .i64 r.ep, .int .i64 r.bl, .int .i64 r.nx, .int .i64 r.st, .slice A r.tb.length c, .slice B r.mp.length d]] (by rfl) rfl rfl (by (try simp only [List.map_toArray, List.map_cons, List.map_nil]); first | done | rfl) ?_
      refine (root_Check.calls 2100 r.ep r.bl r.nx r.st (fun k_ => k_ < U6.heap.size) A c r.tb (fun k_ => k_ < U6.heap.size) B d r.mp (rcheck r) U6 (Kd.V_mk HCA.out (Kd.C_F (Kd.heap_int .i64) HA.out)) (Kd.V_mk HCD.out (Kd.C_F (Kd.heap_int .i64) HD.out)) (by have := check_is 0 r (by have := HL.out; omega) (by have := HL.out; omega); rw [Nat.zero_add] at this; exact this)).mono ?_
      rintro ex U7 ⟨rfl, hb⟩
      refine ⟨_, rfl, ?_⟩
      have n_HB := Aside0.mk (below_step HB.out hb)
      have n_HA := Aside0.mk (Kd.C_below HA.out hb)
      have n_HD := Aside0.mk (Kd.C_below HD.out hb)
      have n_HE := Aside0.mk (Kd.C_below HE.out hb)
      have n_HF := Aside0.mk (Kd.C_below HF.out hb)
      have n_HK2 := Aside0.mk (blk_below HK2.out hb)
      have n_HK3 := Aside0.mk (blk_below HK3.out hb)
      have n_HL1 := Aside0.mk (Kd.C_below HL1.out hb)
      have n_HL2 := Aside0.mk (Kd.C_below HL2.out hb)
      clear HB HA HD HE HF HK2 HK3 HL1 HL2
      have HB := n_HB
      have HA := n_HA
      have HD := n_HD
      have HE := n_HE
      have HF := n_HF
      have HK2 := n_HK2
      have HK3 := n_HK3
      have HL1 := n_HL1
      have HL2 := n_HL2
      clear n_HB n_HA n_HD n_HE n_HF n_HK2 n_HK3 n_HL1 n_HL2
      clear hb
      refine hK.out _ _ ⟨Kd.C_string (P := Try.prog) Try.underlying22 Try.underlying5 Try.underlying9 HL1.out, Kd.C_string (P := Try.prog) Try.underlying22 Try.underlying5 Try.underlying9 HL2.out, (blk_cell HK2.out 0).trans rfl, (blk_cell HK2.out 1).trans rfl, (blk_cell HK2.out 2).trans rfl, (blk_cell HK2.out 3).trans rfl, (blk_cell HK2.out 4).trans rfl, (blk_cell HK2.out 5).trans rfl, (blk_cell HK3.out 0).trans rfl, (blk_cell HK3.out 1).trans rfl, (blk_cell HK3.out 2).trans rfl, (blk_cell HK3.out 3).trans rfl, (blk_cell HK3.out 4).trans rfl, (blk_cell HK3.out 5).trans rfl⟩ (fun hHeld => ?_)
      clear hK K
      refine norm_ (a' := ?_) ?_ ?_
      rotate_left
      · show Act.put _ (some 40) _ = _
        simp only [Act.put, List.setIfInBounds_toArray, List.set_cons_zero, List.set_cons_succ, i64_w, i32_w]
        rfl
      refine pure_ (i := 14) (N := some 42) (v := ?_) (a' := ?_) #[true, true, true, true, true, true, true, true, true, true, true, true, true, true, true, false, false, false, false, false, false, false, false, false, false, false, false, false, false] rfl rfl (any_of HT_.out (by kernel_rfl)) (fun _ _ _ h => h) (Or.inl ⟨by rfl, ?_⟩) ?_ ?_
      rotate_left
      · intro w'
        go_simp
        with_reducible rfl
      rotate_left
      · simp only [Act.put, List.setIfInBounds_toArray, List.set_cons_zero, List.set_cons_succ, i64_w, i32_w]
        rfl
      refine pure_ (i := 15) (N := some 43) (v := ?_) (a' := ?_) #[true, true, true, true, true, true, true, true, true, true, true, true, true, true, true, true, false, false, false, false, false, false, false, false, false, false, false, false, false] rfl rfl (any_of HT_.out (by kernel_rfl)) (fun _ _ _ h => h) (Or.inl ⟨by rfl, ?_⟩) ?_ ?_
      rotate_left
      · intro w'
        go_simp
        with_reducible rfl
      rotate_left
      · simp only [Act.put, List.setIfInBounds_toArray, List.set_cons_zero, List.set_cons_succ, i64_w, i32_w]
        rfl
      refine pure_ (i := 16) (N := some 44) (v := ?_) (a' := ?_) #[true, true, true, true, true, true, true, true, true, true, true, true, true, true, true, true, true, false, false, false, false, false, false, false, false, false, false, false, false] rfl rfl (any_of HT_.out (by kernel_rfl)) (fun _ _ _ h => h) (Or.inl ⟨by rfl, ?_⟩) ?_ ?_
      rotate_left
      · intro w'
        go_simp
        with_reducible rfl
      rotate_left
      · simp only [Act.put, List.setIfInBounds_toArray, List.set_cons_zero, List.set_cons_succ, i64_w, i32_w]
        rfl
      refine take_ (i := 17) (N := some 45) (v := ?_) (a' := ?_) #[true, true, true, true, true, true, true, true, true, true, true, true, true, true, true, true, true, true, false, false, false, false, false, false, false, false, false, false, false] rfl rfl (take_ofW HT_.out HW_.out (by kernel_rfl)) (fun _ _ _ h => h) (Or.inl ⟨by rfl, ?_⟩) hHeld ?_ ?_
      rotate_left
      · rintro w' ⟨s0, s1, s2, s3, s4, s5, s6, s7, s8, s9, s10, s11, s12, s13⟩
        go_simp
        with_reducible rfl
      rotate_left
      · simp only [Act.put, List.setIfInBounds_toArray, List.set_cons_zero, List.set_cons_succ, i64_w, i32_w]
        rfl
      refine take_ (i := 18) (N := some 46) (v := ?_) (a' := ?_) #[true, true, true, true, true, true, true, true, true, true, true, true, true, true, true, true, true, true, true, false, false, false, false, false, false, false, false, false, false] rfl rfl (take_ofW HT_.out HW_.out (by kernel_rfl)) (fun _ _ _ h => h) (Or.inl ⟨by rfl, ?_⟩) hHeld ?_ ?_
      rotate_left
      · rintro w' ⟨s0, s1, s2, s3, s4, s5, s6, s7, s8, s9, s10, s11, s12, s13⟩
        go_simp
        with_reducible rfl
      rotate_left
      · simp only [Act.put, List.setIfInBounds_toArray, List.set_cons_zero, List.set_cons_succ, i64_w, i32_w]
        rfl
      refine take_ (i := 20) (N := some 48) (v := ?_) (a' := ?_) #[true, true, true, true, true, true, true, true, true, true, true, true, true, true, true, true, true, true, true, false, true, false, false, false, false, false, false, false, false] rfl rfl (take_ofW HT_.out HW_.out (by kernel_rfl)) (fun _ _ _ h => h) (Or.inl ⟨by rfl, ?_⟩) hHeld ?_ ?_
      rotate_left
      · rintro w' ⟨s0, s1, s2, s3, s4, s5, s6, s7, s8, s9, s10, s11, s12, s13⟩
        go_simp
        with_reducible rfl
      rotate_left
      · simp only [Act.put, List.setIfInBounds_toArray, List.set_cons_zero, List.set_cons_succ, i64_w, i32_w]
        rfl
      refine take_ (i := 21) (N := some 49) (v := ?_) (a' := ?_) #[true, true, true, true, true, true, true, true, true, true, true, true, true, true, true, true, true, true, true, false, true, true, false, false, false, false, false, false, false] rfl rfl (take_ofW HT_.out HW_.out (by kernel_rfl)) (fun _ _ _ h => h) (Or.inl ⟨by rfl, ?_⟩) hHeld ?_ ?_
      rotate_left
      · rintro w' ⟨s0, s1, s2, s3, s4, s5, s6, s7, s8, s9, s10, s11, s12, s13⟩
        go_simp
        with_reducible rfl
      rotate_left
      · simp only [Act.put, List.setIfInBounds_toArray, List.set_cons_zero, List.set_cons_succ, i64_w, i32_w]
        rfl
      refine one_ (i := 19) (N := some 47) #[true, true, true, true, true, true, true, true, true, true, true, true, true, true, true, true, true, true, true, true, true, true, false, false, false, false, false, false, false] rfl rfl (one_of HT_.out (by kernel_rfl)) (by decide) (fun K hK => ?_)
      refine goes_ Try.func28 (by kernel_rfl) rfl #[.agg #[.int .i64 r.ep, .int .i64 r.bl, .int .i64 r.nx, .int .i64 r.st, .slice A r.tb.length c, .slice B r.mp.length d], .agg #[.int .i64 s.ep, .int .i64 s.bl, .int .i64 s.nx, .int .i64 s.st, .slice C s.tb.length e, .slice D s.mp.length f]] (by rfl) rfl rfl (by (try simp only [List.map_toArray, List.map_cons, List.map_nil]); first | done | rfl) ?_
      refine (root_Same.calls 1001 r.ep r.bl r.nx r.st A c r.tb B d r.mp s.ep s.bl s.nx s.st C e s.tb D f s.mp (rsame r s) U7 HA.out HCA.out HD.out HCD.out HE.out HCE.out HF.out HCF.out (Same_is r s (by have := HL.out; omega) (by have := HL.out; omega))).mono ?_
      rintro ex U8 ⟨rfl, hb⟩
      refine ⟨_, rfl, ?_⟩
      have n_HB := Aside0.mk (below_step HB.out hb)
      have n_HA := Aside0.mk (Kd.C_below HA.out hb)
      have n_HD := Aside0.mk (Kd.C_below HD.out hb)
      have n_HE := Aside0.mk (Kd.C_below HE.out hb)
      have n_HF := Aside0.mk (Kd.C_below HF.out hb)
      have n_HK2 := Aside0.mk (blk_below HK2.out hb)
      have n_HK3 := Aside0.mk (blk_below HK3.out hb)
      have n_HL1 := Aside0.mk (Kd.C_below HL1.out hb)
      have n_HL2 := Aside0.mk (Kd.C_below HL2.out hb)
      clear HB HA HD HE HF HK2 HK3 HL1 HL2
      have HB := n_HB
      have HA := n_HA
      have HD := n_HD
      have HE := n_HE
      have HF := n_HF
      have HK2 := n_HK2
      have HK3 := n_HK3
      have HL1 := n_HL1
      have HL2 := n_HL2
      clear n_HB n_HA n_HD n_HE n_HF n_HK2 n_HK3 n_HL1 n_HL2
      clear hb
      refine hK.out _ _ ⟨Kd.C_string (P := Try.prog) Try.underlying22 Try.underlying5 Try.underlying9 HL1.out, Kd.C_string (P := Try.prog) Try.underlying22 Try.underlying5 Try.underlying9 HL2.out, (blk_cell HK2.out 0).trans rfl, (blk_cell HK2.out 1).trans rfl, (blk_cell HK2.out 2).trans rfl, (blk_cell HK2.out 3).trans rfl, (blk_cell HK2.out 4).trans rfl, (blk_cell HK2.out 5).trans rfl, (blk_cell HK3.out 0).trans rfl, (blk_cell HK3.out 1).trans rfl, (blk_cell HK3.out 2).trans rfl, (blk_cell HK3.out 3).trans rfl, (blk_cell HK3.out 4).trans rfl, (blk_cell HK3.out 5).trans rfl⟩ (fun hHeld => ?_)
      clear hK K
      refine norm_ (a' := ?_) ?_ ?_
      rotate_left
      · show Act.put _ (some 47) _ = _
        simp only [Act.put, List.setIfInBounds_toArray, List.set_cons_zero, List.set_cons_succ, i64_w, i32_w]
        rfl
      refine one_ (i := 22) (N := some 50) #[true, true, true, true, true, true, true, true, true, true, true, true, true, true, true, true, true, true, true, true, true, true, true, false, false, false, false, false, false] rfl rfl (one_of HT_.out (by kernel_rfl)) (by decide) (fun K hK => ?_)
      refine goes_ Try.func29 (by kernel_rfl) rfl #[.agg #[.int .i64 r.ep, .int .i64 r.bl, .int .i64 r.nx, .int .i64 r.st, .slice A r.tb.length c, .slice B r.mp.length d], .agg #[.int .i64 s.ep, .int .i64 s.bl, .int .i64 s.nx, .int .i64 s.st, .slice C s.tb.length e, .slice D s.mp.length f]] (by rfl) rfl rfl (by (try simp only [List.map_toArray, List.map_cons, List.map_nil]); first | done | rfl) ?_
      refine (intarsiaref05_Same.calls 1001 r.ep r.bl r.nx r.st A c r.tb B d r.mp s.ep s.bl s.nx s.st C e s.tb D f s.mp (rsame r s) U8 HA.out HCA.out HD.out HCD.out HE.out HCE.out HF.out HCF.out (rSame_is r s (by have := HL.out; omega) (by have := HL.out; omega))).mono ?_
      rintro ex U9 ⟨rfl, hb⟩
      refine ⟨_, rfl, ?_⟩
      have n_HB := Aside0.mk (below_step HB.out hb)
      have n_HA := Aside0.mk (Kd.C_below HA.out hb)
      have n_HD := Aside0.mk (Kd.C_below HD.out hb)
      have n_HE := Aside0.mk (Kd.C_below HE.out hb)
      have n_HF := Aside0.mk (Kd.C_below HF.out hb)
      have n_HK2 := Aside0.mk (blk_below HK2.out hb)
      have n_HK3 := Aside0.mk (blk_below HK3.out hb)
      have n_HL1 := Aside0.mk (Kd.C_below HL1.out hb)
      have n_HL2 := Aside0.mk (Kd.C_below HL2.out hb)
      clear HB HA HD HE HF HK2 HK3 HL1 HL2
      have HB := n_HB
      have HA := n_HA
      have HD := n_HD
      have HE := n_HE
      have HF := n_HF
      have HK2 := n_HK2
      have HK3 := n_HK3
      have HL1 := n_HL1
      have HL2 := n_HL2
      clear n_HB n_HA n_HD n_HE n_HF n_HK2 n_HK3 n_HL1 n_HL2
      clear hb
      refine hK.out _ _ ⟨Kd.C_string (P := Try.prog) Try.underlying22 Try.underlying5 Try.underlying9 HL1.out, Kd.C_string (P := Try.prog) Try.underlying22 Try.underlying5 Try.underlying9 HL2.out, (blk_cell HK2.out 0).trans rfl, (blk_cell HK2.out 1).trans rfl, (blk_cell HK2.out 2).trans rfl, (blk_cell HK2.out 3).trans rfl, (blk_cell HK2.out 4).trans rfl, (blk_cell HK2.out 5).trans rfl, (blk_cell HK3.out 0).trans rfl, (blk_cell HK3.out 1).trans rfl, (blk_cell HK3.out 2).trans rfl, (blk_cell HK3.out 3).trans rfl, (blk_cell HK3.out 4).trans rfl, (blk_cell HK3.out 5).trans rfl⟩ (fun hHeld => ?_)
      clear hK K
      refine norm_ (a' := ?_) ?_ ?_
      rotate_left
      · show Act.put _ (some 50) _ = _
        simp only [Act.put, List.setIfInBounds_toArray, List.set_cons_zero, List.set_cons_succ, i64_w, i32_w]
        rfl
      refine pure_ (i := 23) (N := some 51) (v := ?_) (a' := ?_) #[true, true, true, true, true, true, true, true, true, true, true, true, true, true, true, true, true, true, true, true, true, true, true, true, false, false, false, false, false] rfl rfl (any_of HT_.out (by kernel_rfl)) (fun _ _ _ h => h) (Or.inl ⟨by rfl, ?_⟩) ?_ ?_
      rotate_left
      · intro w'
        go_simp
        with_reducible rfl
      rotate_left
      · simp only [Act.put, List.setIfInBounds_toArray, List.set_cons_zero, List.set_cons_succ, i64_w, i32_w]
        rfl
      refine pure_ (i := 24) (N := some 52) (v := ?_) (a' := ?_) #[true, true, true, true, true, true, true, true, true, true, true, true, true, true, true, true, true, true, true, true, true, true, true, true, true, false, false, false, false] rfl rfl (any_of HT_.out (by kernel_rfl)) (fun _ _ _ h => h) (Or.inl ⟨by rfl, ?_⟩) ?_ ?_
      rotate_left
      · intro w'
        go_simp
        with_reducible rfl
      rotate_left
      · simp only [Act.put, List.setIfInBounds_toArray, List.set_cons_zero, List.set_cons_succ, i64_w, i32_w]
        rfl
      refine pure_ (i := 25) (N := some 53) (v := ?_) (a' := ?_) #[true, true, true, true, true, true, true, true, true, true, true, true, true, true, true, true, true, true, true, true, true, true, true, true, true, true, false, false, false] rfl rfl (any_of HT_.out (by kernel_rfl)) (fun _ _ _ h => h) (Or.inl ⟨by rfl, ?_⟩) ?_ ?_
      rotate_left
      · intro w'
        go_simp
        with_reducible rfl
      rotate_left
      · simp only [Act.put, List.setIfInBounds_toArray, List.set_cons_zero, List.set_cons_succ, i64_w, i32_w]
        rfl
      refine one_ (i := 26) (N := some 54) #[true, true, true, true, true, true, true, true, true, true, true, true, true, true, true, true, true, true, true, true, true, true, true, true, true, true, true, false, false] rfl rfl (one_of HT_.out (by kernel_rfl)) (by decide) (fun K hK => ?_)
      refine goes_ Try.func24 (by kernel_rfl) rfl #[] (by rfl) rfl rfl (by (try simp only [List.map_toArray, List.map_cons, List.map_nil]); first | done | rfl) ?_
      refine (awake_calls U9).mono ?_
      rintro ex U10 ⟨rfl, hb⟩
      refine ⟨_, rfl, ?_⟩
      have n_HB := Aside0.mk (below_step HB.out hb)
      have n_HA := Aside0.mk (Kd.C_below HA.out hb)
      have n_HD := Aside0.mk (Kd.C_below HD.out hb)
      have n_HE := Aside0.mk (Kd.C_below HE.out hb)
      have n_HF := Aside0.mk (Kd.C_below HF.out hb)
      have n_HK2 := Aside0.mk (blk_below HK2.out hb)
      have n_HK3 := Aside0.mk (blk_below HK3.out hb)
      have n_HL1 := Aside0.mk (Kd.C_below HL1.out hb)
      have n_HL2 := Aside0.mk (Kd.C_below HL2.out hb)
      clear HB HA HD HE HF HK2 HK3 HL1 HL2
      have HB := n_HB
      have HA := n_HA
      have HD := n_HD
      have HE := n_HE
      have HF := n_HF
      have HK2 := n_HK2
      have HK3 := n_HK3
      have HL1 := n_HL1
      have HL2 := n_HL2
      clear n_HB n_HA n_HD n_HE n_HF n_HK2 n_HK3 n_HL1 n_HL2
      clear hb
      refine hK.out _ _ ⟨Kd.C_string (P := Try.prog) Try.underlying22 Try.underlying5 Try.underlying9 HL1.out, Kd.C_string (P := Try.prog) Try.underlying22 Try.underlying5 Try.underlying9 HL2.out, (blk_cell HK2.out 0).trans rfl, (blk_cell HK2.out 1).trans rfl, (blk_cell HK2.out 2).trans rfl, (blk_cell HK2.out 3).trans rfl, (blk_cell HK2.out 4).trans rfl, (blk_cell HK2.out 5).trans rfl, (blk_cell HK3.out 0).trans rfl, (blk_cell HK3.out 1).trans rfl, (blk_cell HK3.out 2).trans rfl, (blk_cell HK3.out 3).trans rfl, (blk_cell HK3.out 4).trans rfl, (blk_cell HK3.out 5).trans rfl⟩ (fun hHeld => ?_)
      clear hK K
      refine norm_ (a' := ?_) ?_ ?_
      rotate_left
      · show Act.put _ (some 54) _ = _
        simp only [Act.put, List.setIfInBounds_toArray, List.set_cons_zero, List.set_cons_succ, i64_w, i32_w]
        rfl
      refine pure_ (i := 27) (N := some 55) (v := ?_) (a' := ?_) #[true, true, true, true, true, true, true, true, true, true, true, true, true, true, true, true, true, true, true, true, true, true, true, true, true, true, true, true, false] rfl rfl (any_of HT_.out (by kernel_rfl)) (fun _ _ _ h => h) (Or.inl ⟨by rfl, ?_⟩) ?_ ?_
      rotate_left
      · intro w'
        go_simp
        with_reducible rfl
      rotate_left
      · simp only [Act.put, List.setIfInBounds_toArray, List.set_cons_zero, List.set_cons_succ, i64_w, i32_w]
        rfl
      refine pure_ (i := 28) (N := some 4) (v := ?_) (a' := ?_) #[true, true, true, true, true, true, true, true, true, true, true, true, true, true, true, true, true, true, true, true, true, true, true, true, true, true, true, true, true] rfl rfl (any_of HT_.out (by kernel_rfl)) (fun _ _ _ h => h) (Or.inl ⟨by rfl, ?_⟩) ?_ ?_
      rotate_left
      · intro w'
        go_simp
        with_reducible rfl
      rotate_left
      · simp only [Act.put, List.setIfInBounds_toArray, List.set_cons_zero, List.set_cons_succ, i64_w, i32_w]
        rfl
      refine done_ (done_of HT_.out (by kernel_rfl)) ?_
      go_wp2
      go_ret
      exact ⟨rfl, HB.out⟩
    · rw [decide_eq_false hl2]
      clear hl2
      go_wp2_with fail
      go_at_call 24
      refine (awake_calls U3).mono ?_
      rintro ex VA ⟨rfl, hb⟩
      have HBA := Aside0.mk (below_step HB.out hb)
      clear hb
      go_wp2
      go_ret
      exact ⟨rfl, HBA.out⟩
  · rw [decide_eq_false hl]
    clear hl
    go_wp2_with fail
    go_at_call 24
    refine (awake_calls U2).mono ?_
    rintro ex VA ⟨rfl, hb⟩
    have HBA := Aside0.mk (below_step HB.out hb)
    clear hb
    go_wp2
    go_ret
    exact ⟨rfl, HBA.out⟩
end Go.Proofs.Ytgflafifemhmgaa.MRt
