/- The walk of BucketGrows. -/
import Derived.Test.YtgbjinonlfhciaaGrowsQ
import Derived.Test.YtgbjinonlfhciaaHandE14
namespace Go.Proofs.Ytgbjinonlfhciaa.MBk
open Go.RowKit Go.Proofs.Ytgbjinonlfhciaa.BkV Go.Proofs.YtgbjinonlfhciaaW.PrintWords Go.Proofs.YtgbjinonlfhciaaW.PrintLast Go.Proofs.YtgbjinonlfhciaaW.PrintMore
set_option linter.unusedVariables false
set_option linter.unusedSimpArgs false
theorem below_step0 {u v x : World} (h : Below u.heap.size u v) (h2 : Below v.heap.size v x) : Below u.heap.size u x := below_step h h2
def Grows.T9 : Bool × List (List Nat × List Nat) := (true, [([], []), ([], []), ([], []), ([1, 2], [1, 2]), ([3], [3]), ([0, 4], [0, 4]), ([5], [5]), ([6], [6]), ([6], [6]), ([7, 5, 0, 1, 2, 3, 4, 5, 6, 7], [7])])
def Grows.B9 : List Nat := [0, 0, 0, 6, 14, 31, 63, 127, 127, 255]
theorem Grows.tab9 : rtab .any (opsOf Try.f3 9) = Grows.T9 := by kernel_rfl
theorem Grows.bits9 : waitsOk Grows.T9.2 Grows.B9 = true := by kernel_rfl
def Grows.T10 : Bool × List (List Nat × List Nat) := (true, [([], []), ([], []), ([], []), ([2], [2]), ([3], [3]), ([], []), ([4, 5], [4, 5]), ([1, 6], [1, 6]), ([7], [7]), ([0, 8], [0, 8]), ([9], [9]), ([10], [10]), ([10], [10]), ([11, 9, 0, 1, 2, 3, 4, 5, 6, 7, 8, 9, 10, 11], [11])])
def Grows.B10 : List Nat := [0, 0, 0, 4, 12, 0, 60, 126, 254, 511, 1023, 2047, 2047, 4095]
theorem Grows.tab10 : rtab .any (opsOf Try.f3 10) = Grows.T10 := by kernel_rfl
theorem Grows.bits10 : waitsOk Grows.T10.2 Grows.B10 = true := by kernel_rfl
def Grows.T14 : Bool × List (List Nat × List Nat) := (true, [([], []), ([], []), ([], []), ([1, 2], [1, 2]), ([3], [3]), ([0, 4], [0, 4]), ([5], [5]), ([6], [6]), ([6], [6]), ([], []), ([9, 7, 5, 0, 1, 2, 3, 4, 5, 6, 7, 9], [7, 9]), ([8, 10, 0, 1, 2, 3, 4, 5, 6, 7, 8, 9, 10], [8])])
def Grows.B14 : List Nat := [0, 0, 0, 6, 14, 31, 63, 127, 127, 0, 767, 2047]
theorem Grows.tab14 : rtab .any (opsOf Try.f3 14) = Grows.T14 := by kernel_rfl
theorem Grows.bits14 : waitsOk Grows.T14.2 Grows.B14 = true := by kernel_rfl
def Grows.T15 : Bool × List (List Nat × List Nat) := (true, [([], []), ([], []), ([], []), ([1, 2], [1, 2]), ([3], [3]), ([0, 4], [0, 4]), ([5], [5]), ([6, 5], [6]), ([7], [7]), ([7, 8], [7, 8])])
def Grows.B15 : List Nat := [0, 0, 0, 6, 14, 31, 63, 127, 255, 511]
theorem Grows.tab15 : rtab .any (opsOf Try.f3 15) = Grows.T15 := by kernel_rfl
theorem Grows.bits15 : waitsOk Grows.T15.2 Grows.B15 = true := by kernel_rfl
def Grows.T22 : Bool × List (List Nat × List Nat) := (true, [([], []), ([], []), ([], []), ([1, 2], [1, 2]), ([3], [3]), ([0, 4], [0, 4]), ([5], [5]), ([6], [6]), ([6], [6]), ([7, 5, 0, 1, 2, 3, 4, 5, 6, 7], [7])])
def Grows.B22 : List Nat := [0, 0, 0, 6, 14, 31, 63, 127, 127, 255]
theorem Grows.tab22 : rtab .any (opsOf Try.f3 22) = Grows.T22 := by kernel_rfl
theorem Grows.bits22 : waitsOk Grows.T22.2 Grows.B22 = true := by kernel_rfl
set_option maxHeartbeats 16000000 in
set_option maxRecDepth 100000 in
theorem BucketGrows_calls (xs : List S27) (A : Option Addr) (c : Nat) (w : World) (hC : Kd.C k27 w A xs.length xs) (hc : xs.length ≤ c) :
    Calls Try.prog 3 #[.slice A xs.length c] w fun e w' => e = .returned (.bool true) ∧ Below w.heap.size w w' := by
  have HC := Aside0.mk hC
  have HCc := Aside0.mk hc
  clear hC hc
  go_enter Try.func3, Try.ntmps3
  have HB := Aside0.mk (Below.refl w.heap.size w)
  by_cases h40 : 40 < xs.length
  · have b0 : decide ((40 : Int) < (xs.length : Int)) = true := decide_eq_true (by omega)
    have b0n : decide (40 < xs.length) = true := decide_eq_true h40
    clear h40
    go_wp2_with fail
    go_at_call 7
    refine (awake_calls w).mono ?_
    rintro ex VA ⟨rfl, hb⟩
    clear HB
    have HBA := Aside0.mk hb
    clear hb
    go_wp2_with fail
    go_ret
    exact ⟨rfl, HBA.out⟩
  have b0 : decide ((40 : Int) < (xs.length : Int)) = false := decide_eq_false (by omega)
  have b0n : decide (40 < xs.length) = false := decide_eq_false h40
  have HL := Aside0.mk (show xs.length ≤ 40 by omega)
  clear h40
  go_upto_region 4 with fail
  clear b0 b0n
  have hW0 := below_alloc (Below.refl w.heap.size w) (Obj.cells #[Value.int IntKind.i64 0, Value.int IntKind.i64 0, Value.slice none 0 0] 25)
  have hN0 := blk_new w (Obj.cells #[Value.int IntKind.i64 0, Value.int IntKind.i64 0, Value.slice none 0 0] 25)
  have hS0 : (w.alloc (Obj.cells #[Value.int IntKind.i64 0, Value.int IntKind.i64 0, Value.slice none 0 0] 25)).heap.size = w.heap.size + 1 := World.size_alloc _ _
  obtain ⟨g, hg⟩ : ∃ g, g = w.heap.size := ⟨_, rfl⟩
  rw [← hg] at hN0 hS0 ⊢
  generalize w.alloc (Obj.cells #[Value.int IntKind.i64 0, Value.int IntKind.i64 0, Value.slice none 0 0] 25) = W1 at hW0 hN0 hS0 ⊢
  have hW1 := below_alloc (Below.refl W1.heap.size W1) (Obj.cells #[Value.int IntKind.i64 0, Value.int IntKind.i64 0, Value.slice none 0 0] 25)
  have hN1 := blk_new W1 (Obj.cells #[Value.int IntKind.i64 0, Value.int IntKind.i64 0, Value.slice none 0 0] 25)
  have hS1 : (W1.alloc (Obj.cells #[Value.int IntKind.i64 0, Value.int IntKind.i64 0, Value.slice none 0 0] 25)).heap.size = W1.heap.size + 1 := World.size_alloc _ _
  rw [hS0] at hN1 hS1
  generalize W1.alloc (Obj.cells #[Value.int IntKind.i64 0, Value.int IntKind.i64 0, Value.slice none 0 0] 25) = W2 at hW1 hN1 hS1 ⊢
  clear HB
  have HB := Aside0.mk (below_step hW0 hW1)
  have K3 := Aside0.mk (blk_below hN0 hW1)
  have K4 := Aside0.mk hN1
  have HG := Aside0.mk (show w.heap.size ≤ g by omega)
  obtain ⟨B0, hB0⟩ : ∃ b, b = W2.heap.size := ⟨_, rfl⟩
  have HZ := Aside0.mk (show g + 1 < B0 by omega)
  have HSZ := Aside0.mk (show B0 ≤ W2.heap.size by omega)
  have HWB := Aside0.mk (show w.heap.size ≤ B0 by omega)
  have HDUM := Aside0.mk True.intro
  clear HDUM hW0 hN0 hS0 hW1 hN1 hS1 hg hB0
  go_wp2_with fail
  go_loopw [5] (fun i wr => ∃ (j : Nat) (a b : List S27) (TA : Option Addr) (cA : Nat) (TB : Option Addr) (cB : Nat), j ≤ xs.length ∧ i = .int .i64 (j : Int) ∧ GrowI xs j a b ∧ Kd.R k27 27 wr B0 (fun _ => True) (.slice TA a.length cA) a ∧ Kd.R k27 27 wr B0 (fun _ => True) (.slice TB b.length cB) b ∧ wr.heap[g]? = some (.cells #[Value.int IntKind.i64 0, Value.int IntKind.i64 0, Value.slice TA a.length cA] 25 (0, 0)) ∧ wr.heap[g + 1]? = some (.cells #[Value.int IntKind.i64 0, Value.int IntKind.i64 0, Value.slice TB b.length cB] 25 (0, 0)) ∧ Below w.heap.size w wr ∧ B0 ≤ wr.heap.size)
    (fun i _ => xs.length - (intOf i).toNat)
  case atStart => exact ⟨0, [], [], none, 0, none, 0, Nat.zero_le _, rfl, grow_start xs, Kd.R_nil _ _ _ _ _, Kd.R_nil _ _ _ _ _, K3.out, K4.out, HB.out, HSZ.out⟩
  case round =>
    clear HB K3 K4 HSZ
    obtain ⟨j, a, b, TA, cA, TB, cB, hj, rfl, hgi, hra, hrb, hk3, hk4, hb, hsz⟩ := hrel
    have HGI := Aside0.mk hgi
    have HRA := Aside0.mk hra
    have HRB := Aside0.mk hrb
    have K3 := Aside0.mk hk3
    have K4 := Aside0.mk hk4
    have HB := Aside0.mk hb
    have HSZ := Aside0.mk hsz
    clear hgi hra hrb hk3 hk4 hb hsz
    by_cases hlt : j < xs.length
    · skip
      have b1 : decide ((j : Int) < (xs.length : Int)) = true := decide_eq_true (by omega)
      have b1n : decide (j < xs.length) = true := decide_eq_true hlt
      have HLT := Aside0.mk hlt
      have hmt : xs.length - 1 - j < xs.length := by omega
      obtain ⟨ad, e1, hx0, hx1⟩ := at_T27 HC.out (j : Int) (by omega) (by omega)
      obtain ⟨ad2, e2, hy0, hy1⟩ := at_T27 HC.out ((xs.length - 1 - j : Nat) : Int) (by omega) (by omega)
      rw [e1] at e2
      injection e2 with e2
      subst e2
      subst e1
      rw [rd27 xs j hlt, Int.toNat_natCast] at hx0 hx1
      rw [rd27 xs (xs.length - 1 - j) hmt, Int.toNat_natCast] at hy0 hy1
      have hst := fun hs => grow_step HGI.out hlt hs
      generalize xs[j] = x at hx0 hx1 hst
      generalize xs[xs.length - 1 - j] = y at hy0 hy1 hst
      have HX0 := Aside0.mk hx0
      have HX1 := Aside0.mk hx1
      have HY0 := Aside0.mk hy0
      have HY1 := Aside0.mk hy1
      have HST := Aside0.mk hst
      have p0 := eq_true (show 0 ≤ (j : Int) by omega)
      have p1 := eq_true (show (j : Int) < (xs.length : Int) by omega)
      have p5 := eq_true hlt
      clear hlt hst hy0 hy1
      replace hx0 := (HB.out.cell (World.block_lt_of_cell? w _ hx0)).trans hx0
      replace hx1 := (HB.out.cell (World.block_lt_of_cell? w _ hx1)).trans hx1
      by_cases s0 : 20 < x.f0.size
      · have d0 : decide ((20 : Int) < (x.f0.size : Int)) = true := decide_eq_true (by omega)
        have d0n : decide (20 < x.f0.size) = true := decide_eq_true s0
        clear s0 hmt
        go_wp2_with fail
        go_at_call 7
        refine (awake_calls wr).mono ?_
        rintro ex VA ⟨rfl, hb⟩
        have HBA := Aside0.mk (below_step HB.out hb)
        clear hb
        go_wp2_with fail
        go_ret
        exact ⟨rfl, HBA.out⟩
      have d0 : decide ((20 : Int) < (x.f0.size : Int)) = false := decide_eq_false (by omega)
      have d0n : decide (20 < x.f0.size) = false := decide_eq_false s0
      by_cases s1 : 20 < x.f1.size
      · have d1 : decide ((20 : Int) < (x.f1.size : Int)) = true := decide_eq_true (by omega)
        have d1n : decide (20 < x.f1.size) = true := decide_eq_true s1
        clear s0 s1 hmt
        go_wp2_with fail
        go_at_call 7
        refine (awake_calls wr).mono ?_
        rintro ex VA ⟨rfl, hb⟩
        have HBA := Aside0.mk (below_step HB.out hb)
        clear hb
        go_wp2_with fail
        go_ret
        exact ⟨rfl, HBA.out⟩
      have d1 : decide ((20 : Int) < (x.f1.size : Int)) = false := decide_eq_false (by omega)
      have d1n : decide (20 < x.f1.size) = false := decide_eq_false s1
      have HSM := Aside0.mk (show Small x from ⟨by omega, by omega⟩)
      have HLA := Aside0.mk (show a.length ≤ 40 ∧ b.length ≤ 40 by have := HGI.out.1.2.2; have := HGI.out.2.1.2.2; have := HL.out; omega)
      clear s0 s1 hmt
      go_upto_region 9 with fail
      clear b1 b1n d0 d0n d1 d1n hx0 hx1
      have hD := below_drew1 (Below.refl wr.heap.size wr)
      have n_HB := Aside0.mk (below_step HB.out hD)
      have n_HSZ := Aside0.mk (Nat.le_trans HSZ.out hD.size)
      have n_K3 := Aside0.mk (blk_below K3.out hD)
      have n_K4 := Aside0.mk (blk_below K4.out hD)
      have n_HRA := Aside0.mk (Kd.R_below HRA.out hD)
      have n_HRB := Aside0.mk (Kd.R_below HRB.out hD)
      clear HB HSZ K3 K4 HRA HRB
      have HB := n_HB
      have HSZ := n_HSZ
      have K3 := n_K3
      have K4 := n_K4
      have HRA := n_HRA
      have HRB := n_HRB
      clear n_HB n_HSZ n_K3 n_K4 n_HRA n_HRB
      clear hD
      refine start_ (n := 10) (S := fun w' => w'.cell? ⟨g, 0, none⟩ = some (.int .i64 0) ∧ w'.cell? ⟨g, 1, none⟩ = some (.int .i64 0) ∧ w'.cell? ⟨g, 2, none⟩ = some (.slice TA a.length cA) ∧ w'.cell? (ad.add (j * 2)) = some (.string x.f0) ∧ w'.cell? ⟨(ad.add (j * 2)).block, (ad.add (j * 2)).off + 1, none⟩ = some (.string x.f1)) (ds := [9]) #[false, false, false, false, false, false, false, false, false, false] (by kernel_rfl) rfl rfl ⟨(blk_cell K3.out 0).trans rfl, (blk_cell K3.out 1).trans rfl, (blk_cell K3.out 2).trans rfl, (HB.out.cell (World.block_lt_of_cell? w _ HX0.out)).trans HX0.out, (HB.out.cell (World.block_lt_of_cell? w _ HX1.out)).trans HX1.out⟩ (fun hHeld => ?_); refine with_tabW Grows.tab9 Grows.bits9 (fun HT_ HW_ => ?_)
      generalize wr.drew = V0 at HSZ HRA HRB HB K3 K4 hHeld ⊢
      refine take_ (i := 0) (N := some 40) (v := ?_) (a' := ?_) #[true, false, false, false, false, false, false, false, false, false] rfl rfl (take_ofW HT_.out HW_.out (by kernel_rfl)) (fun _ _ _ h => h) (Or.inl ⟨by rfl, ?_⟩) hHeld ?_ ?_
      rotate_left
      · rintro w' ⟨s0, s1, s2, s3, s4⟩
        go_simp
        with_reducible rfl
      rotate_left
      · simp only [Act.put, List.setIfInBounds_toArray, List.set_cons_zero, List.set_cons_succ, i64_w, i32_w]
        rfl
      refine pure_ (i := 1) (N := some 41) (v := ?_) (a' := ?_) #[true, true, false, false, false, false, false, false, false, false] rfl rfl (any_of HT_.out (by kernel_rfl)) (fun _ _ _ h => h) (Or.inl ⟨by rfl, ?_⟩) ?_ ?_
      rotate_left
      · intro w'
        go_simp
        with_reducible rfl
      rotate_left
      · simp only [Act.put, List.setIfInBounds_toArray, List.set_cons_zero, List.set_cons_succ, i64_w, i32_w]
        rfl
      refine pure_ (i := 2) (N := some 42) (v := ?_) (a' := ?_) #[true, true, true, false, false, false, false, false, false, false] rfl rfl (any_of HT_.out (by kernel_rfl)) (fun _ _ _ h => h) (Or.inl ⟨by rfl, ?_⟩) ?_ ?_
      rotate_left
      · intro w'
        go_simp
        with_reducible rfl
      rotate_left
      · simp only [Act.put, List.setIfInBounds_toArray, List.set_cons_zero, List.set_cons_succ, i64_w, i32_w]
        rfl
      refine pure_ (i := 3) (N := some 43) (v := ?_) (a' := ?_) #[true, true, true, true, false, false, false, false, false, false] rfl rfl (any_of HT_.out (by kernel_rfl)) (fun _ _ _ h => h) (Or.inl ⟨by rfl, ?_⟩) ?_ ?_
      rotate_left
      · intro w'
        go_simp
        with_reducible rfl
      rotate_left
      · simp only [Act.put, List.setIfInBounds_toArray, List.set_cons_zero, List.set_cons_succ, i64_w, i32_w]
        rfl
      refine take_ (i := 4) (N := some 44) (v := ?_) (a' := ?_) #[true, true, true, true, true, false, false, false, false, false] rfl rfl (take_ofW HT_.out HW_.out (by kernel_rfl)) (fun _ _ _ h => h) (Or.inl ⟨by rfl, ?_⟩) hHeld ?_ ?_
      rotate_left
      · rintro w' ⟨s0, s1, s2, s3, s4⟩
        go_simp
        with_reducible rfl
      rotate_left
      · simp only [Act.put, List.setIfInBounds_toArray, List.set_cons_zero, List.set_cons_succ, i64_w, i32_w]
        rfl
      refine one_ (i := 5) (N := some 45) #[true, true, true, true, true, true, false, false, false, false] rfl rfl (one_of HT_.out (by kernel_rfl)) (by decide) (fun K hK => ?_)
      refine goes_ Try.func8 (by kernel_rfl) rfl #[.agg #[.int .i64 0, .int .i64 0, .slice TA a.length cA], .agg #[.string x.f0, .string x.f1]] (by rfl) rfl rfl (by (try simp only [List.map_toArray, List.map_cons, List.map_nil]); first | done | rfl) ?_
      refine (bucket_Add 0 0 a TA cA x V0 (Kd.R_reads' HRA.out).2.2 (Kd.R_reads' HRA.out).2.1 (by have := HLA.out.1; omega)).mono ?_
      rintro ex V1 ⟨v, rfl, hv, hb⟩
      refine ⟨_, rfl, ?_⟩
      obtain ⟨TA1, cA1, rfl⟩ := Kd.R_slice hv
      have HV := Aside0.mk (Kd.R_lower hv HSZ.out)
      clear hv
      have n_HB := Aside0.mk (below_step HB.out hb)
      have n_HSZ := Aside0.mk (Nat.le_trans HSZ.out hb.size)
      have n_K3 := Aside0.mk (blk_below K3.out hb)
      have n_K4 := Aside0.mk (blk_below K4.out hb)
      have n_HRA := Aside0.mk (Kd.R_below HRA.out hb)
      have n_HRB := Aside0.mk (Kd.R_below HRB.out hb)
      clear HB HSZ K3 K4 HRA HRB
      have HB := n_HB
      have HSZ := n_HSZ
      have K3 := n_K3
      have K4 := n_K4
      have HRA := n_HRA
      have HRB := n_HRB
      clear n_HB n_HSZ n_K3 n_K4 n_HRA n_HRB
      clear hb
      refine hK.out _ _ ⟨(blk_cell K3.out 0).trans rfl, (blk_cell K3.out 1).trans rfl, (blk_cell K3.out 2).trans rfl, (HB.out.cell (World.block_lt_of_cell? w _ HX0.out)).trans HX0.out, (HB.out.cell (World.block_lt_of_cell? w _ HX1.out)).trans HX1.out⟩ (fun hHeld => ?_)
      clear hK K
      refine norm_ (a' := ?_) ?_ ?_
      rotate_left
      · show Act.put _ (some 45) _ = _
        simp only [Act.put, List.setIfInBounds_toArray, List.set_cons_zero, List.set_cons_succ, i64_w, i32_w]
        rfl
      refine pure_ (i := 6) (N := some 39) (v := ?_) (a' := ?_) #[true, true, true, true, true, true, true, false, false, false] rfl rfl (any_of HT_.out (by kernel_rfl)) (fun _ _ _ h => h) (Or.inl ⟨by rfl, ?_⟩) ?_ ?_
      rotate_left
      · intro w'
        go_simp
        with_reducible rfl
      rotate_left
      · simp only [Act.put, List.setIfInBounds_toArray, List.set_cons_zero, List.set_cons_succ, i64_w, i32_w]
        rfl
      refine pure_ (i := 7) (N := some 46) (v := ?_) (a' := ?_) #[true, true, true, true, true, true, true, true, false, false] rfl rfl (any_of HT_.out (by kernel_rfl)) (fun _ _ _ h => h) (Or.inl ⟨by rfl, ?_⟩) ?_ ?_
      rotate_left
      · intro w'
        go_simp
        with_reducible rfl
      rotate_left
      · simp only [Act.put, List.setIfInBounds_toArray, List.set_cons_zero, List.set_cons_succ, i64_w, i32_w]
        rfl
      refine pure_ (i := 8) (N := some 47) (v := ?_) (a' := ?_) #[true, true, true, true, true, true, true, true, true, false] rfl rfl (any_of HT_.out (by kernel_rfl)) (fun _ _ _ h => h) (Or.inl ⟨by rfl, ?_⟩) ?_ ?_
      rotate_left
      · intro w'
        go_simp
        with_reducible rfl
      rotate_left
      · simp only [Act.put, List.setIfInBounds_toArray, List.set_cons_zero, List.set_cons_succ, i64_w, i32_w]
        rfl
      refine last_ (i := 9) (N := none) #[true, true, true, true, true, true, true, true, true, true] rfl rfl (one_of HT_.out (by kernel_rfl)) (by decide) (fun K hK => ?_)
      have c0 := blk_cell K3.out 0
      have c1 := blk_cell K3.out 1
      have c2 := blk_cell K3.out 2
      have f0 := blk_frozen K3.out 0
      have f1 := blk_frozen K3.out 1
      have f2 := blk_frozen K3.out 2
      refine skip_step (w1 := put3 V1 g (Value.int IntKind.i64 0) (Value.int IntKind.i64 0) (Value.slice TA1 (addT a x).1.length cA1)) (by rfl) rfl (by first | (go_simp; done) | (go_simp; rfl)) ?_
      clear c0 c1 c2 f0 f1 f2
      refine hK.out _ _ ?_
      clear hK K
      refine done_ (done_of HT_.out (by kernel_rfl)) ?_
      clear hHeld HT_ HW_
      clear HRA
      have hpb := put3_below (Below.refl w.heap.size V1) (show w.heap.size ≤ g by have := HG.out; omega) (Value.int IntKind.i64 0) (Value.int IntKind.i64 0) (Value.slice TA1 (addT a x).1.length cA1)
      have nB := Aside0.mk (HB.out.trans hpb)
      have nS := Aside0.mk (Nat.le_trans HSZ.out hpb.size)
      have nT := Aside0.mk (put3_heap K3.out (Value.int IntKind.i64 0) (Value.int IntKind.i64 0) (Value.slice TA1 (addT a x).1.length cA1))
      have nO := Aside0.mk ((put3_far V1 g (Value.int IntKind.i64 0) (Value.int IntKind.i64 0) (Value.slice TA1 (addT a x).1.length cA1) (show g + 1 ≠ g by omega)).trans K4.out)
      have n_HRA := Aside0.mk (Kd.R_mono (Kd.R_step (Kd.R_bound HV.out) (fun k hk _ => put3_far V1 g (Value.int IntKind.i64 0) (Value.int IntKind.i64 0) (Value.slice TA1 (addT a x).1.length cA1) (by have := hk.2.1; have := HZ.out; omega))) (ok' := fun _ => True) (fun _ _ => trivial))
      have n_HRB := Aside0.mk (Kd.R_mono (Kd.R_step (Kd.R_bound HRB.out) (fun k hk _ => put3_far V1 g (Value.int IntKind.i64 0) (Value.int IntKind.i64 0) (Value.slice TA1 (addT a x).1.length cA1) (by have := hk.2.1; have := HZ.out; omega))) (ok' := fun _ => True) (fun _ _ => trivial))
      clear hpb HB HSZ K3 K4 HV HRB
      generalize put3 V1 g (Value.int IntKind.i64 0) (Value.int IntKind.i64 0) (Value.slice TA1 (addT a x).1.length cA1) = V2 at nB nS nT nO n_HRA n_HRB ⊢
      have HB := nB
      have HSZ := nS
      have K3 := nT
      have K4 := nO
      have HRA := n_HRA
      have HRB := n_HRB
      clear nB nS nT nO n_HRA n_HRB
      have hw1 : wrap64 ((xs.length : Int) - 1) = ((xs.length - 1 : Nat) : Int) := by unfold wrap64; have := HL.out; have := HLT.out; omega
      have hw2 : wrap64 (((xs.length - 1 : Nat) : Int) - (j : Int)) = ((xs.length - 1 - j : Nat) : Int) := by unfold wrap64; have := HL.out; have := HLT.out; omega
      have r0 := eq_true (show 0 ≤ ((xs.length - 1 - j : Nat) : Int) by omega)
      have r1 := eq_true (show ((xs.length - 1 - j : Nat) : Int) < (xs.length : Int) by have := HLT.out; omega)
      have r5 := eq_true (show xs.length - 1 - j < xs.length by have := HLT.out; omega)
      go_upto_region 10 with fail
      have hD := below_drew1 (Below.refl V2.heap.size V2)
      have n_HB := Aside0.mk (below_step HB.out hD)
      have n_HSZ := Aside0.mk (Nat.le_trans HSZ.out hD.size)
      have n_K3 := Aside0.mk (blk_below K3.out hD)
      have n_K4 := Aside0.mk (blk_below K4.out hD)
      have n_HRA := Aside0.mk (Kd.R_below HRA.out hD)
      have n_HRB := Aside0.mk (Kd.R_below HRB.out hD)
      clear HB HSZ K3 K4 HRA HRB
      have HB := n_HB
      have HSZ := n_HSZ
      have K3 := n_K3
      have K4 := n_K4
      have HRA := n_HRA
      have HRB := n_HRB
      clear n_HB n_HSZ n_K3 n_K4 n_HRA n_HRB
      clear hD
      refine start_ (n := 14) (S := fun w' => w'.cell? ⟨g + 1, 0, none⟩ = some (.int .i64 0) ∧ w'.cell? ⟨g + 1, 1, none⟩ = some (.int .i64 0) ∧ w'.cell? ⟨g + 1, 2, none⟩ = some (.slice TB b.length cB) ∧ w'.cell? (ad.add ((xs.length - 1 - j) * 2)) = some (.string y.f0) ∧ w'.cell? ⟨(ad.add ((xs.length - 1 - j) * 2)).block, (ad.add ((xs.length - 1 - j) * 2)).off + 1, none⟩ = some (.string y.f1)) (ds := [13]) #[false, false, false, false, false, false, false, false, false, false, false, false, false, false] (by kernel_rfl) rfl rfl ⟨(blk_cell K4.out 0).trans rfl, (blk_cell K4.out 1).trans rfl, (blk_cell K4.out 2).trans rfl, (HB.out.cell (World.block_lt_of_cell? w _ HY0.out)).trans HY0.out, (HB.out.cell (World.block_lt_of_cell? w _ HY1.out)).trans HY1.out⟩ (fun hHeld => ?_); refine with_tabW Grows.tab10 Grows.bits10 (fun HT_ HW_ => ?_)
      generalize V2.drew = V3 at HSZ HRA HRB HB K3 K4 hHeld ⊢
      refine take_ (i := 0) (N := some 49) (v := ?_) (a' := ?_) #[true, false, false, false, false, false, false, false, false, false, false, false, false, false] rfl rfl (take_ofW HT_.out HW_.out (by kernel_rfl)) (fun _ _ _ h => h) (Or.inl ⟨by rfl, ?_⟩) hHeld ?_ ?_
      rotate_left
      · rintro w' ⟨s0, s1, s2, s3, s4⟩
        go_simp
        with_reducible rfl
      rotate_left
      · simp only [Act.put, List.setIfInBounds_toArray, List.set_cons_zero, List.set_cons_succ, i64_w, i32_w]
        rfl
      refine pure_ (i := 1) (N := some 50) (v := ?_) (a' := ?_) #[true, true, false, false, false, false, false, false, false, false, false, false, false, false] rfl rfl (any_of HT_.out (by kernel_rfl)) (fun _ _ _ h => h) (Or.inl ⟨by rfl, ?_⟩) ?_ ?_
      rotate_left
      · intro w'
        go_simp
        with_reducible rfl
      rotate_left
      · simp only [Act.put, List.setIfInBounds_toArray, List.set_cons_zero, List.set_cons_succ, i64_w, i32_w]
        rfl
      refine pure_ (i := 2) (N := some 51) (v := ?_) (a' := ?_) #[true, true, true, false, false, false, false, false, false, false, false, false, false, false] rfl rfl (any_of HT_.out (by kernel_rfl)) (fun _ _ _ h => h) (Or.inl ⟨by rfl, ?_⟩) ?_ ?_
      rotate_left
      · intro w'
        go_simp
        with_reducible rfl
      rotate_left
      · simp only [Act.put, List.setIfInBounds_toArray, List.set_cons_zero, List.set_cons_succ, i64_w, i32_w]
        rfl
      refine pure_ (i := 3) (N := some 52) (v := ?_) (a' := ?_) #[true, true, true, true, false, false, false, false, false, false, false, false, false, false] rfl rfl (any_of HT_.out (by kernel_rfl)) (fun _ _ _ h => h) (Or.inl ⟨by rfl, ?_⟩) ?_ ?_
      rotate_left
      · intro w'
        go_simp
        with_reducible rfl
      rotate_left
      · simp only [Act.put, List.setIfInBounds_toArray, List.set_cons_zero, List.set_cons_succ, i64_w, i32_w]
        rfl
      refine pure_ (i := 4) (N := some 53) (v := ?_) (a' := ?_) #[true, true, true, true, true, false, false, false, false, false, false, false, false, false] rfl rfl (any_of HT_.out (by kernel_rfl)) (fun _ _ _ h => h) (Or.inl ⟨by rfl, ?_⟩) ?_ ?_
      rotate_left
      · intro w'
        go_simp
        with_reducible rfl
      rotate_left
      · simp only [Act.put, List.setIfInBounds_toArray, List.set_cons_zero, List.set_cons_succ, i64_w, i32_w]
        rfl
      refine pure_ (i := 5) (N := some 54) (v := ?_) (a' := ?_) #[true, true, true, true, true, true, false, false, false, false, false, false, false, false] rfl rfl (any_of HT_.out (by kernel_rfl)) (fun _ _ _ h => h) (Or.inl ⟨by rfl, ?_⟩) ?_ ?_
      rotate_left
      · intro w'
        go_simp
        with_reducible rfl
      rotate_left
      · simp only [Act.put, List.setIfInBounds_toArray, List.set_cons_zero, List.set_cons_succ, i64_w, i32_w]
        rfl
      refine pure_ (i := 6) (N := some 55) (v := ?_) (a' := ?_) #[true, true, true, true, true, true, true, false, false, false, false, false, false, false] rfl rfl (any_of HT_.out (by kernel_rfl)) (fun _ _ _ h => h) (Or.inl ⟨by rfl, ?_⟩) ?_ ?_
      rotate_left
      · intro w'
        go_simp
        with_reducible rfl
      rotate_left
      · simp only [Act.put, List.setIfInBounds_toArray, List.set_cons_zero, List.set_cons_succ, i64_w, i32_w]
        rfl
      refine pure_ (i := 7) (N := some 56) (v := ?_) (a' := ?_) #[true, true, true, true, true, true, true, true, false, false, false, false, false, false] rfl rfl (any_of HT_.out (by kernel_rfl)) (fun _ _ _ h => h) (Or.inl ⟨by rfl, ?_⟩) ?_ ?_
      rotate_left
      · intro w'
        go_simp
        with_reducible rfl
      rotate_left
      · simp only [Act.put, List.setIfInBounds_toArray, List.set_cons_zero, List.set_cons_succ, i64_w, i32_w]
        rfl
      refine take_ (i := 8) (N := some 57) (v := ?_) (a' := ?_) #[true, true, true, true, true, true, true, true, true, false, false, false, false, false] rfl rfl (take_ofW HT_.out HW_.out (by kernel_rfl)) (fun _ _ _ h => h) (Or.inl ⟨by rfl, ?_⟩) hHeld ?_ ?_
      rotate_left
      · rintro w' ⟨s0, s1, s2, s3, s4⟩
        go_simp
        with_reducible rfl
      rotate_left
      · simp only [Act.put, List.setIfInBounds_toArray, List.set_cons_zero, List.set_cons_succ, i64_w, i32_w]
        rfl
      refine one_ (i := 9) (N := some 58) #[true, true, true, true, true, true, true, true, true, true, false, false, false, false] rfl rfl (one_of HT_.out (by kernel_rfl)) (by decide) (fun K hK => ?_)
      refine goes_ Try.func8 (by kernel_rfl) rfl #[.agg #[.int .i64 0, .int .i64 0, .slice TB b.length cB], .agg #[.string y.f0, .string y.f1]] (by rfl) rfl rfl (by (try simp only [List.map_toArray, List.map_cons, List.map_nil]); first | done | rfl) ?_
      refine (bucket_Add 0 0 b TB cB y V3 (Kd.R_reads' HRB.out).2.2 (Kd.R_reads' HRB.out).2.1 (by have := HLA.out.2; omega)).mono ?_
      rintro ex V4 ⟨v, rfl, hv, hb⟩
      refine ⟨_, rfl, ?_⟩
      obtain ⟨TB1, cB1, rfl⟩ := Kd.R_slice hv
      have HV := Aside0.mk (Kd.R_lower hv HSZ.out)
      clear hv
      have n_HB := Aside0.mk (below_step HB.out hb)
      have n_HSZ := Aside0.mk (Nat.le_trans HSZ.out hb.size)
      have n_K3 := Aside0.mk (blk_below K3.out hb)
      have n_K4 := Aside0.mk (blk_below K4.out hb)
      have n_HRA := Aside0.mk (Kd.R_below HRA.out hb)
      have n_HRB := Aside0.mk (Kd.R_below HRB.out hb)
      clear HB HSZ K3 K4 HRA HRB
      have HB := n_HB
      have HSZ := n_HSZ
      have K3 := n_K3
      have K4 := n_K4
      have HRA := n_HRA
      have HRB := n_HRB
      clear n_HB n_HSZ n_K3 n_K4 n_HRA n_HRB
      clear hb
      refine hK.out _ _ ⟨(blk_cell K4.out 0).trans rfl, (blk_cell K4.out 1).trans rfl, (blk_cell K4.out 2).trans rfl, (HB.out.cell (World.block_lt_of_cell? w _ HY0.out)).trans HY0.out, (HB.out.cell (World.block_lt_of_cell? w _ HY1.out)).trans HY1.out⟩ (fun hHeld => ?_)
      clear hK K
      refine norm_ (a' := ?_) ?_ ?_
      rotate_left
      · show Act.put _ (some 58) _ = _
        simp only [Act.put, List.setIfInBounds_toArray, List.set_cons_zero, List.set_cons_succ, i64_w, i32_w]
        rfl
      refine pure_ (i := 10) (N := some 48) (v := ?_) (a' := ?_) #[true, true, true, true, true, true, true, true, true, true, true, false, false, false] rfl rfl (any_of HT_.out (by kernel_rfl)) (fun _ _ _ h => h) (Or.inl ⟨by rfl, ?_⟩) ?_ ?_
      rotate_left
      · intro w'
        go_simp
        with_reducible rfl
      rotate_left
      · simp only [Act.put, List.setIfInBounds_toArray, List.set_cons_zero, List.set_cons_succ, i64_w, i32_w]
        rfl
      refine pure_ (i := 11) (N := some 59) (v := ?_) (a' := ?_) #[true, true, true, true, true, true, true, true, true, true, true, true, false, false] rfl rfl (any_of HT_.out (by kernel_rfl)) (fun _ _ _ h => h) (Or.inl ⟨by rfl, ?_⟩) ?_ ?_
      rotate_left
      · intro w'
        go_simp
        with_reducible rfl
      rotate_left
      · simp only [Act.put, List.setIfInBounds_toArray, List.set_cons_zero, List.set_cons_succ, i64_w, i32_w]
        rfl
      refine pure_ (i := 12) (N := some 60) (v := ?_) (a' := ?_) #[true, true, true, true, true, true, true, true, true, true, true, true, true, false] rfl rfl (any_of HT_.out (by kernel_rfl)) (fun _ _ _ h => h) (Or.inl ⟨by rfl, ?_⟩) ?_ ?_
      rotate_left
      · intro w'
        go_simp
        with_reducible rfl
      rotate_left
      · simp only [Act.put, List.setIfInBounds_toArray, List.set_cons_zero, List.set_cons_succ, i64_w, i32_w]
        rfl
      refine last_ (i := 13) (N := none) #[true, true, true, true, true, true, true, true, true, true, true, true, true, true] rfl rfl (one_of HT_.out (by kernel_rfl)) (by decide) (fun K hK => ?_)
      have c0 := blk_cell K4.out 0
      have c1 := blk_cell K4.out 1
      have c2 := blk_cell K4.out 2
      have f0 := blk_frozen K4.out 0
      have f1 := blk_frozen K4.out 1
      have f2 := blk_frozen K4.out 2
      refine skip_step (w1 := put3 V4 (g + 1) (Value.int IntKind.i64 0) (Value.int IntKind.i64 0) (Value.slice TB1 (addT b y).1.length cB1)) (by rfl) rfl (by first | (go_simp; done) | (go_simp; rfl)) ?_
      clear c0 c1 c2 f0 f1 f2
      refine hK.out _ _ ?_
      clear hK K
      refine done_ (done_of HT_.out (by kernel_rfl)) ?_
      clear hHeld HT_ HW_
      clear HRB
      have hpb := put3_below (Below.refl w.heap.size V4) (show w.heap.size ≤ (g + 1) by have := HG.out; omega) (Value.int IntKind.i64 0) (Value.int IntKind.i64 0) (Value.slice TB1 (addT b y).1.length cB1)
      have nB := Aside0.mk (HB.out.trans hpb)
      have nS := Aside0.mk (Nat.le_trans HSZ.out hpb.size)
      have nT := Aside0.mk (put3_heap K4.out (Value.int IntKind.i64 0) (Value.int IntKind.i64 0) (Value.slice TB1 (addT b y).1.length cB1))
      have nO := Aside0.mk ((put3_far V4 (g + 1) (Value.int IntKind.i64 0) (Value.int IntKind.i64 0) (Value.slice TB1 (addT b y).1.length cB1) (show g ≠ (g + 1) by omega)).trans K3.out)
      have n_HRB := Aside0.mk (Kd.R_mono (Kd.R_step (Kd.R_bound HV.out) (fun k hk _ => put3_far V4 (g + 1) (Value.int IntKind.i64 0) (Value.int IntKind.i64 0) (Value.slice TB1 (addT b y).1.length cB1) (by have := hk.2.1; have := HZ.out; omega))) (ok' := fun _ => True) (fun _ _ => trivial))
      have n_HRA := Aside0.mk (Kd.R_mono (Kd.R_step (Kd.R_bound HRA.out) (fun k hk _ => put3_far V4 (g + 1) (Value.int IntKind.i64 0) (Value.int IntKind.i64 0) (Value.slice TB1 (addT b y).1.length cB1) (by have := hk.2.1; have := HZ.out; omega))) (ok' := fun _ => True) (fun _ _ => trivial))
      clear hpb HB HSZ K4 K3 HV HRA
      generalize put3 V4 (g + 1) (Value.int IntKind.i64 0) (Value.int IntKind.i64 0) (Value.slice TB1 (addT b y).1.length cB1) = V5 at nB nS nT nO n_HRB n_HRA ⊢
      have HB := nB
      have HSZ := nS
      have K4 := nT
      have K3 := nO
      have HRB := n_HRB
      have HRA := n_HRA
      clear nB nS nT nO n_HRB n_HRA
      clear hw1 hw2 r0 r1 r5
      go_wp2_with fail
      have hlt2 := HLT.out
      have hl2 := HL.out
      rw [add1 (by omega)]
      exact ⟨⟨j + 1, (addT a x).1, (addT b y).1, TA1, cA1, TB1, cB1, by omega, rfl, HST.out HSM.out, HRA.out, HRB.out, K3.out, K4.out, HB.out, HSZ.out⟩, by simp [intOf]; omega⟩
    · skip
      obtain rfl : j = xs.length := by omega
      have b1 : decide ((xs.length : Int) < (xs.length : Int)) = false := decide_eq_false (by omega)
      have HFW := Aside0.mk (grow_few HGI.out HL.out)
      obtain ⟨rfl, g1, g2, g3, g4⟩ := grow_end HGI.out
      have HS1 := Aside0.mk g1
      have HS2 := Aside0.mk g2
      have HS3 := Aside0.mk g3
      have HS4 := Aside0.mk g4
      clear HGI g1 g2 g3 g4 hlt
      go_wp2_with fail
      clear b1
      have HWR := Aside0.mk HB.out
      generalize hwr : wr = wq at HB HSZ K3 K4 HRA HRB HWR
      clear hwr
      go_loopw [6] (fun i wr => ∃ (j : Nat), j ≤ xs.length ∧ i = .int .i64 (j : Int) ∧ Below wq.heap.size wq wr)
        (fun i _ => xs.length - (intOf i).toNat)
      case atStart => exact ⟨0, Nat.zero_le _, rfl, Below.refl _ _⟩
      case round =>
        obtain ⟨j, hj, rfl, hb⟩ := hrel
        have n_HB := Aside0.mk (below_step HB.out hb)
        have n_HSZ := Aside0.mk (Nat.le_trans HSZ.out hb.size)
        have n_K3 := Aside0.mk (blk_below K3.out hb)
        have n_K4 := Aside0.mk (blk_below K4.out hb)
        have n_HRA := Aside0.mk (Kd.R_below HRA.out hb)
        have n_HRB := Aside0.mk (Kd.R_below HRB.out hb)
        clear HB HSZ K3 K4 HRA HRB
        have HB := n_HB
        have HSZ := n_HSZ
        have K3 := n_K3
        have K4 := n_K4
        have HRA := n_HRA
        have HRB := n_HRB
        clear n_HB n_HSZ n_K3 n_K4 n_HRA n_HRB
        have HQ := Aside0.mk hb
        clear hb
        by_cases hlt : j < xs.length
        · skip
          have b1 : decide ((j : Int) < (xs.length : Int)) = true := decide_eq_true (by omega)
          have b1n : decide (j < xs.length) = true := decide_eq_true hlt
          have HLT := Aside0.mk hlt
          obtain ⟨ad, e1, hx0, hx1⟩ := at_T27 HC.out (j : Int) (by omega) (by omega)
          subst e1
          rw [rd27 xs j hlt, Int.toNat_natCast] at hx0 hx1
          have HOLD := Aside0.mk (add_old ((HS2.out _).mpr (List.getElem_mem hlt)))
          have HMEM := Aside0.mk ((any_mem _ a).mpr ((HS2.out _).mpr (List.getElem_mem hlt)))
          generalize xs[j] = x at hx0 hx1 HOLD HMEM
          have HX0 := Aside0.mk ((HB.out.cell (World.block_lt_of_cell? w _ hx0)).trans hx0)
          have HX1 := Aside0.mk ((HB.out.cell (World.block_lt_of_cell? w _ hx1)).trans hx1)
          have p0 := eq_true (show 0 ≤ (j : Int) by omega)
          have p1 := eq_true (show (j : Int) < (xs.length : Int) by omega)
          have p5 := eq_true hlt
          clear hlt hx0 hx1
          go_upto_region 14 with fail
          clear b1 b1n
          have hD := below_drew1 (Below.refl wr.heap.size wr)
          have n_HB := Aside0.mk (below_step HB.out hD)
          have n_HSZ := Aside0.mk (Nat.le_trans HSZ.out hD.size)
          have n_K3 := Aside0.mk (blk_below K3.out hD)
          have n_K4 := Aside0.mk (blk_below K4.out hD)
          have n_HRA := Aside0.mk (Kd.R_below HRA.out hD)
          have n_HRB := Aside0.mk (Kd.R_below HRB.out hD)
          have n_HQ := Aside0.mk (below_step HQ.out hD)
          have n_HX0 := Aside0.mk ((hD.cell (World.block_lt_of_cell? _ _ HX0.out)).trans HX0.out)
          have n_HX1 := Aside0.mk ((hD.cell (World.block_lt_of_cell? _ _ HX1.out)).trans HX1.out)
          clear HB HSZ K3 K4 HRA HRB HQ HX0 HX1
          have HB := n_HB
          have HSZ := n_HSZ
          have K3 := n_K3
          have K4 := n_K4
          have HRA := n_HRA
          have HRB := n_HRB
          have HQ := n_HQ
          have HX0 := n_HX0
          have HX1 := n_HX1
          clear n_HB n_HSZ n_K3 n_K4 n_HRA n_HRB n_HQ n_HX0 n_HX1
          clear hD
          refine start_ (n := 12) (S := fun w' => w'.cell? ⟨g, 0, none⟩ = some (.int .i64 0) ∧ w'.cell? ⟨g, 1, none⟩ = some (.int .i64 0) ∧ w'.cell? ⟨g, 2, none⟩ = some (.slice TA a.length cA) ∧ w'.cell? (ad.add (j * 2)) = some (.string x.f0) ∧ w'.cell? ⟨(ad.add (j * 2)).block, (ad.add (j * 2)).off + 1, none⟩ = some (.string x.f1)) (ds := []) #[false, false, false, false, false, false, false, false, false, false, false, false] (by kernel_rfl) rfl rfl ⟨(blk_cell K3.out 0).trans rfl, (blk_cell K3.out 1).trans rfl, (blk_cell K3.out 2).trans rfl, HX0.out, HX1.out⟩ (fun hHeld => ?_); refine with_tabW Grows.tab14 Grows.bits14 (fun HT_ HW_ => ?_)
          generalize wr.drew = V0 at HSZ HRA HRB HX0 HX1 HB K3 K4 HQ HX0 HX1 hHeld ⊢
          have Z0 := Aside0.mk hHeld.1
          have Z1 := Aside0.mk hHeld.2.1
          have Z2 := Aside0.mk hHeld.2.2.1
          have Z3 := Aside0.mk hHeld.2.2.2.1
          have Z4 := Aside0.mk hHeld.2.2.2.2
          have HP := Aside0.mk (Below.refl V0.heap.size V0)
          have HADD : Aside0 (∀ U, Below V0.heap.size V0 U → Calls Try.prog 8 #[.agg #[.int .i64 0, .int .i64 0, .slice TA a.length cA], .agg #[.string x.f0, .string x.f1]] U fun e w' => ∃ v, e = .returned (.tuple #[.agg #[.int .i64 0, .int .i64 0, v], .bool false]) ∧ Kd.R k27 27 w' U.heap.size (fun _ => True) v a ∧ Below U.heap.size U w') := Aside0.mk (fun U hU => by
            have hp := bucket_Add 0 0 a TA cA x U (Kd.C_below (Kd.R_reads' HRA.out).2.2 hU) (Kd.R_reads' HRA.out).2.1 (by have := HS3.out; have := HL.out; omega)
            rw [HOLD.out] at hp
            exact hp)
          refine take_ (i := 0) (N := some 68) (v := ?_) (a' := ?_) #[true, false, false, false, false, false, false, false, false, false, false, false] rfl rfl (take_ofW HT_.out HW_.out (by kernel_rfl)) (fun _ _ _ h => h) (Or.inl ⟨by rfl, ?_⟩) hHeld ?_ ?_
          rotate_left
          · rintro w' ⟨s0, s1, s2, s3, s4⟩
            go_simp
            with_reducible rfl
          rotate_left
          · simp only [Act.put, List.setIfInBounds_toArray, List.set_cons_zero, List.set_cons_succ, i64_w, i32_w]
            rfl
          refine pure_ (i := 1) (N := some 69) (v := ?_) (a' := ?_) #[true, true, false, false, false, false, false, false, false, false, false, false] rfl rfl (any_of HT_.out (by kernel_rfl)) (fun _ _ _ h => h) (Or.inl ⟨by rfl, ?_⟩) ?_ ?_
          rotate_left
          · intro w'
            go_simp
            with_reducible rfl
          rotate_left
          · simp only [Act.put, List.setIfInBounds_toArray, List.set_cons_zero, List.set_cons_succ, i64_w, i32_w]
            rfl
          refine pure_ (i := 2) (N := some 70) (v := ?_) (a' := ?_) #[true, true, true, false, false, false, false, false, false, false, false, false] rfl rfl (any_of HT_.out (by kernel_rfl)) (fun _ _ _ h => h) (Or.inl ⟨by rfl, ?_⟩) ?_ ?_
          rotate_left
          · intro w'
            go_simp
            with_reducible rfl
          rotate_left
          · simp only [Act.put, List.setIfInBounds_toArray, List.set_cons_zero, List.set_cons_succ, i64_w, i32_w]
            rfl
          refine pure_ (i := 3) (N := some 71) (v := ?_) (a' := ?_) #[true, true, true, true, false, false, false, false, false, false, false, false] rfl rfl (any_of HT_.out (by kernel_rfl)) (fun _ _ _ h => h) (Or.inl ⟨by rfl, ?_⟩) ?_ ?_
          rotate_left
          · intro w'
            go_simp
            with_reducible rfl
          rotate_left
          · simp only [Act.put, List.setIfInBounds_toArray, List.set_cons_zero, List.set_cons_succ, i64_w, i32_w]
            rfl
          refine take_ (i := 4) (N := some 72) (v := ?_) (a' := ?_) #[true, true, true, true, true, false, false, false, false, false, false, false] rfl rfl (take_ofW HT_.out HW_.out (by kernel_rfl)) (fun _ _ _ h => h) (Or.inl ⟨by rfl, ?_⟩) hHeld ?_ ?_
          rotate_left
          · rintro w' ⟨s0, s1, s2, s3, s4⟩
            go_simp
            with_reducible rfl
          rotate_left
          · simp only [Act.put, List.setIfInBounds_toArray, List.set_cons_zero, List.set_cons_succ, i64_w, i32_w]
            rfl
          refine two_ (i := 5) (j := 9) (Ni := some 73) (Nj := some 7) #[true, true, true, true, true, true, false, false, false, false, false, false] #[true, true, true, true, true, false, false, false, false, true, false, false] rfl rfl rfl rfl (two_of HT_.out (by kernel_rfl)) (by decide) (by decide) (fun K hK => ?_) (fun K hK => ?_)
          · skip
            refine goes_ Try.func8 (by kernel_rfl) rfl #[.agg #[.int .i64 0, .int .i64 0, .slice TA a.length cA], .agg #[.string x.f0, .string x.f1]] (by rfl) rfl rfl (by (try simp only [List.map_toArray, List.map_cons, List.map_nil]); first | done | rfl) ?_
            refine (HADD.out V0 HP.out).mono ?_
            rintro ex V1 ⟨v, rfl, hv, hb⟩
            obtain ⟨T9, c9, rfl⟩ := Kd.R_slice hv
            refine ⟨_, rfl, ?_⟩
            have nP := Aside0.mk (below_step0 HP.out hb)
            clear HP hv
            have HP := nP
            clear nP
            refine hK.out _ _ ⟨(HP.out.cell (World.block_lt_of_cell? V0 _ Z0.out)).trans Z0.out, (HP.out.cell (World.block_lt_of_cell? V0 _ Z1.out)).trans Z1.out, (HP.out.cell (World.block_lt_of_cell? V0 _ Z2.out)).trans Z2.out, (HP.out.cell (World.block_lt_of_cell? V0 _ Z3.out)).trans Z3.out, (HP.out.cell (World.block_lt_of_cell? V0 _ Z4.out)).trans Z4.out⟩ (fun hHeld => ?_)
            clear hb
            clear hK K
            refine norm_ (a' := ?_) ?_ ?_
            rotate_left
            · show Act.put _ (some 73) _ = _
              simp only [Act.put, List.setIfInBounds_toArray, List.set_cons_zero, List.set_cons_succ, i64_w, i32_w]
              rfl
            refine pure_ (i := 6) (N := some 67) (v := ?_) (a' := ?_) #[true, true, true, true, true, true, true, false, false, false, false, false] rfl rfl (any_of HT_.out (by kernel_rfl)) (fun _ _ _ h => h) (Or.inl ⟨by rfl, ?_⟩) ?_ ?_
            rotate_left
            · intro w'
              go_simp
              with_reducible rfl
            rotate_left
            · simp only [Act.put, List.setIfInBounds_toArray, List.set_cons_zero, List.set_cons_succ, i64_w, i32_w]
              rfl
            refine pure_ (i := 7) (N := some 74) (v := ?_) (a' := ?_) #[true, true, true, true, true, true, true, true, false, false, false, false] rfl rfl (any_of HT_.out (by kernel_rfl)) (fun _ _ _ h => h) (Or.inl ⟨by rfl, ?_⟩) ?_ ?_
            rotate_left
            · intro w'
              go_simp
              with_reducible rfl
            rotate_left
            · simp only [Act.put, List.setIfInBounds_toArray, List.set_cons_zero, List.set_cons_succ, i64_w, i32_w]
              rfl
            refine pure_ (i := 8) (N := some 75) (v := ?_) (a' := ?_) #[true, true, true, true, true, true, true, true, true, false, false, false] rfl rfl (any_of HT_.out (by kernel_rfl)) (fun _ _ _ h => h) (Or.inl ⟨by rfl, ?_⟩) ?_ ?_
            rotate_left
            · intro w'
              go_simp
              with_reducible rfl
            rotate_left
            · simp only [Act.put, List.setIfInBounds_toArray, List.set_cons_zero, List.set_cons_succ, i64_w, i32_w]
              rfl
            refine one_ (i := 9) (N := some 7) #[true, true, true, true, true, true, true, true, true, true, false, false] rfl rfl (one_of HT_.out (by kernel_rfl)) (by decide) (fun K hK => ?_)
            refine event_step (W := V1) (w1 := V1.alloc (Obj.cells #[Value.int IntKind.i64 0, Value.int IntKind.i64 0, Value.slice none 0 0] 25)) (v := .pointer (some ⟨V1.heap.size, 0, none⟩)) (by rfl) (by first | (go_simp; done) | (go_simp; rfl)) ?_
            have hW := below_alloc (Below.refl V1.heap.size V1) (Obj.cells #[Value.int IntKind.i64 0, Value.int IntKind.i64 0, Value.slice none 0 0] 25)
            have hN := blk_new V1 (Obj.cells #[Value.int IntKind.i64 0, Value.int IntKind.i64 0, Value.slice none 0 0] 25)
            obtain ⟨g7, hg7⟩ : ∃ g, g = V1.heap.size := ⟨_, rfl⟩
            rw [← hg7] at hN ⊢
            have HG7 := Aside0.mk (show V0.heap.size ≤ g7 by have := HP.out.size; omega)
            clear hg7
            generalize V1.alloc (Obj.cells #[Value.int IntKind.i64 0, Value.int IntKind.i64 0, Value.slice none 0 0] 25) = V2 at hW hN ⊢
            have nP := Aside0.mk (below_step0 HP.out hW)
            have K7 := Aside0.mk hN
            clear HP hW hN
            have HP := nP
            clear nP
            refine hK.out _ _ ⟨(HP.out.cell (World.block_lt_of_cell? V0 _ Z0.out)).trans Z0.out, (HP.out.cell (World.block_lt_of_cell? V0 _ Z1.out)).trans Z1.out, (HP.out.cell (World.block_lt_of_cell? V0 _ Z2.out)).trans Z2.out, (HP.out.cell (World.block_lt_of_cell? V0 _ Z3.out)).trans Z3.out, (HP.out.cell (World.block_lt_of_cell? V0 _ Z4.out)).trans Z4.out⟩ (fun hHeld => ?_)
            clear hK K
            refine norm_ (a' := ?_) ?_ ?_
            rotate_left
            · show Act.put _ (some 7) _ = _
              simp only [Act.put, List.setIfInBounds_toArray, List.set_cons_zero, List.set_cons_succ, i64_w, i32_w]
              rfl
            refine one_ (i := 10) (N := none) #[true, true, true, true, true, true, true, true, true, true, true, false] rfl rfl (one_of HT_.out (by kernel_rfl)) (by decide) (fun K hK => ?_)
            have c0 := blk_cell K7.out 0
            have c1 := blk_cell K7.out 1
            have c2 := blk_cell K7.out 2
            have f0 := blk_frozen K7.out 0
            have f1 := blk_frozen K7.out 1
            have f2 := blk_frozen K7.out 2
            refine skip_step (w1 := put3 V2 g7 (Value.int IntKind.i64 0) (Value.int IntKind.i64 0) (Value.slice T9 a.length c9)) (by rfl) rfl (by first | (go_simp; done) | (go_simp; rfl)) ?_
            clear c0 c1 c2 f0 f1 f2
            have nP := Aside0.mk (put3_below HP.out HG7.out (Value.int IntKind.i64 0) (Value.int IntKind.i64 0) (Value.slice T9 a.length c9))
            clear HP K7
            have HP := nP
            clear nP
            refine hK.out _ _ ⟨(HP.out.cell (World.block_lt_of_cell? V0 _ Z0.out)).trans Z0.out, (HP.out.cell (World.block_lt_of_cell? V0 _ Z1.out)).trans Z1.out, (HP.out.cell (World.block_lt_of_cell? V0 _ Z2.out)).trans Z2.out, (HP.out.cell (World.block_lt_of_cell? V0 _ Z3.out)).trans Z3.out, (HP.out.cell (World.block_lt_of_cell? V0 _ Z4.out)).trans Z4.out⟩ (fun hHeld => ?_)
            clear hK K
            generalize put3 V2 g7 (Value.int IntKind.i64 0) (Value.int IntKind.i64 0) (Value.slice T9 a.length c9) = V3 at HP hHeld ⊢
            refine pure_ (i := 11) (N := some 8) (v := ?_) (a' := ?_) #[true, true, true, true, true, true, true, true, true, true, true, true] rfl rfl (any_of HT_.out (by kernel_rfl)) (fun _ _ _ h => h) (Or.inl ⟨by rfl, ?_⟩) ?_ ?_
            rotate_left
            · intro w'
              go_simp
              with_reducible rfl
            rotate_left
            · simp only [Act.put, List.setIfInBounds_toArray, List.set_cons_zero, List.set_cons_succ, i64_w, i32_w]
              rfl
            refine done_ (done_of HT_.out (by kernel_rfl)) ?_
            have hb := HP.out
            clear HP Z0 Z1 Z2 Z3 Z4 HADD hHeld HT_ HW_
            have n_HB := Aside0.mk (below_step HB.out hb)
            have n_HSZ := Aside0.mk (Nat.le_trans HSZ.out hb.size)
            have n_K3 := Aside0.mk (blk_below K3.out hb)
            have n_K4 := Aside0.mk (blk_below K4.out hb)
            have n_HRA := Aside0.mk (Kd.R_below HRA.out hb)
            have n_HRB := Aside0.mk (Kd.R_below HRB.out hb)
            have n_HQ := Aside0.mk (below_step HQ.out hb)
            have n_HX0 := Aside0.mk ((hb.cell (World.block_lt_of_cell? _ _ HX0.out)).trans HX0.out)
            have n_HX1 := Aside0.mk ((hb.cell (World.block_lt_of_cell? _ _ HX1.out)).trans HX1.out)
            clear HB HSZ K3 K4 HRA HRB HQ HX0 HX1
            have HB := n_HB
            have HSZ := n_HSZ
            have K3 := n_K3
            have K4 := n_K4
            have HRA := n_HRA
            have HRB := n_HRB
            have HQ := n_HQ
            have HX0 := n_HX0
            have HX1 := n_HX1
            clear n_HB n_HSZ n_K3 n_K4 n_HRA n_HRB n_HQ n_HX0 n_HX1
            clear hb
            go_upto_region 15 with fail
            have hD := below_drew1 (Below.refl V3.heap.size V3)
            have n_HB := Aside0.mk (below_step HB.out hD)
            have n_HSZ := Aside0.mk (Nat.le_trans HSZ.out hD.size)
            have n_K3 := Aside0.mk (blk_below K3.out hD)
            have n_K4 := Aside0.mk (blk_below K4.out hD)
            have n_HRA := Aside0.mk (Kd.R_below HRA.out hD)
            have n_HRB := Aside0.mk (Kd.R_below HRB.out hD)
            have n_HQ := Aside0.mk (below_step HQ.out hD)
            have n_HX0 := Aside0.mk ((hD.cell (World.block_lt_of_cell? _ _ HX0.out)).trans HX0.out)
            have n_HX1 := Aside0.mk ((hD.cell (World.block_lt_of_cell? _ _ HX1.out)).trans HX1.out)
            clear HB HSZ K3 K4 HRA HRB HQ HX0 HX1
            have HB := n_HB
            have HSZ := n_HSZ
            have K3 := n_K3
            have K4 := n_K4
            have HRA := n_HRA
            have HRB := n_HRB
            have HQ := n_HQ
            have HX0 := n_HX0
            have HX1 := n_HX1
            clear n_HB n_HSZ n_K3 n_K4 n_HRA n_HRB n_HQ n_HX0 n_HX1
            clear hD
            refine start_ (n := 10) (S := fun w' => w'.cell? ⟨g, 0, none⟩ = some (.int .i64 0) ∧ w'.cell? ⟨g, 1, none⟩ = some (.int .i64 0) ∧ w'.cell? ⟨g, 2, none⟩ = some (.slice TA a.length cA) ∧ w'.cell? (ad.add (j * 2)) = some (.string x.f0) ∧ w'.cell? ⟨(ad.add (j * 2)).block, (ad.add (j * 2)).off + 1, none⟩ = some (.string x.f1)) (ds := []) #[false, false, false, false, false, false, false, false, false, false] (by kernel_rfl) rfl rfl ⟨(blk_cell K3.out 0).trans rfl, (blk_cell K3.out 1).trans rfl, (blk_cell K3.out 2).trans rfl, HX0.out, HX1.out⟩ (fun hHeld => ?_); refine with_tabW Grows.tab15 Grows.bits15 (fun HT_ HW_ => ?_)
            generalize V3.drew = V4 at HSZ HRA HRB HX0 HX1 HB K3 K4 HQ HX0 HX1 hHeld ⊢
            refine take_ (i := 0) (N := some 76) (v := ?_) (a' := ?_) #[true, false, false, false, false, false, false, false, false, false] rfl rfl (take_ofW HT_.out HW_.out (by kernel_rfl)) (fun _ _ _ h => h) (Or.inl ⟨by rfl, ?_⟩) hHeld ?_ ?_
            rotate_left
            · rintro w' ⟨s0, s1, s2, s3, s4⟩
              go_simp
              with_reducible rfl
            rotate_left
            · simp only [Act.put, List.setIfInBounds_toArray, List.set_cons_zero, List.set_cons_succ, i64_w, i32_w]
              rfl
            refine pure_ (i := 1) (N := some 77) (v := ?_) (a' := ?_) #[true, true, false, false, false, false, false, false, false, false] rfl rfl (any_of HT_.out (by kernel_rfl)) (fun _ _ _ h => h) (Or.inl ⟨by rfl, ?_⟩) ?_ ?_
            rotate_left
            · intro w'
              go_simp
              with_reducible rfl
            rotate_left
            · simp only [Act.put, List.setIfInBounds_toArray, List.set_cons_zero, List.set_cons_succ, i64_w, i32_w]
              rfl
            refine pure_ (i := 2) (N := some 78) (v := ?_) (a' := ?_) #[true, true, true, false, false, false, false, false, false, false] rfl rfl (any_of HT_.out (by kernel_rfl)) (fun _ _ _ h => h) (Or.inl ⟨by rfl, ?_⟩) ?_ ?_
            rotate_left
            · intro w'
              go_simp
              with_reducible rfl
            rotate_left
            · simp only [Act.put, List.setIfInBounds_toArray, List.set_cons_zero, List.set_cons_succ, i64_w, i32_w]
              rfl
            refine pure_ (i := 3) (N := some 79) (v := ?_) (a' := ?_) #[true, true, true, true, false, false, false, false, false, false] rfl rfl (any_of HT_.out (by kernel_rfl)) (fun _ _ _ h => h) (Or.inl ⟨by rfl, ?_⟩) ?_ ?_
            rotate_left
            · intro w'
              go_simp
              with_reducible rfl
            rotate_left
            · simp only [Act.put, List.setIfInBounds_toArray, List.set_cons_zero, List.set_cons_succ, i64_w, i32_w]
              rfl
            refine take_ (i := 4) (N := some 80) (v := ?_) (a' := ?_) #[true, true, true, true, true, false, false, false, false, false] rfl rfl (take_ofW HT_.out HW_.out (by kernel_rfl)) (fun _ _ _ h => h) (Or.inl ⟨by rfl, ?_⟩) hHeld ?_ ?_
            rotate_left
            · rintro w' ⟨s0, s1, s2, s3, s4⟩
              go_simp
              with_reducible rfl
            rotate_left
            · simp only [Act.put, List.setIfInBounds_toArray, List.set_cons_zero, List.set_cons_succ, i64_w, i32_w]
              rfl
            refine one_ (i := 5) (N := some 81) #[true, true, true, true, true, true, false, false, false, false] rfl rfl (one_of HT_.out (by kernel_rfl)) (by decide) (fun K hK => ?_)
            refine goes_ Try.func9 (by kernel_rfl) rfl #[.agg #[.int .i64 0, .int .i64 0, .slice TA a.length cA], .agg #[.string x.f0, .string x.f1]] (by rfl) rfl rfl (by (try simp only [List.map_toArray, List.map_cons, List.map_nil]); first | done | rfl) ?_
            refine (bucket_Has.calls 1001 0 0 TA cA a x.f0 x.f1 true V4 (Kd.R_reads' HRA.out).2.2 (Kd.R_reads' HRA.out).2.1 (by rw [has_is 0 0 x a (by have := HS3.out; have := HL.out; omega), HMEM.out])).mono ?_
            rintro ex V5 ⟨rfl, hb⟩
            refine ⟨_, rfl, ?_⟩
            have n_HB := Aside0.mk (below_step HB.out hb)
            have n_HSZ := Aside0.mk (Nat.le_trans HSZ.out hb.size)
            have n_K3 := Aside0.mk (blk_below K3.out hb)
            have n_K4 := Aside0.mk (blk_below K4.out hb)
            have n_HRA := Aside0.mk (Kd.R_below HRA.out hb)
            have n_HRB := Aside0.mk (Kd.R_below HRB.out hb)
            have n_HQ := Aside0.mk (below_step HQ.out hb)
            have n_HX0 := Aside0.mk ((hb.cell (World.block_lt_of_cell? _ _ HX0.out)).trans HX0.out)
            have n_HX1 := Aside0.mk ((hb.cell (World.block_lt_of_cell? _ _ HX1.out)).trans HX1.out)
            clear HB HSZ K3 K4 HRA HRB HQ HX0 HX1
            have HB := n_HB
            have HSZ := n_HSZ
            have K3 := n_K3
            have K4 := n_K4
            have HRA := n_HRA
            have HRB := n_HRB
            have HQ := n_HQ
            have HX0 := n_HX0
            have HX1 := n_HX1
            clear n_HB n_HSZ n_K3 n_K4 n_HRA n_HRB n_HQ n_HX0 n_HX1
            clear hb
            refine hK.out _ _ ⟨(blk_cell K3.out 0).trans rfl, (blk_cell K3.out 1).trans rfl, (blk_cell K3.out 2).trans rfl, HX0.out, HX1.out⟩ (fun hHeld => ?_)
            clear hK K
            refine norm_ (a' := ?_) ?_ ?_
            rotate_left
            · show Act.put _ (some 81) _ = _
              simp only [Act.put, List.setIfInBounds_toArray, List.set_cons_zero, List.set_cons_succ, i64_w, i32_w]
              rfl
            refine pure_ (i := 6) (N := some 82) (v := ?_) (a' := ?_) #[true, true, true, true, true, true, true, false, false, false] rfl rfl (any_of HT_.out (by kernel_rfl)) (fun _ _ _ h => h) (Or.inl ⟨by rfl, ?_⟩) ?_ ?_
            rotate_left
            · intro w'
              go_simp
              with_reducible rfl
            rotate_left
            · simp only [Act.put, List.setIfInBounds_toArray, List.set_cons_zero, List.set_cons_succ, i64_w, i32_w]
              rfl
            refine pure_ (i := 7) (N := some 83) (v := ?_) (a' := ?_) #[true, true, true, true, true, true, true, true, false, false] rfl rfl (any_of HT_.out (by kernel_rfl)) (fun _ _ _ h => h) (Or.inl ⟨by rfl, ?_⟩) ?_ ?_
            rotate_left
            · intro w'
              go_simp
              with_reducible rfl
            rotate_left
            · simp only [Act.put, List.setIfInBounds_toArray, List.set_cons_zero, List.set_cons_succ, i64_w, i32_w]
              rfl
            refine pure_ (i := 8) (N := some 84) (v := ?_) (a' := ?_) #[true, true, true, true, true, true, true, true, true, false] rfl rfl (any_of HT_.out (by kernel_rfl)) (fun _ _ _ h => h) (Or.inl ⟨by rfl, ?_⟩) ?_ ?_
            rotate_left
            · intro w'
              go_simp
              with_reducible rfl
            rotate_left
            · simp only [Act.put, List.setIfInBounds_toArray, List.set_cons_zero, List.set_cons_succ, i64_w, i32_w]
              rfl
            refine pure_ (i := 9) (N := some 85) (v := ?_) (a' := ?_) #[true, true, true, true, true, true, true, true, true, true] rfl rfl (any_of HT_.out (by kernel_rfl)) (fun _ _ _ h => h) (Or.inl ⟨by rfl, ?_⟩) ?_ ?_
            rotate_left
            · intro w'
              go_simp
              with_reducible rfl
            rotate_left
            · simp only [Act.put, List.setIfInBounds_toArray, List.set_cons_zero, List.set_cons_succ, i64_w, i32_w]
              rfl
            refine done_ (done_of HT_.out (by kernel_rfl)) ?_
            go_wp2_with fail
            have hlt2 := HLT.out
            have hl2 := HL.out
            rw [add1 (by omega)]
            exact ⟨⟨j + 1, by omega, rfl, HQ.out⟩, by simp [intOf]; omega⟩
          · skip
            refine event_step (W := V0) (w1 := V0.alloc (Obj.cells #[Value.int IntKind.i64 0, Value.int IntKind.i64 0, Value.slice none 0 0] 25)) (v := .pointer (some ⟨V0.heap.size, 0, none⟩)) (by rfl) (by first | (go_simp; done) | (go_simp; rfl)) ?_
            have hW := below_alloc (Below.refl V0.heap.size V0) (Obj.cells #[Value.int IntKind.i64 0, Value.int IntKind.i64 0, Value.slice none 0 0] 25)
            have hN := blk_new V0 (Obj.cells #[Value.int IntKind.i64 0, Value.int IntKind.i64 0, Value.slice none 0 0] 25)
            obtain ⟨g7, hg7⟩ : ∃ g, g = V0.heap.size := ⟨_, rfl⟩
            rw [← hg7] at hN ⊢
            have HG7 := Aside0.mk (show V0.heap.size ≤ g7 by have := HP.out.size; omega)
            clear hg7
            generalize V0.alloc (Obj.cells #[Value.int IntKind.i64 0, Value.int IntKind.i64 0, Value.slice none 0 0] 25) = V1 at hW hN ⊢
            have nP := Aside0.mk (below_step0 HP.out hW)
            have K7 := Aside0.mk hN
            clear HP hW hN
            have HP := nP
            clear nP
            refine hK.out _ _ ⟨(HP.out.cell (World.block_lt_of_cell? V0 _ Z0.out)).trans Z0.out, (HP.out.cell (World.block_lt_of_cell? V0 _ Z1.out)).trans Z1.out, (HP.out.cell (World.block_lt_of_cell? V0 _ Z2.out)).trans Z2.out, (HP.out.cell (World.block_lt_of_cell? V0 _ Z3.out)).trans Z3.out, (HP.out.cell (World.block_lt_of_cell? V0 _ Z4.out)).trans Z4.out⟩ (fun hHeld => ?_)
            clear hK K
            refine norm_ (a' := ?_) ?_ ?_
            rotate_left
            · show Act.put _ (some 7) _ = _
              simp only [Act.put, List.setIfInBounds_toArray, List.set_cons_zero, List.set_cons_succ, i64_w, i32_w]
              rfl
            refine one_ (i := 5) (N := some 73) #[true, true, true, true, true, true, false, false, false, true, false, false] rfl rfl (one_of HT_.out (by kernel_rfl)) (by decide) (fun K hK => ?_)
            refine goes_ Try.func8 (by kernel_rfl) rfl #[.agg #[.int .i64 0, .int .i64 0, .slice TA a.length cA], .agg #[.string x.f0, .string x.f1]] (by rfl) rfl rfl (by (try simp only [List.map_toArray, List.map_cons, List.map_nil]); first | done | rfl) ?_
            refine (HADD.out V1 HP.out).mono ?_
            rintro ex V2 ⟨v, rfl, hv, hb⟩
            obtain ⟨T9, c9, rfl⟩ := Kd.R_slice hv
            refine ⟨_, rfl, ?_⟩
            have nP := Aside0.mk (below_step0 HP.out hb)
            clear HP hv
            have HP := nP
            clear nP
            have n7 := Aside0.mk (blk_below K7.out hb)
            clear K7 hb
            have K7 := n7
            clear n7
            refine hK.out _ _ ⟨(HP.out.cell (World.block_lt_of_cell? V0 _ Z0.out)).trans Z0.out, (HP.out.cell (World.block_lt_of_cell? V0 _ Z1.out)).trans Z1.out, (HP.out.cell (World.block_lt_of_cell? V0 _ Z2.out)).trans Z2.out, (HP.out.cell (World.block_lt_of_cell? V0 _ Z3.out)).trans Z3.out, (HP.out.cell (World.block_lt_of_cell? V0 _ Z4.out)).trans Z4.out⟩ (fun hHeld => ?_)
            clear hK K
            refine norm_ (a' := ?_) ?_ ?_
            rotate_left
            · show Act.put _ (some 73) _ = _
              simp only [Act.put, List.setIfInBounds_toArray, List.set_cons_zero, List.set_cons_succ, i64_w, i32_w]
              rfl
            refine pure_ (i := 6) (N := some 67) (v := ?_) (a' := ?_) #[true, true, true, true, true, true, true, false, false, true, false, false] rfl rfl (any_of HT_.out (by kernel_rfl)) (fun _ _ _ h => h) (Or.inl ⟨by rfl, ?_⟩) ?_ ?_
            rotate_left
            · intro w'
              go_simp
              with_reducible rfl
            rotate_left
            · simp only [Act.put, List.setIfInBounds_toArray, List.set_cons_zero, List.set_cons_succ, i64_w, i32_w]
              rfl
            refine pure_ (i := 7) (N := some 74) (v := ?_) (a' := ?_) #[true, true, true, true, true, true, true, true, false, true, false, false] rfl rfl (any_of HT_.out (by kernel_rfl)) (fun _ _ _ h => h) (Or.inl ⟨by rfl, ?_⟩) ?_ ?_
            rotate_left
            · intro w'
              go_simp
              with_reducible rfl
            rotate_left
            · simp only [Act.put, List.setIfInBounds_toArray, List.set_cons_zero, List.set_cons_succ, i64_w, i32_w]
              rfl
            refine pure_ (i := 8) (N := some 75) (v := ?_) (a' := ?_) #[true, true, true, true, true, true, true, true, true, true, false, false] rfl rfl (any_of HT_.out (by kernel_rfl)) (fun _ _ _ h => h) (Or.inl ⟨by rfl, ?_⟩) ?_ ?_
            rotate_left
            · intro w'
              go_simp
              with_reducible rfl
            rotate_left
            · simp only [Act.put, List.setIfInBounds_toArray, List.set_cons_zero, List.set_cons_succ, i64_w, i32_w]
              rfl
            refine one_ (i := 10) (N := none) #[true, true, true, true, true, true, true, true, true, true, true, false] rfl rfl (one_of HT_.out (by kernel_rfl)) (by decide) (fun K hK => ?_)
            have c0 := blk_cell K7.out 0
            have c1 := blk_cell K7.out 1
            have c2 := blk_cell K7.out 2
            have f0 := blk_frozen K7.out 0
            have f1 := blk_frozen K7.out 1
            have f2 := blk_frozen K7.out 2
            refine skip_step (w1 := put3 V2 g7 (Value.int IntKind.i64 0) (Value.int IntKind.i64 0) (Value.slice T9 a.length c9)) (by rfl) rfl (by first | (go_simp; done) | (go_simp; rfl)) ?_
            clear c0 c1 c2 f0 f1 f2
            have nP := Aside0.mk (put3_below HP.out HG7.out (Value.int IntKind.i64 0) (Value.int IntKind.i64 0) (Value.slice T9 a.length c9))
            clear HP K7
            have HP := nP
            clear nP
            refine hK.out _ _ ⟨(HP.out.cell (World.block_lt_of_cell? V0 _ Z0.out)).trans Z0.out, (HP.out.cell (World.block_lt_of_cell? V0 _ Z1.out)).trans Z1.out, (HP.out.cell (World.block_lt_of_cell? V0 _ Z2.out)).trans Z2.out, (HP.out.cell (World.block_lt_of_cell? V0 _ Z3.out)).trans Z3.out, (HP.out.cell (World.block_lt_of_cell? V0 _ Z4.out)).trans Z4.out⟩ (fun hHeld => ?_)
            clear hK K
            generalize put3 V2 g7 (Value.int IntKind.i64 0) (Value.int IntKind.i64 0) (Value.slice T9 a.length c9) = V3 at HP hHeld ⊢
            refine pure_ (i := 11) (N := some 8) (v := ?_) (a' := ?_) #[true, true, true, true, true, true, true, true, true, true, true, true] rfl rfl (any_of HT_.out (by kernel_rfl)) (fun _ _ _ h => h) (Or.inl ⟨by rfl, ?_⟩) ?_ ?_
            rotate_left
            · intro w'
              go_simp
              with_reducible rfl
            rotate_left
            · simp only [Act.put, List.setIfInBounds_toArray, List.set_cons_zero, List.set_cons_succ, i64_w, i32_w]
              rfl
            refine done_ (done_of HT_.out (by kernel_rfl)) ?_
            have hb := HP.out
            clear HP Z0 Z1 Z2 Z3 Z4 HADD hHeld HT_ HW_
            have n_HB := Aside0.mk (below_step HB.out hb)
            have n_HSZ := Aside0.mk (Nat.le_trans HSZ.out hb.size)
            have n_K3 := Aside0.mk (blk_below K3.out hb)
            have n_K4 := Aside0.mk (blk_below K4.out hb)
            have n_HRA := Aside0.mk (Kd.R_below HRA.out hb)
            have n_HRB := Aside0.mk (Kd.R_below HRB.out hb)
            have n_HQ := Aside0.mk (below_step HQ.out hb)
            have n_HX0 := Aside0.mk ((hb.cell (World.block_lt_of_cell? _ _ HX0.out)).trans HX0.out)
            have n_HX1 := Aside0.mk ((hb.cell (World.block_lt_of_cell? _ _ HX1.out)).trans HX1.out)
            clear HB HSZ K3 K4 HRA HRB HQ HX0 HX1
            have HB := n_HB
            have HSZ := n_HSZ
            have K3 := n_K3
            have K4 := n_K4
            have HRA := n_HRA
            have HRB := n_HRB
            have HQ := n_HQ
            have HX0 := n_HX0
            have HX1 := n_HX1
            clear n_HB n_HSZ n_K3 n_K4 n_HRA n_HRB n_HQ n_HX0 n_HX1
            clear hb
            go_upto_region 15 with fail
            have hD := below_drew1 (Below.refl V3.heap.size V3)
            have n_HB := Aside0.mk (below_step HB.out hD)
            have n_HSZ := Aside0.mk (Nat.le_trans HSZ.out hD.size)
            have n_K3 := Aside0.mk (blk_below K3.out hD)
            have n_K4 := Aside0.mk (blk_below K4.out hD)
            have n_HRA := Aside0.mk (Kd.R_below HRA.out hD)
            have n_HRB := Aside0.mk (Kd.R_below HRB.out hD)
            have n_HQ := Aside0.mk (below_step HQ.out hD)
            have n_HX0 := Aside0.mk ((hD.cell (World.block_lt_of_cell? _ _ HX0.out)).trans HX0.out)
            have n_HX1 := Aside0.mk ((hD.cell (World.block_lt_of_cell? _ _ HX1.out)).trans HX1.out)
            clear HB HSZ K3 K4 HRA HRB HQ HX0 HX1
            have HB := n_HB
            have HSZ := n_HSZ
            have K3 := n_K3
            have K4 := n_K4
            have HRA := n_HRA
            have HRB := n_HRB
            have HQ := n_HQ
            have HX0 := n_HX0
            have HX1 := n_HX1
            clear n_HB n_HSZ n_K3 n_K4 n_HRA n_HRB n_HQ n_HX0 n_HX1
            clear hD
            refine start_ (n := 10) (S := fun w' => w'.cell? ⟨g, 0, none⟩ = some (.int .i64 0) ∧ w'.cell? ⟨g, 1, none⟩ = some (.int .i64 0) ∧ w'.cell? ⟨g, 2, none⟩ = some (.slice TA a.length cA) ∧ w'.cell? (ad.add (j * 2)) = some (.string x.f0) ∧ w'.cell? ⟨(ad.add (j * 2)).block, (ad.add (j * 2)).off + 1, none⟩ = some (.string x.f1)) (ds := []) #[false, false, false, false, false, false, false, false, false, false] (by kernel_rfl) rfl rfl ⟨(blk_cell K3.out 0).trans rfl, (blk_cell K3.out 1).trans rfl, (blk_cell K3.out 2).trans rfl, HX0.out, HX1.out⟩ (fun hHeld => ?_); refine with_tabW Grows.tab15 Grows.bits15 (fun HT_ HW_ => ?_)
            generalize V3.drew = V4 at HSZ HRA HRB HX0 HX1 HB K3 K4 HQ HX0 HX1 hHeld ⊢
            refine take_ (i := 0) (N := some 76) (v := ?_) (a' := ?_) #[true, false, false, false, false, false, false, false, false, false] rfl rfl (take_ofW HT_.out HW_.out (by kernel_rfl)) (fun _ _ _ h => h) (Or.inl ⟨by rfl, ?_⟩) hHeld ?_ ?_
            rotate_left
            · rintro w' ⟨s0, s1, s2, s3, s4⟩
              go_simp
              with_reducible rfl
            rotate_left
            · simp only [Act.put, List.setIfInBounds_toArray, List.set_cons_zero, List.set_cons_succ, i64_w, i32_w]
              rfl
            refine pure_ (i := 1) (N := some 77) (v := ?_) (a' := ?_) #[true, true, false, false, false, false, false, false, false, false] rfl rfl (any_of HT_.out (by kernel_rfl)) (fun _ _ _ h => h) (Or.inl ⟨by rfl, ?_⟩) ?_ ?_
            rotate_left
            · intro w'
              go_simp
              with_reducible rfl
            rotate_left
            · simp only [Act.put, List.setIfInBounds_toArray, List.set_cons_zero, List.set_cons_succ, i64_w, i32_w]
              rfl
            refine pure_ (i := 2) (N := some 78) (v := ?_) (a' := ?_) #[true, true, true, false, false, false, false, false, false, false] rfl rfl (any_of HT_.out (by kernel_rfl)) (fun _ _ _ h => h) (Or.inl ⟨by rfl, ?_⟩) ?_ ?_
            rotate_left
            · intro w'
              go_simp
              with_reducible rfl
            rotate_left
            · simp only [Act.put, List.setIfInBounds_toArray, List.set_cons_zero, List.set_cons_succ, i64_w, i32_w]
              rfl
            refine pure_ (i := 3) (N := some 79) (v := ?_) (a' := ?_) #[true, true, true, true, false, false, false, false, false, false] rfl rfl (any_of HT_.out (by kernel_rfl)) (fun _ _ _ h => h) (Or.inl ⟨by rfl, ?_⟩) ?_ ?_
            rotate_left
            · intro w'
              go_simp
              with_reducible rfl
            rotate_left
            · simp only [Act.put, List.setIfInBounds_toArray, List.set_cons_zero, List.set_cons_succ, i64_w, i32_w]
              rfl
            refine take_ (i := 4) (N := some 80) (v := ?_) (a' := ?_) #[true, true, true, true, true, false, false, false, false, false] rfl rfl (take_ofW HT_.out HW_.out (by kernel_rfl)) (fun _ _ _ h => h) (Or.inl ⟨by rfl, ?_⟩) hHeld ?_ ?_
            rotate_left
            · rintro w' ⟨s0, s1, s2, s3, s4⟩
              go_simp
              with_reducible rfl
            rotate_left
            · simp only [Act.put, List.setIfInBounds_toArray, List.set_cons_zero, List.set_cons_succ, i64_w, i32_w]
              rfl
            refine one_ (i := 5) (N := some 81) #[true, true, true, true, true, true, false, false, false, false] rfl rfl (one_of HT_.out (by kernel_rfl)) (by decide) (fun K hK => ?_)
            refine goes_ Try.func9 (by kernel_rfl) rfl #[.agg #[.int .i64 0, .int .i64 0, .slice TA a.length cA], .agg #[.string x.f0, .string x.f1]] (by rfl) rfl rfl (by (try simp only [List.map_toArray, List.map_cons, List.map_nil]); first | done | rfl) ?_
            refine (bucket_Has.calls 1001 0 0 TA cA a x.f0 x.f1 true V4 (Kd.R_reads' HRA.out).2.2 (Kd.R_reads' HRA.out).2.1 (by rw [has_is 0 0 x a (by have := HS3.out; have := HL.out; omega), HMEM.out])).mono ?_
            rintro ex V5 ⟨rfl, hb⟩
            refine ⟨_, rfl, ?_⟩
            have n_HB := Aside0.mk (below_step HB.out hb)
            have n_HSZ := Aside0.mk (Nat.le_trans HSZ.out hb.size)
            have n_K3 := Aside0.mk (blk_below K3.out hb)
            have n_K4 := Aside0.mk (blk_below K4.out hb)
            have n_HRA := Aside0.mk (Kd.R_below HRA.out hb)
            have n_HRB := Aside0.mk (Kd.R_below HRB.out hb)
            have n_HQ := Aside0.mk (below_step HQ.out hb)
            have n_HX0 := Aside0.mk ((hb.cell (World.block_lt_of_cell? _ _ HX0.out)).trans HX0.out)
            have n_HX1 := Aside0.mk ((hb.cell (World.block_lt_of_cell? _ _ HX1.out)).trans HX1.out)
            clear HB HSZ K3 K4 HRA HRB HQ HX0 HX1
            have HB := n_HB
            have HSZ := n_HSZ
            have K3 := n_K3
            have K4 := n_K4
            have HRA := n_HRA
            have HRB := n_HRB
            have HQ := n_HQ
            have HX0 := n_HX0
            have HX1 := n_HX1
            clear n_HB n_HSZ n_K3 n_K4 n_HRA n_HRB n_HQ n_HX0 n_HX1
            clear hb
            refine hK.out _ _ ⟨(blk_cell K3.out 0).trans rfl, (blk_cell K3.out 1).trans rfl, (blk_cell K3.out 2).trans rfl, HX0.out, HX1.out⟩ (fun hHeld => ?_)
            clear hK K
            refine norm_ (a' := ?_) ?_ ?_
            rotate_left
            · show Act.put _ (some 81) _ = _
              simp only [Act.put, List.setIfInBounds_toArray, List.set_cons_zero, List.set_cons_succ, i64_w, i32_w]
              rfl
            refine pure_ (i := 6) (N := some 82) (v := ?_) (a' := ?_) #[true, true, true, true, true, true, true, false, false, false] rfl rfl (any_of HT_.out (by kernel_rfl)) (fun _ _ _ h => h) (Or.inl ⟨by rfl, ?_⟩) ?_ ?_
            rotate_left
            · intro w'
              go_simp
              with_reducible rfl
            rotate_left
            · simp only [Act.put, List.setIfInBounds_toArray, List.set_cons_zero, List.set_cons_succ, i64_w, i32_w]
              rfl
            refine pure_ (i := 7) (N := some 83) (v := ?_) (a' := ?_) #[true, true, true, true, true, true, true, true, false, false] rfl rfl (any_of HT_.out (by kernel_rfl)) (fun _ _ _ h => h) (Or.inl ⟨by rfl, ?_⟩) ?_ ?_
            rotate_left
            · intro w'
              go_simp
              with_reducible rfl
            rotate_left
            · simp only [Act.put, List.setIfInBounds_toArray, List.set_cons_zero, List.set_cons_succ, i64_w, i32_w]
              rfl
            refine pure_ (i := 8) (N := some 84) (v := ?_) (a' := ?_) #[true, true, true, true, true, true, true, true, true, false] rfl rfl (any_of HT_.out (by kernel_rfl)) (fun _ _ _ h => h) (Or.inl ⟨by rfl, ?_⟩) ?_ ?_
            rotate_left
            · intro w'
              go_simp
              with_reducible rfl
            rotate_left
            · simp only [Act.put, List.setIfInBounds_toArray, List.set_cons_zero, List.set_cons_succ, i64_w, i32_w]
              rfl
            refine pure_ (i := 9) (N := some 85) (v := ?_) (a' := ?_) #[true, true, true, true, true, true, true, true, true, true] rfl rfl (any_of HT_.out (by kernel_rfl)) (fun _ _ _ h => h) (Or.inl ⟨by rfl, ?_⟩) ?_ ?_
            rotate_left
            · intro w'
              go_simp
              with_reducible rfl
            rotate_left
            · simp only [Act.put, List.setIfInBounds_toArray, List.set_cons_zero, List.set_cons_succ, i64_w, i32_w]
              rfl
            refine done_ (done_of HT_.out (by kernel_rfl)) ?_
            go_wp2_with fail
            have hlt2 := HLT.out
            have hl2 := HL.out
            rw [add1 (by omega)]
            exact ⟨⟨j + 1, by omega, rfl, HQ.out⟩, by simp [intOf]; omega⟩
        · skip
          obtain rfl : j = xs.length := by omega
          have b1 : decide ((xs.length : Int) < (xs.length : Int)) = false := decide_eq_false (by omega)
          clear hlt HQ
          have k0 := blk_cell K3.out 0
          have k1 := blk_cell K3.out 1
          have k2 := blk_cell K3.out 2
          go_wp2_with fail
          go_at_call 10
          clear k0 k1 k2 b1
          refine (bucket_Check 0 0 a TA cA wr (Kd.R_reads' HRA.out).2.2 (Kd.R_reads' HRA.out).2.1 HFW.out).mono ?_
          rintro ex wz ⟨rfl, hb⟩
          have n_HB := Aside0.mk (below_step HB.out hb)
          have n_HSZ := Aside0.mk (Nat.le_trans HSZ.out hb.size)
          have n_K3 := Aside0.mk (blk_below K3.out hb)
          have n_K4 := Aside0.mk (blk_below K4.out hb)
          have n_HRA := Aside0.mk (Kd.R_below HRA.out hb)
          have n_HRB := Aside0.mk (Kd.R_below HRB.out hb)
          clear HB HSZ K3 K4 HRA HRB
          have HB := n_HB
          have HSZ := n_HSZ
          have K3 := n_K3
          have K4 := n_K4
          have HRA := n_HRA
          have HRB := n_HRB
          clear n_HB n_HSZ n_K3 n_K4 n_HRA n_HRB
          clear hb
          have k0 := blk_cell K3.out 0
          have k1 := blk_cell K3.out 1
          have k2 := blk_cell K3.out 2
          go_upto_region 19 with fail
          clear k0 k1 k2
          have hW := below_alloc (Below.refl wz.heap.size wz) (Obj.cells #[Value.int IntKind.i64 0, Value.int IntKind.i64 0, Value.slice TA a.length cA] 25)
          have hN := blk_new wz (Obj.cells #[Value.int IntKind.i64 0, Value.int IntKind.i64 0, Value.slice TA a.length cA] 25)
          obtain ⟨g10, hg10⟩ : ∃ g, g = wz.heap.size := ⟨_, rfl⟩
          rw [← hg10] at hN ⊢
          generalize wz.alloc (Obj.cells #[Value.int IntKind.i64 0, Value.int IntKind.i64 0, Value.slice TA a.length cA] 25) = WA at hW hN ⊢
          have HG10 := Aside0.mk hg10
          have HRR : Aside0 (Kd.R k27 27 WA B0 (fun k => k ≠ g10) (.slice TA a.length cA) a) := Aside0.mk (Kd.R_mono (Kd.R_below (Kd.R_bound HRA.out) hW) (fun k hk => by have := hk.2.2.1; omega))
          have HPW := Aside0.mk hW
          have K10 := Aside0.mk hN
          clear hW hN hg10
          go_wp2_with fail
          go_loopw [11] (fun i wr => ∃ (j : Nat) (r : List S27) (TR : Option Addr) (cR : Nat), j ≤ xs.length ∧ i = .int .i64 (j : Int) ∧ ShrinkI xs j r ∧ Kd.R k27 27 wr B0 (fun k => k ≠ g10) (.slice TR r.length cR) r ∧ wr.heap[g10]? = some (.cells #[Value.int IntKind.i64 0, Value.int IntKind.i64 0, Value.slice TR r.length cR] 25 (0, 0)) ∧ Below wz.heap.size wz wr)
            (fun i _ => xs.length - (intOf i).toNat)
          case atStart => exact ⟨0, a, TA, cA, Nat.zero_le _, rfl, ⟨HS1.out, fun y hy => (HS2.out y).mp hy, by have := HS3.out; have := HL.out; omega⟩, HRR.out, K10.out, HPW.out⟩
          case round =>
            clear HRR K10 HPW
            obtain ⟨j, r, TR, cR, hj, rfl, hsh, hrr, hk10, hb⟩ := hrel
            have HSH := Aside0.mk hsh
            have HRR := Aside0.mk hrr
            have K10 := Aside0.mk hk10
            clear hsh hrr hk10
            have n_HB := Aside0.mk (below_step HB.out hb)
            have n_HSZ := Aside0.mk (Nat.le_trans HSZ.out hb.size)
            have n_K3 := Aside0.mk (blk_below K3.out hb)
            have n_K4 := Aside0.mk (blk_below K4.out hb)
            have n_HRA := Aside0.mk (Kd.R_below HRA.out hb)
            have n_HRB := Aside0.mk (Kd.R_below HRB.out hb)
            clear HB HSZ K3 K4 HRA HRB
            have HB := n_HB
            have HSZ := n_HSZ
            have K3 := n_K3
            have K4 := n_K4
            have HRA := n_HRA
            have HRB := n_HRB
            clear n_HB n_HSZ n_K3 n_K4 n_HRA n_HRB
            have HQ := Aside0.mk hb
            clear hb
            by_cases hlt : j < xs.length
            · skip
              have b1 : decide ((j : Int) < (xs.length : Int)) = true := decide_eq_true (by omega)
              have b1n : decide (j < xs.length) = true := decide_eq_true hlt
              have HLT := Aside0.mk hlt
              obtain ⟨ad, e1, hx0, hx1⟩ := at_T27 HC.out (j : Int) (by omega) (by omega)
              subst e1
              rw [rd27 xs j hlt, Int.toNat_natCast] at hx0 hx1
              have HST := Aside0.mk (shrink_step HSH.out hlt)
              generalize xs[j] = x at hx0 hx1 HST
              have HX0 := Aside0.mk ((HB.out.cell (World.block_lt_of_cell? w _ hx0)).trans hx0)
              have HX1 := Aside0.mk ((HB.out.cell (World.block_lt_of_cell? w _ hx1)).trans hx1)
              have p0 := eq_true (show 0 ≤ (j : Int) by omega)
              have p1 := eq_true (show (j : Int) < (xs.length : Int) by omega)
              have p5 := eq_true hlt
              clear hlt hx0 hx1
              go_upto_region 22 with fail
              clear b1 b1n
              have hD := below_drew1 (Below.refl wr.heap.size wr)
              have n_HB := Aside0.mk (below_step HB.out hD)
              have n_HSZ := Aside0.mk (Nat.le_trans HSZ.out hD.size)
              have n_K3 := Aside0.mk (blk_below K3.out hD)
              have n_K4 := Aside0.mk (blk_below K4.out hD)
              have n_HRA := Aside0.mk (Kd.R_below HRA.out hD)
              have n_HRB := Aside0.mk (Kd.R_below HRB.out hD)
              have n_HQ := Aside0.mk (below_step HQ.out hD)
              have n_HRR := Aside0.mk (Kd.R_below HRR.out hD)
              have n_K10 := Aside0.mk (blk_below K10.out hD)
              have n_HX0 := Aside0.mk ((hD.cell (World.block_lt_of_cell? _ _ HX0.out)).trans HX0.out)
              have n_HX1 := Aside0.mk ((hD.cell (World.block_lt_of_cell? _ _ HX1.out)).trans HX1.out)
              clear HB HSZ K3 K4 HRA HRB HQ HRR K10 HX0 HX1
              have HB := n_HB
              have HSZ := n_HSZ
              have K3 := n_K3
              have K4 := n_K4
              have HRA := n_HRA
              have HRB := n_HRB
              have HQ := n_HQ
              have HRR := n_HRR
              have K10 := n_K10
              have HX0 := n_HX0
              have HX1 := n_HX1
              clear n_HB n_HSZ n_K3 n_K4 n_HRA n_HRB n_HQ n_HRR n_K10 n_HX0 n_HX1
              clear hD
              refine start_ (n := 10) (S := fun w' => w'.cell? ⟨g10, 0, none⟩ = some (.int .i64 0) ∧ w'.cell? ⟨g10, 1, none⟩ = some (.int .i64 0) ∧ w'.cell? ⟨g10, 2, none⟩ = some (.slice TR r.length cR) ∧ w'.cell? (ad.add (j * 2)) = some (.string x.f0) ∧ w'.cell? ⟨(ad.add (j * 2)).block, (ad.add (j * 2)).off + 1, none⟩ = some (.string x.f1)) (ds := [9]) #[false, false, false, false, false, false, false, false, false, false] (by kernel_rfl) rfl rfl ⟨(blk_cell K10.out 0).trans rfl, (blk_cell K10.out 1).trans rfl, (blk_cell K10.out 2).trans rfl, HX0.out, HX1.out⟩ (fun hHeld => ?_); refine with_tabW Grows.tab22 Grows.bits22 (fun HT_ HW_ => ?_)
              generalize wr.drew = V0 at HSZ HRA HRB HX0 HX1 HRR HB K3 K4 HQ K10 HX0 HX1 hHeld ⊢
              refine take_ (i := 0) (N := some 96) (v := ?_) (a' := ?_) #[true, false, false, false, false, false, false, false, false, false] rfl rfl (take_ofW HT_.out HW_.out (by kernel_rfl)) (fun _ _ _ h => h) (Or.inl ⟨by rfl, ?_⟩) hHeld ?_ ?_
              rotate_left
              · rintro w' ⟨s0, s1, s2, s3, s4⟩
                go_simp
                with_reducible rfl
              rotate_left
              · simp only [Act.put, List.setIfInBounds_toArray, List.set_cons_zero, List.set_cons_succ, i64_w, i32_w]
                rfl
              refine pure_ (i := 1) (N := some 97) (v := ?_) (a' := ?_) #[true, true, false, false, false, false, false, false, false, false] rfl rfl (any_of HT_.out (by kernel_rfl)) (fun _ _ _ h => h) (Or.inl ⟨by rfl, ?_⟩) ?_ ?_
              rotate_left
              · intro w'
                go_simp
                with_reducible rfl
              rotate_left
              · simp only [Act.put, List.setIfInBounds_toArray, List.set_cons_zero, List.set_cons_succ, i64_w, i32_w]
                rfl
              refine pure_ (i := 2) (N := some 98) (v := ?_) (a' := ?_) #[true, true, true, false, false, false, false, false, false, false] rfl rfl (any_of HT_.out (by kernel_rfl)) (fun _ _ _ h => h) (Or.inl ⟨by rfl, ?_⟩) ?_ ?_
              rotate_left
              · intro w'
                go_simp
                with_reducible rfl
              rotate_left
              · simp only [Act.put, List.setIfInBounds_toArray, List.set_cons_zero, List.set_cons_succ, i64_w, i32_w]
                rfl
              refine pure_ (i := 3) (N := some 99) (v := ?_) (a' := ?_) #[true, true, true, true, false, false, false, false, false, false] rfl rfl (any_of HT_.out (by kernel_rfl)) (fun _ _ _ h => h) (Or.inl ⟨by rfl, ?_⟩) ?_ ?_
              rotate_left
              · intro w'
                go_simp
                with_reducible rfl
              rotate_left
              · simp only [Act.put, List.setIfInBounds_toArray, List.set_cons_zero, List.set_cons_succ, i64_w, i32_w]
                rfl
              refine take_ (i := 4) (N := some 100) (v := ?_) (a' := ?_) #[true, true, true, true, true, false, false, false, false, false] rfl rfl (take_ofW HT_.out HW_.out (by kernel_rfl)) (fun _ _ _ h => h) (Or.inl ⟨by rfl, ?_⟩) hHeld ?_ ?_
              rotate_left
              · rintro w' ⟨s0, s1, s2, s3, s4⟩
                go_simp
                with_reducible rfl
              rotate_left
              · simp only [Act.put, List.setIfInBounds_toArray, List.set_cons_zero, List.set_cons_succ, i64_w, i32_w]
                rfl
              refine one_ (i := 5) (N := some 101) #[true, true, true, true, true, true, false, false, false, false] rfl rfl (one_of HT_.out (by kernel_rfl)) (by decide) (fun K hK => ?_)
              refine goes_ Try.func11 (by kernel_rfl) rfl #[.agg #[.int .i64 0, .int .i64 0, .slice TR r.length cR], .agg #[.string x.f0, .string x.f1]] (by rfl) rfl rfl (by (try simp only [List.map_toArray, List.map_cons, List.map_nil]); first | done | rfl) ?_
              refine (bucket_Remove 0 0 r TR cR x V0 (Kd.R_reads' HRR.out).2.2 (Kd.R_reads' HRR.out).2.1 HSH.out.2.2).mono ?_
              rintro ex V1 ⟨v, bo, rfl, hv, hb⟩
              refine ⟨_, rfl, ?_⟩
              obtain ⟨TR1, cR1, rfl⟩ := Kd.R_slice hv
              have HG10V : g10 < V0.heap.size := blk_lt K10.out
              have HV := Aside0.mk (Kd.R_mono (Kd.R_lower (Kd.R_bound hv) HSZ.out) (ok' := fun k => k ≠ g10) (fun k hk => by have := hk.2.1; omega))
              clear hv HG10V
              have n_HB := Aside0.mk (below_step HB.out hb)
              have n_HSZ := Aside0.mk (Nat.le_trans HSZ.out hb.size)
              have n_K3 := Aside0.mk (blk_below K3.out hb)
              have n_K4 := Aside0.mk (blk_below K4.out hb)
              have n_HRA := Aside0.mk (Kd.R_below HRA.out hb)
              have n_HRB := Aside0.mk (Kd.R_below HRB.out hb)
              have n_HQ := Aside0.mk (below_step HQ.out hb)
              have n_HRR := Aside0.mk (Kd.R_below HRR.out hb)
              have n_K10 := Aside0.mk (blk_below K10.out hb)
              have n_HX0 := Aside0.mk ((hb.cell (World.block_lt_of_cell? _ _ HX0.out)).trans HX0.out)
              have n_HX1 := Aside0.mk ((hb.cell (World.block_lt_of_cell? _ _ HX1.out)).trans HX1.out)
              clear HB HSZ K3 K4 HRA HRB HQ HRR K10 HX0 HX1
              have HB := n_HB
              have HSZ := n_HSZ
              have K3 := n_K3
              have K4 := n_K4
              have HRA := n_HRA
              have HRB := n_HRB
              have HQ := n_HQ
              have HRR := n_HRR
              have K10 := n_K10
              have HX0 := n_HX0
              have HX1 := n_HX1
              clear n_HB n_HSZ n_K3 n_K4 n_HRA n_HRB n_HQ n_HRR n_K10 n_HX0 n_HX1
              clear hb
              refine hK.out _ _ ⟨(blk_cell K10.out 0).trans rfl, (blk_cell K10.out 1).trans rfl, (blk_cell K10.out 2).trans rfl, HX0.out, HX1.out⟩ (fun hHeld => ?_)
              clear hK K
              refine norm_ (a' := ?_) ?_ ?_
              rotate_left
              · show Act.put _ (some 101) _ = _
                simp only [Act.put, List.setIfInBounds_toArray, List.set_cons_zero, List.set_cons_succ, i64_w, i32_w]
                rfl
              refine pure_ (i := 6) (N := some 95) (v := ?_) (a' := ?_) #[true, true, true, true, true, true, true, false, false, false] rfl rfl (any_of HT_.out (by kernel_rfl)) (fun _ _ _ h => h) (Or.inl ⟨by rfl, ?_⟩) ?_ ?_
              rotate_left
              · intro w'
                go_simp
                with_reducible rfl
              rotate_left
              · simp only [Act.put, List.setIfInBounds_toArray, List.set_cons_zero, List.set_cons_succ, i64_w, i32_w]
                rfl
              refine pure_ (i := 7) (N := some 102) (v := ?_) (a' := ?_) #[true, true, true, true, true, true, true, true, false, false] rfl rfl (any_of HT_.out (by kernel_rfl)) (fun _ _ _ h => h) (Or.inl ⟨by rfl, ?_⟩) ?_ ?_
              rotate_left
              · intro w'
                go_simp
                with_reducible rfl
              rotate_left
              · simp only [Act.put, List.setIfInBounds_toArray, List.set_cons_zero, List.set_cons_succ, i64_w, i32_w]
                rfl
              refine pure_ (i := 8) (N := some 103) (v := ?_) (a' := ?_) #[true, true, true, true, true, true, true, true, true, false] rfl rfl (any_of HT_.out (by kernel_rfl)) (fun _ _ _ h => h) (Or.inl ⟨by rfl, ?_⟩) ?_ ?_
              rotate_left
              · intro w'
                go_simp
                with_reducible rfl
              rotate_left
              · simp only [Act.put, List.setIfInBounds_toArray, List.set_cons_zero, List.set_cons_succ, i64_w, i32_w]
                rfl
              refine last_ (i := 9) (N := none) #[true, true, true, true, true, true, true, true, true, true] rfl rfl (one_of HT_.out (by kernel_rfl)) (by decide) (fun K hK => ?_)
              have c0 := blk_cell K10.out 0
              have c1 := blk_cell K10.out 1
              have c2 := blk_cell K10.out 2
              have f0 := blk_frozen K10.out 0
              have f1 := blk_frozen K10.out 1
              have f2 := blk_frozen K10.out 2
              refine skip_step (w1 := put3 V1 g10 (Value.int IntKind.i64 0) (Value.int IntKind.i64 0) (Value.slice TR1 (remT r x).length cR1)) (by rfl) rfl (by first | (go_simp; done) | (go_simp; rfl)) ?_
              clear c0 c1 c2 f0 f1 f2
              refine hK.out _ _ ?_
              clear hK K
              refine done_ (done_of HT_.out (by kernel_rfl)) ?_
              clear hHeld HT_ HW_
              have nQ := Aside0.mk (put3_below HQ.out (show wz.heap.size ≤ g10 from Nat.le_of_eq HG10.out.symm) (Value.int IntKind.i64 0) (Value.int IntKind.i64 0) (Value.slice TR1 (remT r x).length cR1))
              have nK := Aside0.mk (put3_heap K10.out (Value.int IntKind.i64 0) (Value.int IntKind.i64 0) (Value.slice TR1 (remT r x).length cR1))
              have nV := Aside0.mk (Kd.R_step HV.out (fun k hk _ => put3_far V1 g10 (Value.int IntKind.i64 0) (Value.int IntKind.i64 0) (Value.slice TR1 (remT r x).length cR1) hk))
              clear HQ K10 HV HRR HB HSZ K3 K4 HRA HRB HX0 HX1
              generalize put3 V1 g10 (Value.int IntKind.i64 0) (Value.int IntKind.i64 0) (Value.slice TR1 (remT r x).length cR1) = V2 at nQ nK nV ⊢
              go_wp2_with fail
              have hlt2 := HLT.out
              have hl2 := HL.out
              rw [add1 (by omega)]
              exact ⟨⟨j + 1, remT r x, TR1, cR1, by omega, rfl, HST.out, nV.out, nK.out, nQ.out⟩, by simp [intOf]; omega⟩
            · skip
              obtain rfl : j = xs.length := by omega
              have b1 : decide ((xs.length : Int) < (xs.length : Int)) = false := decide_eq_false (by omega)
              clear hlt HQ
              have hr0 := shrink_end HSH.out
              subst hr0
              clear HRR HSH
              have k0 := blk_cell K3.out 0
              have k1 := blk_cell K3.out 1
              have k2 := blk_cell K3.out 2
              have m0 := blk_cell K4.out 0
              have m1 := blk_cell K4.out 1
              have m2 := blk_cell K4.out 2
              go_wp2_with fail
              go_at_call 12
              clear k0 k1 k2 m0 m1 m2 b1
              refine (bucket_Same.calls 1001 0 0 TA cA a 0 0 TB cB a true wr (Kd.R_reads' HRA.out).2.2 (Kd.R_reads' HRA.out).2.1 (Kd.R_reads' HRB.out).2.2 (Kd.R_reads' HRB.out).2.1 (by rw [same_is 0 0 0 0 a a (by have := HS3.out; have := HL.out; omega), sames_self]; rfl)).mono ?_
              rintro ex X1 ⟨rfl, hb⟩
              have n_HB := Aside0.mk (below_step HB.out hb)
              have n_HSZ := Aside0.mk (Nat.le_trans HSZ.out hb.size)
              have n_K3 := Aside0.mk (blk_below K3.out hb)
              have n_K4 := Aside0.mk (blk_below K4.out hb)
              have n_HRA := Aside0.mk (Kd.R_below HRA.out hb)
              have n_HRB := Aside0.mk (Kd.R_below HRB.out hb)
              have n_K10 := Aside0.mk (blk_below K10.out hb)
              clear HB HSZ K3 K4 HRA HRB K10
              have HB := n_HB
              have HSZ := n_HSZ
              have K3 := n_K3
              have K4 := n_K4
              have HRA := n_HRA
              have HRB := n_HRB
              have K10 := n_K10
              clear n_HB n_HSZ n_K3 n_K4 n_HRA n_HRB n_K10
              clear hb
              have n0 := blk_cell K10.out 2
              have hck := HS4.out
              by_cases hbig : 246 < sizeN a
              · rw [if_pos hbig] at hck
                rw [hck]
                have hbd : decide ((246 : Int) < (sizeN a : Int)) = true := decide_eq_true (by omega)
                have hbdn : decide (246 < sizeN a) = true := decide_eq_true hbig
                have k0 := blk_cell K3.out 0
                have k1 := blk_cell K3.out 1
                have k2 := blk_cell K3.out 2
                go_wp2_with fail
                go_at_call 13
                clear k0 k1 k2 n0
                refine (bucket_Size.calls 1001 0 0 TA cA a (sizeN a) X1 (Kd.R_reads' HRA.out).2.2 (Kd.R_reads' HRA.out).2.1 (size_is 0 0 a HFW.out)).mono ?_
                rintro ex X2 ⟨rfl, hb⟩
                have n_HB := Aside0.mk (below_step HB.out hb)
                have n_HSZ := Aside0.mk (Nat.le_trans HSZ.out hb.size)
                have n_K3 := Aside0.mk (blk_below K3.out hb)
                have n_K4 := Aside0.mk (blk_below K4.out hb)
                have n_HRA := Aside0.mk (Kd.R_below HRA.out hb)
                have n_HRB := Aside0.mk (Kd.R_below HRB.out hb)
                have n_K10 := Aside0.mk (blk_below K10.out hb)
                clear HB HSZ K3 K4 HRA HRB K10
                have HB := n_HB
                have HSZ := n_HSZ
                have K3 := n_K3
                have K4 := n_K4
                have HRA := n_HRA
                have HRB := n_HRB
                have K10 := n_K10
                clear n_HB n_HSZ n_K3 n_K4 n_HRA n_HRB n_K10
                clear hb
                have n0 := blk_cell K10.out 2
                go_wp2_with fail
                go_at_call 7
                refine (awake_calls X2).mono ?_
                rintro ex VA ⟨rfl, hb⟩
                have HBA := Aside0.mk (below_step HB.out hb)
                clear hb
                go_wp2_with fail
                go_ret
                exact ⟨rfl, HBA.out⟩
              · rw [if_neg hbig] at hck
                rw [hck]
                go_wp2_with fail
                go_at_call 7
                refine (awake_calls X1).mono ?_
                rintro ex VA ⟨rfl, hb⟩
                have HBA := Aside0.mk (below_step HB.out hb)
                clear hb
                go_wp2_with fail
                go_ret
                exact ⟨rfl, HBA.out⟩
end Go.Proofs.Ytgbjinonlfhciaa.MBk
