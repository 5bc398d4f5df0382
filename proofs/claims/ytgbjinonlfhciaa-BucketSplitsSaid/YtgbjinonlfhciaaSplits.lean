/- The walk of BucketSplits. -/
import Derived.Test.YtgbjinonlfhciaaHash
namespace Go.Proofs.Ytgbjinonlfhciaa.MBk
open Go.RowKit Go.Proofs.Ytgbjinonlfhciaa.BkV Go.Proofs.YtgbjinonlfhciaaW.PrintWords Go.Proofs.YtgbjinonlfhciaaW.PrintLast Go.Proofs.YtgbjinonlfhciaaW.PrintMore
set_option linter.unusedVariables false
set_option linter.unusedSimpArgs false
def Splits.T8 : Bool × List (List Nat × List Nat) := (true, [([], []), ([], []), ([0, 1], [0, 1]), ([2], [2]), ([], []), ([3, 4], [3, 4]), ([], []), ([], []), ([6, 7], [6, 7]), ([8], [8]), ([], []), ([9, 10, 5], [9, 10]), ([5, 11], [5, 11]), ([12, 11], [12]), ([13], [13]), ([13], [13]), ([13], [13]), ([15, 16, 13], [13, 15, 16]), ([17, 13], [13, 17]), ([14, 18, 13, 13], [13, 14, 18]), ([13], [13]), ([13], [13]), ([13], [13]), ([21, 22, 13], [13, 21, 22]), ([23, 13], [13, 23]), ([20, 24, 19, 13], [13, 20, 24]), ([19, 25, 13], [13, 19, 25]), ([13, 26], [13, 26])])
def Splits.B8 : List Nat := [0, 0, 3, 7, 0, 31, 0, 0, 192, 448, 0, 2047, 4095, 8191, 16383, 16383, 16383, 114687, 245759, 524287, 16383, 16383, 16383, 6307839, 14696447, 33554431, 67108863, 134217727]
theorem Splits.tab8 : rtab .any (opsOf Try.f4 8) = Splits.T8 := by kernel_rfl
theorem Splits.bits8 : waitsOk Splits.T8.2 Splits.B8 = true := by kernel_rfl
set_option maxHeartbeats 16000000 in
set_option maxRecDepth 100000 in
theorem BucketSplits_calls (xs : List S27) (A : Option Addr) (c : Nat) (at_ : Int) (x : S27) (w : World) (hC : Kd.C k27 w A xs.length xs) (hc : xs.length ≤ c) (hw : -9223372036854775808 ≤ at_ ∧ at_ < 9223372036854775808) :
    Calls Try.prog 4 #[.slice A xs.length c, .int .i64 at_, .agg #[.string x.f0, .string x.f1]] w fun e w' => e = .returned (.bool true) ∧ Below w.heap.size w w' := by
  have HC := Aside0.mk hC
  have HCc := Aside0.mk hc
  clear hC hc
  go_enter Try.func4, Try.ntmps4
  go_upto_region 1 with fail
  have HB := Aside0.mk (Below.refl w.heap.size w)
  obtain ⟨g, hg⟩ : ∃ g, g = w.heap.size := ⟨_, rfl⟩
  have hW := below_alloc (Below.refl w.heap.size w) (Obj.cells #[Value.string x.f0, Value.string x.f1] 27)
  have hN := blk_new w (Obj.cells #[Value.string x.f0, Value.string x.f1] 27)
  rw [← hg] at hN ⊢
  generalize w.alloc (Obj.cells #[Value.string x.f0, Value.string x.f1] 27) = W1 at hW hN ⊢
  have n_HC := Aside0.mk (Kd.C_below HC.out hW)
  have n_HB := Aside0.mk (below_step HB.out hW)
  clear HC HB
  have HC := n_HC
  have HB := n_HB
  clear n_HC n_HB
  have HK := Aside0.mk (hN)
  have Eg := Aside0.mk hg
  clear hW hN hg
  go_wp2_with fail
  go_at_call 14
  obtain ⟨r, hr, hP⟩ := light_is xs 100 (by decide)
  refine (intarsiaref10_Light.calls 1001 A c xs 100 r W1 HC.out HCc.out hr).mono ?_
  rintro ex W2 ⟨rfl, hd_⟩
  have hb := hd_.below
  clear hd_
  have n_HC := Aside0.mk (Kd.C_below HC.out hb)
  have n_HB := Aside0.mk (below_step HB.out hb)
  have n_HK := Aside0.mk (blk_below HK.out hb)
  clear HC HB HK
  have HC := n_HC
  have HB := n_HB
  have HK := n_HK
  clear n_HC n_HB n_HK
  clear hb
  clear hr
  cases r with
  | false =>
    clear hP
    go_wp2_with fail
    go_at_call 7
    refine (awake_calls W2).mono ?_
    rintro ex VA ⟨rfl, hb⟩
    have HBA := Aside0.mk (below_step HB.out hb)
    clear hb
    go_wp2_with fail
    go_ret
    exact ⟨rfl, HBA.out⟩
  | true =>
    have HXS := Aside0.mk (hP rfl)
    clear hP
    have k0 := blk_cell HK.out 0
    have k1 := blk_cell HK.out 1
    go_wp2_with fail
    obtain ⟨g2, hg2⟩ : ∃ g, g = W2.heap.size := ⟨_, rfl⟩
    have hW := below_alloc (Below.refl W2.heap.size W2) (Obj.cells #[Value.string x.f0, Value.string x.f1] 27)
    have hN := blk_new W2 (Obj.cells #[Value.string x.f0, Value.string x.f1] 27)
    rw [← hg2] at hN ⊢
    generalize W2.alloc (Obj.cells #[Value.string x.f0, Value.string x.f1] 27) = W3 at hW hN ⊢
    have n_HC := Aside0.mk (Kd.C_below HC.out hW)
    have n_HB := Aside0.mk (below_step HB.out hW)
    have n_HK := Aside0.mk (blk_below HK.out hW)
    clear HC HB HK
    have HC := n_HC
    have HB := n_HB
    have HK := n_HK
    clear n_HC n_HB n_HK
    have HK2 := Aside0.mk (hN)
    have Eg2 := Aside0.mk hg2
    clear hW hN hg2
    clear k0 k1
    go_at_call 14
    have hone := one_reads (x := x) HK2.out
    have HC1 := Aside0.mk (show Kd.C k27 W3 (some ⟨g2, 0, none⟩) 1 [x] from hone.imp_ (Below.refl _ _) (fun p cs hp => by rw [hp]; exact k27_mk _ _))
    clear hone
    obtain ⟨r, hr, hP⟩ := light_is [x] 1 (by decide)
    refine (intarsiaref10_Light.calls 1001 (some ⟨g2, 0, none⟩) 1 [x] 1 r W3 HC1.out (Nat.le_refl _) hr).mono ?_
    rintro ex W4 ⟨rfl, hd_⟩
    have hb := hd_.below
    clear hd_
    have n_HC := Aside0.mk (Kd.C_below HC.out hb)
    have n_HB := Aside0.mk (below_step HB.out hb)
    have n_HK := Aside0.mk (blk_below HK.out hb)
    have n_HK2 := Aside0.mk (blk_below HK2.out hb)
    clear HC HB HK HK2
    have HC := n_HC
    have HB := n_HB
    have HK := n_HK
    have HK2 := n_HK2
    clear n_HC n_HB n_HK n_HK2
    clear hb
    clear hr HC1 HK2
    cases r with
    | false =>
      clear hP
      go_wp2_with fail
      go_at_call 7
      refine (awake_calls W4).mono ?_
      rintro ex VA ⟨rfl, hb⟩
      have HBA := Aside0.mk (below_step HB.out hb)
      clear hb
      go_wp2_with fail
      go_ret
      exact ⟨rfl, HBA.out⟩
    | true =>
      have HX := Aside0.mk (hP rfl)
      clear hP
      obtain ⟨r1, r2, hs1, hs2, hl1, hl2⟩ := split_same xs at_ (by have := HXS.out.1; omega) (fun y hy => by have := (HXS.out.2 y hy).1; omega)
      have HS2 := Aside0.mk hs2
      have HL1 := Aside0.mk hl1
      have HL2 := Aside0.mk hl2
      go_wp2_with fail
      go_at_call 15
      refine (bucket_Split.calls 4000 A c xs at_ r1 r2 W4 HC.out HCc.out hs1).mono ?_
      clear hs1 hs2 hl1 hl2
      rintro ex W5 ⟨v0, v1, rfl, hv0, hv1, hb⟩
      obtain ⟨T0, c0, rfl⟩ := Kd.R_slice hv0
      obtain ⟨T1, c1, rfl⟩ := Kd.R_slice hv1
      have n_HC := Aside0.mk (Kd.C_below HC.out hb)
      have n_HB := Aside0.mk (below_step HB.out hb)
      have n_HK := Aside0.mk (blk_below HK.out hb)
      clear HC HB HK
      have HC := n_HC
      have HB := n_HB
      have HK := n_HK
      clear n_HC n_HB n_HK
      have HV0 := Aside0.mk (Kd.R_reads' hv0).2.2
      have HV0c := Aside0.mk (Kd.R_reads' hv0).2.1
      have HV1 := Aside0.mk (Kd.R_reads' hv1).2.2
      have HV1c := Aside0.mk (Kd.R_reads' hv1).2.1
      clear hb hv0 hv1
      go_wp2_with fail
      go_at_call 16
      refine (intarsiaref10_Split.calls 4000 A c xs at_ r1 r2 W5 HC.out HCc.out HS2.out).mono ?_
      rintro ex W6 ⟨v0, v1, rfl, hv0, hv1, hb⟩
      obtain ⟨T2, c2, rfl⟩ := Kd.R_slice hv0
      obtain ⟨T3, c3, rfl⟩ := Kd.R_slice hv1
      have n_HC := Aside0.mk (Kd.C_below HC.out hb)
      have n_HB := Aside0.mk (below_step HB.out hb)
      have n_HK := Aside0.mk (blk_below HK.out hb)
      have n_HV0 := Aside0.mk (Kd.C_below HV0.out hb)
      have n_HV1 := Aside0.mk (Kd.C_below HV1.out hb)
      clear HC HB HK HV0 HV1
      have HC := n_HC
      have HB := n_HB
      have HK := n_HK
      have HV0 := n_HV0
      have HV1 := n_HV1
      clear n_HC n_HB n_HK n_HV0 n_HV1
      have HV2 := Aside0.mk (Kd.R_reads' hv0).2.2
      have HV2c := Aside0.mk (Kd.R_reads' hv0).2.1
      have HV3 := Aside0.mk (Kd.R_reads' hv1).2.2
      have HV3c := Aside0.mk (Kd.R_reads' hv1).2.1
      clear hb hv0 hv1 HS2
      go_wp2_with fail
      go_loopw [11] (fun i wr => ∃ (j : Nat), j ≤ xs.length ∧ i = .int .i64 (j : Int) ∧ Below W6.heap.size W6 wr)
        (fun i _ => xs.length - (intOf i).toNat)
      case atStart => exact ⟨0, Nat.zero_le _, rfl, Below.refl _ _⟩
      case round =>
        obtain ⟨j, hj, rfl, hb⟩ := hrel
        have hLB := hb
        have n_HC := Aside0.mk (Kd.C_below HC.out hb)
        have n_HB := Aside0.mk (below_step HB.out hb)
        have n_HK := Aside0.mk (blk_below HK.out hb)
        have n_HV0 := Aside0.mk (Kd.C_below HV0.out hb)
        have n_HV1 := Aside0.mk (Kd.C_below HV1.out hb)
        have n_HV2 := Aside0.mk (Kd.C_below HV2.out hb)
        have n_HV3 := Aside0.mk (Kd.C_below HV3.out hb)
        clear HC HB HK HV0 HV1 HV2 HV3
        have HC := n_HC
        have HB := n_HB
        have HK := n_HK
        have HV0 := n_HV0
        have HV1 := n_HV1
        have HV2 := n_HV2
        have HV3 := n_HV3
        clear n_HC n_HB n_HK n_HV0 n_HV1 n_HV2 n_HV3
        clear hb
        by_cases hlt : j < xs.length
        · skip
          have b1 : decide ((j : Int) < (xs.length : Int)) = true := decide_eq_true (by omega)
          have b1n : decide (j < xs.length) = true := decide_eq_true hlt
          have HLT := Aside0.mk hlt
          have HLB := Aside0.mk hLB
          clear hLB
          obtain ⟨ad, e1, hx0, hx1⟩ := at_T27 HC.out (j : Int) (by omega) (by omega)
          subst e1
          rw [rd27 xs j hlt, Int.toNat_natCast] at hx0 hx1
          generalize xs[j] = y at hx0 hx1
          have HX0 := Aside0.mk hx0
          have HX1 := Aside0.mk hx1
          have p0 := eq_true (show 0 ≤ (j : Int) by omega)
          have p1 := eq_true (show (j : Int) < (xs.length : Int) by omega)
          have p5 := eq_true hlt
          clear hx0 hx1 hlt
          go_upto_region 8 with fail
          clear b1 b1n
          have hD := below_drew1 (Below.refl wr.heap.size wr)
          have n_HX0 := Aside0.mk ((hD.cell (World.block_lt_of_cell? _ _ HX0.out)).trans HX0.out)
          have n_HX1 := Aside0.mk ((hD.cell (World.block_lt_of_cell? _ _ HX1.out)).trans HX1.out)
          clear HX0 HX1
          have HX0 := n_HX0
          have HX1 := n_HX1
          clear n_HX0 n_HX1
          have n_HC := Aside0.mk (Kd.C_below HC.out hD)
          have n_HB := Aside0.mk (below_step HB.out hD)
          have n_HK := Aside0.mk (blk_below HK.out hD)
          have n_HV0 := Aside0.mk (Kd.C_below HV0.out hD)
          have n_HV1 := Aside0.mk (Kd.C_below HV1.out hD)
          have n_HV2 := Aside0.mk (Kd.C_below HV2.out hD)
          have n_HV3 := Aside0.mk (Kd.C_below HV3.out hD)
          have n_HLB := Aside0.mk (below_step HLB.out hD)
          clear HC HB HK HV0 HV1 HV2 HV3 HLB
          have HC := n_HC
          have HB := n_HB
          have HK := n_HK
          have HV0 := n_HV0
          have HV1 := n_HV1
          have HV2 := n_HV2
          have HV3 := n_HV3
          have HLB := n_HLB
          clear n_HC n_HB n_HK n_HV0 n_HV1 n_HV2 n_HV3 n_HLB
          clear hD
          refine start_ (n := 28) (S := fun w' => w'.cell? (ad.add (j * 2)) = some (.string y.f0) ∧ w'.cell? ⟨(ad.add (j * 2)).block, (ad.add (j * 2)).off + 1, none⟩ = some (.string y.f1) ∧ w'.cell? ⟨g, 0, none⟩ = some (.string x.f0) ∧ w'.cell? ⟨g, 1, none⟩ = some (.string x.f1)) (ds := []) #[false, false, false, false, false, false, false, false, false, false, false, false, false, false, false, false, false, false, false, false, false, false, false, false, false, false, false, false] (by kernel_rfl) rfl rfl ⟨HX0.out, HX1.out, (blk_cell HK.out 0).trans rfl, (blk_cell HK.out 1).trans rfl⟩ (fun hHeld => ?_); refine with_tabW Splits.tab8 Splits.bits8 (fun HT_ HW_ => ?_)
          generalize wr.drew = V0 at HC HB HK HV0 HV1 HV2 HV3 HX0 HX1 HLB hHeld ⊢
          refine pure_ (i := 0) (N := some 40) (v := ?_) (a' := ?_) #[true, false, false, false, false, false, false, false, false, false, false, false, false, false, false, false, false, false, false, false, false, false, false, false, false, false, false, false] rfl rfl (any_of HT_.out (by kernel_rfl)) (fun _ _ _ h => h) (Or.inl ⟨by rfl, ?_⟩) ?_ ?_
          rotate_left
          · intro w'
            go_simp
            with_reducible rfl
          rotate_left
          · simp only [Act.put, List.setIfInBounds_toArray, List.set_cons_zero, List.set_cons_succ, i64_w, i32_w]
            rfl
          refine pure_ (i := 1) (N := some 41) (v := ?_) (a' := ?_) #[true, true, false, false, false, false, false, false, false, false, false, false, false, false, false, false, false, false, false, false, false, false, false, false, false, false, false, false] rfl rfl (any_of HT_.out (by kernel_rfl)) (fun _ _ _ h => h) (Or.inl ⟨by rfl, ?_⟩) ?_ ?_
          rotate_left
          · intro w'
            go_simp
            with_reducible rfl
          rotate_left
          · simp only [Act.put, List.setIfInBounds_toArray, List.set_cons_zero, List.set_cons_succ, i64_w, i32_w]
            rfl
          refine pure_ (i := 2) (N := some 42) (v := ?_) (a' := ?_) #[true, true, true, false, false, false, false, false, false, false, false, false, false, false, false, false, false, false, false, false, false, false, false, false, false, false, false, false] rfl rfl (any_of HT_.out (by kernel_rfl)) (fun _ _ _ h => h) (Or.inl ⟨by rfl, ?_⟩) ?_ ?_
          rotate_left
          · intro w'
            go_simp
            with_reducible rfl
          rotate_left
          · simp only [Act.put, List.setIfInBounds_toArray, List.set_cons_zero, List.set_cons_succ, i64_w, i32_w]
            rfl
          refine take_ (i := 3) (N := some 43) (v := ?_) (a' := ?_) #[true, true, true, true, false, false, false, false, false, false, false, false, false, false, false, false, false, false, false, false, false, false, false, false, false, false, false, false] rfl rfl (take_ofW HT_.out HW_.out (by kernel_rfl)) (fun _ _ _ h => h) (Or.inl ⟨by rfl, ?_⟩) hHeld ?_ ?_
          rotate_left
          · rintro w' ⟨s0, s1, s2, s3⟩
            go_simp
            with_reducible rfl
          rotate_left
          · simp only [Act.put, List.setIfInBounds_toArray, List.set_cons_zero, List.set_cons_succ, i64_w, i32_w]
            rfl
          refine take_ (i := 4) (N := some 44) (v := ?_) (a' := ?_) #[true, true, true, true, true, false, false, false, false, false, false, false, false, false, false, false, false, false, false, false, false, false, false, false, false, false, false, false] rfl rfl (take_ofW HT_.out HW_.out (by kernel_rfl)) (fun _ _ _ h => h) (Or.inl ⟨by rfl, ?_⟩) hHeld ?_ ?_
          rotate_left
          · rintro w' ⟨s0, s1, s2, s3⟩
            go_simp
            with_reducible rfl
          rotate_left
          · simp only [Act.put, List.setIfInBounds_toArray, List.set_cons_zero, List.set_cons_succ, i64_w, i32_w]
            rfl
          refine pure_ (i := 6) (N := some 46) (v := ?_) (a' := ?_) #[true, true, true, true, true, false, true, false, false, false, false, false, false, false, false, false, false, false, false, false, false, false, false, false, false, false, false, false] rfl rfl (any_of HT_.out (by kernel_rfl)) (fun _ _ _ h => h) (Or.inl ⟨by rfl, ?_⟩) ?_ ?_
          rotate_left
          · intro w'
            go_simp
            with_reducible rfl
          rotate_left
          · simp only [Act.put, List.setIfInBounds_toArray, List.set_cons_zero, List.set_cons_succ, i64_w, i32_w]
            rfl
          refine pure_ (i := 7) (N := some 47) (v := ?_) (a' := ?_) #[true, true, true, true, true, false, true, true, false, false, false, false, false, false, false, false, false, false, false, false, false, false, false, false, false, false, false, false] rfl rfl (any_of HT_.out (by kernel_rfl)) (fun _ _ _ h => h) (Or.inl ⟨by rfl, ?_⟩) ?_ ?_
          rotate_left
          · intro w'
            go_simp
            with_reducible rfl
          rotate_left
          · simp only [Act.put, List.setIfInBounds_toArray, List.set_cons_zero, List.set_cons_succ, i64_w, i32_w]
            rfl
          refine pure_ (i := 8) (N := some 48) (v := ?_) (a' := ?_) #[true, true, true, true, true, false, true, true, true, false, false, false, false, false, false, false, false, false, false, false, false, false, false, false, false, false, false, false] rfl rfl (any_of HT_.out (by kernel_rfl)) (fun _ _ _ h => h) (Or.inl ⟨by rfl, ?_⟩) ?_ ?_
          rotate_left
          · intro w'
            go_simp
            with_reducible rfl
          rotate_left
          · simp only [Act.put, List.setIfInBounds_toArray, List.set_cons_zero, List.set_cons_succ, i64_w, i32_w]
            rfl
          refine take_ (i := 9) (N := some 49) (v := ?_) (a' := ?_) #[true, true, true, true, true, false, true, true, true, true, false, false, false, false, false, false, false, false, false, false, false, false, false, false, false, false, false, false] rfl rfl (take_ofW HT_.out HW_.out (by kernel_rfl)) (fun _ _ _ h => h) (Or.inl ⟨by rfl, ?_⟩) hHeld ?_ ?_
          rotate_left
          · rintro w' ⟨s0, s1, s2, s3⟩
            go_simp
            with_reducible rfl
          rotate_left
          · simp only [Act.put, List.setIfInBounds_toArray, List.set_cons_zero, List.set_cons_succ, i64_w, i32_w]
            rfl
          refine take_ (i := 10) (N := some 50) (v := ?_) (a' := ?_) #[true, true, true, true, true, false, true, true, true, true, true, false, false, false, false, false, false, false, false, false, false, false, false, false, false, false, false, false] rfl rfl (take_ofW HT_.out HW_.out (by kernel_rfl)) (fun _ _ _ h => h) (Or.inl ⟨by rfl, ?_⟩) hHeld ?_ ?_
          rotate_left
          · rintro w' ⟨s0, s1, s2, s3⟩
            go_simp
            with_reducible rfl
          rotate_left
          · simp only [Act.put, List.setIfInBounds_toArray, List.set_cons_zero, List.set_cons_succ, i64_w, i32_w]
            rfl
          refine one_ (i := 5) (N := some 45) #[true, true, true, true, true, true, true, true, true, true, true, false, false, false, false, false, false, false, false, false, false, false, false, false, false, false, false, false] rfl rfl (one_of HT_.out (by kernel_rfl)) (by decide) (fun K hK => ?_)
          refine goes_ Try.func17 (by kernel_rfl) rfl #[.agg #[.string y.f0, .string y.f1], .agg #[.string x.f0, .string x.f1]] (by rfl) rfl rfl (by (try simp only [List.map_toArray, List.map_cons, List.map_nil]); first | done | rfl) ?_
          refine (bucket_Less.calls 3 y.f0 y.f1 x.f0 x.f1 (lessT y x) V0 (less_is 0 y x)).mono ?_
          rintro ex V1 ⟨rfl, hb⟩
          refine ⟨_, rfl, ?_⟩
          have n_HX0 := Aside0.mk ((hb.cell (World.block_lt_of_cell? _ _ HX0.out)).trans HX0.out)
          have n_HX1 := Aside0.mk ((hb.cell (World.block_lt_of_cell? _ _ HX1.out)).trans HX1.out)
          clear HX0 HX1
          have HX0 := n_HX0
          have HX1 := n_HX1
          clear n_HX0 n_HX1
          have n_HC := Aside0.mk (Kd.C_below HC.out hb)
          have n_HB := Aside0.mk (below_step HB.out hb)
          have n_HK := Aside0.mk (blk_below HK.out hb)
          have n_HV0 := Aside0.mk (Kd.C_below HV0.out hb)
          have n_HV1 := Aside0.mk (Kd.C_below HV1.out hb)
          have n_HV2 := Aside0.mk (Kd.C_below HV2.out hb)
          have n_HV3 := Aside0.mk (Kd.C_below HV3.out hb)
          have n_HLB := Aside0.mk (below_step HLB.out hb)
          clear HC HB HK HV0 HV1 HV2 HV3 HLB
          have HC := n_HC
          have HB := n_HB
          have HK := n_HK
          have HV0 := n_HV0
          have HV1 := n_HV1
          have HV2 := n_HV2
          have HV3 := n_HV3
          have HLB := n_HLB
          clear n_HC n_HB n_HK n_HV0 n_HV1 n_HV2 n_HV3 n_HLB
          clear hb
          refine hK.out _ _ ⟨HX0.out, HX1.out, (blk_cell HK.out 0).trans rfl, (blk_cell HK.out 1).trans rfl⟩ (fun hHeld => ?_)
          clear hK K
          refine norm_ (a' := ?_) ?_ ?_
          rotate_left
          · show Act.put _ (some 45) _ = _
            simp only [Act.put, List.setIfInBounds_toArray, List.set_cons_zero, List.set_cons_succ, i64_w, i32_w]
            rfl
          refine one_ (i := 11) (N := some 51) #[true, true, true, true, true, true, true, true, true, true, true, true, false, false, false, false, false, false, false, false, false, false, false, false, false, false, false, false] rfl rfl (one_of HT_.out (by kernel_rfl)) (by decide) (fun K hK => ?_)
          refine goes_ Try.func18 (by kernel_rfl) rfl #[.agg #[.string y.f0, .string y.f1], .agg #[.string x.f0, .string x.f1]] (by rfl) rfl rfl (by (try simp only [List.map_toArray, List.map_cons, List.map_nil]); first | done | rfl) ?_
          refine (intarsiaref10_Less.calls y.f0 y.f1 x.f0 x.f1 (lessT y x) V1 (rless_is y x)).mono ?_
          rintro ex V2 ⟨rfl, hb⟩
          refine ⟨_, rfl, ?_⟩
          have n_HX0 := Aside0.mk ((hb.cell (World.block_lt_of_cell? _ _ HX0.out)).trans HX0.out)
          have n_HX1 := Aside0.mk ((hb.cell (World.block_lt_of_cell? _ _ HX1.out)).trans HX1.out)
          clear HX0 HX1
          have HX0 := n_HX0
          have HX1 := n_HX1
          clear n_HX0 n_HX1
          have n_HC := Aside0.mk (Kd.C_below HC.out hb)
          have n_HB := Aside0.mk (below_step HB.out hb)
          have n_HK := Aside0.mk (blk_below HK.out hb)
          have n_HV0 := Aside0.mk (Kd.C_below HV0.out hb)
          have n_HV1 := Aside0.mk (Kd.C_below HV1.out hb)
          have n_HV2 := Aside0.mk (Kd.C_below HV2.out hb)
          have n_HV3 := Aside0.mk (Kd.C_below HV3.out hb)
          have n_HLB := Aside0.mk (below_step HLB.out hb)
          clear HC HB HK HV0 HV1 HV2 HV3 HLB
          have HC := n_HC
          have HB := n_HB
          have HK := n_HK
          have HV0 := n_HV0
          have HV1 := n_HV1
          have HV2 := n_HV2
          have HV3 := n_HV3
          have HLB := n_HLB
          clear n_HC n_HB n_HK n_HV0 n_HV1 n_HV2 n_HV3 n_HLB
          clear hb
          refine hK.out _ _ ⟨HX0.out, HX1.out, (blk_cell HK.out 0).trans rfl, (blk_cell HK.out 1).trans rfl⟩ (fun hHeld => ?_)
          clear hK K
          refine norm_ (a' := ?_) ?_ ?_
          rotate_left
          · show Act.put _ (some 51) _ = _
            simp only [Act.put, List.setIfInBounds_toArray, List.set_cons_zero, List.set_cons_succ, i64_w, i32_w]
            rfl
          refine pure_ (i := 12) (N := some 52) (v := ?_) (a' := ?_) #[true, true, true, true, true, true, true, true, true, true, true, true, true, false, false, false, false, false, false, false, false, false, false, false, false, false, false, false] rfl rfl (any_of HT_.out (by kernel_rfl)) (fun _ _ _ h => h) (Or.inl ⟨by rfl, ?_⟩) ?_ ?_
          rotate_left
          · intro w'
            go_simp
            with_reducible rfl
          rotate_left
          · simp only [Act.put, List.setIfInBounds_toArray, List.set_cons_zero, List.set_cons_succ, i64_w, i32_w]
            rfl
          refine pure_ (i := 13) (N := some 53) (v := ?_) (a' := ?_) #[true, true, true, true, true, true, true, true, true, true, true, true, true, true, false, false, false, false, false, false, false, false, false, false, false, false, false, false] rfl rfl (any_of HT_.out (by kernel_rfl)) (fun _ _ _ h => h) (Or.inl ⟨by rfl, ?_⟩) ?_ ?_
          rotate_left
          · intro w'
            go_simp
            with_reducible rfl
          rotate_left
          · simp only [Act.put, List.setIfInBounds_toArray, List.set_cons_zero, List.set_cons_succ, i64_w, i32_w]
            rfl
          refine take_ (i := 14) (N := some 54) (v := ?_) (a' := ?_) #[true, true, true, true, true, true, true, true, true, true, true, true, true, true, true, false, false, false, false, false, false, false, false, false, false, false, false, false] rfl rfl (take_ofW HT_.out HW_.out (by kernel_rfl)) (fun _ _ _ h => h) (Or.inl ⟨by rfl, ?_⟩) hHeld ?_ ?_
          rotate_left
          · rintro w' ⟨s0, s1, s2, s3⟩
            go_simp
            with_reducible rfl
          rotate_left
          · simp only [Act.put, List.setIfInBounds_toArray, List.set_cons_zero, List.set_cons_succ, i64_w, i32_w]
            rfl
          refine pure_ (i := 15) (N := some 55) (v := ?_) (a' := ?_) #[true, true, true, true, true, true, true, true, true, true, true, true, true, true, true, true, false, false, false, false, false, false, false, false, false, false, false, false] rfl rfl (any_of HT_.out (by kernel_rfl)) (fun _ _ _ h => h) (Or.inl ⟨by rfl, ?_⟩) ?_ ?_
          rotate_left
          · intro w'
            go_simp
            with_reducible rfl
          rotate_left
          · simp only [Act.put, List.setIfInBounds_toArray, List.set_cons_zero, List.set_cons_succ, i64_w, i32_w]
            rfl
          refine pure_ (i := 16) (N := some 56) (v := ?_) (a' := ?_) #[true, true, true, true, true, true, true, true, true, true, true, true, true, true, true, true, true, false, false, false, false, false, false, false, false, false, false, false] rfl rfl (any_of HT_.out (by kernel_rfl)) (fun _ _ _ h => h) (Or.inl ⟨by rfl, ?_⟩) ?_ ?_
          rotate_left
          · intro w'
            go_simp
            with_reducible rfl
          rotate_left
          · simp only [Act.put, List.setIfInBounds_toArray, List.set_cons_zero, List.set_cons_succ, i64_w, i32_w]
            rfl
          refine pure_ (i := 17) (N := some 57) (v := ?_) (a' := ?_) #[true, true, true, true, true, true, true, true, true, true, true, true, true, true, true, true, true, true, false, false, false, false, false, false, false, false, false, false] rfl rfl (any_of HT_.out (by kernel_rfl)) (fun _ _ _ h => h) (Or.inl ⟨by rfl, ?_⟩) ?_ ?_
          rotate_left
          · intro w'
            go_simp
            with_reducible rfl
          rotate_left
          · simp only [Act.put, List.setIfInBounds_toArray, List.set_cons_zero, List.set_cons_succ, i64_w, i32_w]
            rfl
          refine take_ (i := 18) (N := some 58) (v := ?_) (a' := ?_) #[true, true, true, true, true, true, true, true, true, true, true, true, true, true, true, true, true, true, true, false, false, false, false, false, false, false, false, false] rfl rfl (take_ofW HT_.out HW_.out (by kernel_rfl)) (fun _ _ _ h => h) (Or.inl ⟨by rfl, ?_⟩) hHeld ?_ ?_
          rotate_left
          · rintro w' ⟨s0, s1, s2, s3⟩
            go_simp
            with_reducible rfl
          rotate_left
          · simp only [Act.put, List.setIfInBounds_toArray, List.set_cons_zero, List.set_cons_succ, i64_w, i32_w]
            rfl
          refine take_ (i := 20) (N := some 60) (v := ?_) (a' := ?_) #[true, true, true, true, true, true, true, true, true, true, true, true, true, true, true, true, true, true, true, false, true, false, false, false, false, false, false, false] rfl rfl (take_ofW HT_.out HW_.out (by kernel_rfl)) (fun _ _ _ h => h) (Or.inl ⟨by rfl, ?_⟩) hHeld ?_ ?_
          rotate_left
          · rintro w' ⟨s0, s1, s2, s3⟩
            go_simp
            with_reducible rfl
          rotate_left
          · simp only [Act.put, List.setIfInBounds_toArray, List.set_cons_zero, List.set_cons_succ, i64_w, i32_w]
            rfl
          refine pure_ (i := 21) (N := some 61) (v := ?_) (a' := ?_) #[true, true, true, true, true, true, true, true, true, true, true, true, true, true, true, true, true, true, true, false, true, true, false, false, false, false, false, false] rfl rfl (any_of HT_.out (by kernel_rfl)) (fun _ _ _ h => h) (Or.inl ⟨by rfl, ?_⟩) ?_ ?_
          rotate_left
          · intro w'
            go_simp
            with_reducible rfl
          rotate_left
          · simp only [Act.put, List.setIfInBounds_toArray, List.set_cons_zero, List.set_cons_succ, i64_w, i32_w]
            rfl
          refine pure_ (i := 22) (N := some 62) (v := ?_) (a' := ?_) #[true, true, true, true, true, true, true, true, true, true, true, true, true, true, true, true, true, true, true, false, true, true, true, false, false, false, false, false] rfl rfl (any_of HT_.out (by kernel_rfl)) (fun _ _ _ h => h) (Or.inl ⟨by rfl, ?_⟩) ?_ ?_
          rotate_left
          · intro w'
            go_simp
            with_reducible rfl
          rotate_left
          · simp only [Act.put, List.setIfInBounds_toArray, List.set_cons_zero, List.set_cons_succ, i64_w, i32_w]
            rfl
          refine pure_ (i := 23) (N := some 63) (v := ?_) (a' := ?_) #[true, true, true, true, true, true, true, true, true, true, true, true, true, true, true, true, true, true, true, false, true, true, true, true, false, false, false, false] rfl rfl (any_of HT_.out (by kernel_rfl)) (fun _ _ _ h => h) (Or.inl ⟨by rfl, ?_⟩) ?_ ?_
          rotate_left
          · intro w'
            go_simp
            with_reducible rfl
          rotate_left
          · simp only [Act.put, List.setIfInBounds_toArray, List.set_cons_zero, List.set_cons_succ, i64_w, i32_w]
            rfl
          refine take_ (i := 24) (N := some 64) (v := ?_) (a' := ?_) #[true, true, true, true, true, true, true, true, true, true, true, true, true, true, true, true, true, true, true, false, true, true, true, true, true, false, false, false] rfl rfl (take_ofW HT_.out HW_.out (by kernel_rfl)) (fun _ _ _ h => h) (Or.inl ⟨by rfl, ?_⟩) hHeld ?_ ?_
          rotate_left
          · rintro w' ⟨s0, s1, s2, s3⟩
            go_simp
            with_reducible rfl
          rotate_left
          · simp only [Act.put, List.setIfInBounds_toArray, List.set_cons_zero, List.set_cons_succ, i64_w, i32_w]
            rfl
          refine one_ (i := 19) (N := some 59) #[true, true, true, true, true, true, true, true, true, true, true, true, true, true, true, true, true, true, true, true, true, true, true, true, true, false, false, false] rfl rfl (one_of HT_.out (by kernel_rfl)) (by decide) (fun K hK => ?_)
          refine goes_ Try.func17 (by kernel_rfl) rfl #[.agg #[.string x.f0, .string x.f1], .agg #[.string y.f0, .string y.f1]] (by rfl) rfl rfl (by (try simp only [List.map_toArray, List.map_cons, List.map_nil]); first | done | rfl) ?_
          refine (bucket_Less.calls 3 x.f0 x.f1 y.f0 y.f1 (lessT x y) V2 (less_is 0 x y)).mono ?_
          rintro ex V3 ⟨rfl, hb⟩
          refine ⟨_, rfl, ?_⟩
          have n_HX0 := Aside0.mk ((hb.cell (World.block_lt_of_cell? _ _ HX0.out)).trans HX0.out)
          have n_HX1 := Aside0.mk ((hb.cell (World.block_lt_of_cell? _ _ HX1.out)).trans HX1.out)
          clear HX0 HX1
          have HX0 := n_HX0
          have HX1 := n_HX1
          clear n_HX0 n_HX1
          have n_HC := Aside0.mk (Kd.C_below HC.out hb)
          have n_HB := Aside0.mk (below_step HB.out hb)
          have n_HK := Aside0.mk (blk_below HK.out hb)
          have n_HV0 := Aside0.mk (Kd.C_below HV0.out hb)
          have n_HV1 := Aside0.mk (Kd.C_below HV1.out hb)
          have n_HV2 := Aside0.mk (Kd.C_below HV2.out hb)
          have n_HV3 := Aside0.mk (Kd.C_below HV3.out hb)
          have n_HLB := Aside0.mk (below_step HLB.out hb)
          clear HC HB HK HV0 HV1 HV2 HV3 HLB
          have HC := n_HC
          have HB := n_HB
          have HK := n_HK
          have HV0 := n_HV0
          have HV1 := n_HV1
          have HV2 := n_HV2
          have HV3 := n_HV3
          have HLB := n_HLB
          clear n_HC n_HB n_HK n_HV0 n_HV1 n_HV2 n_HV3 n_HLB
          clear hb
          refine hK.out _ _ ⟨HX0.out, HX1.out, (blk_cell HK.out 0).trans rfl, (blk_cell HK.out 1).trans rfl⟩ (fun hHeld => ?_)
          clear hK K
          refine norm_ (a' := ?_) ?_ ?_
          rotate_left
          · show Act.put _ (some 59) _ = _
            simp only [Act.put, List.setIfInBounds_toArray, List.set_cons_zero, List.set_cons_succ, i64_w, i32_w]
            rfl
          refine one_ (i := 25) (N := some 65) #[true, true, true, true, true, true, true, true, true, true, true, true, true, true, true, true, true, true, true, true, true, true, true, true, true, true, false, false] rfl rfl (one_of HT_.out (by kernel_rfl)) (by decide) (fun K hK => ?_)
          refine goes_ Try.func18 (by kernel_rfl) rfl #[.agg #[.string x.f0, .string x.f1], .agg #[.string y.f0, .string y.f1]] (by rfl) rfl rfl (by (try simp only [List.map_toArray, List.map_cons, List.map_nil]); first | done | rfl) ?_
          refine (intarsiaref10_Less.calls x.f0 x.f1 y.f0 y.f1 (lessT x y) V3 (rless_is x y)).mono ?_
          rintro ex V4 ⟨rfl, hb⟩
          refine ⟨_, rfl, ?_⟩
          have n_HX0 := Aside0.mk ((hb.cell (World.block_lt_of_cell? _ _ HX0.out)).trans HX0.out)
          have n_HX1 := Aside0.mk ((hb.cell (World.block_lt_of_cell? _ _ HX1.out)).trans HX1.out)
          clear HX0 HX1
          have HX0 := n_HX0
          have HX1 := n_HX1
          clear n_HX0 n_HX1
          have n_HC := Aside0.mk (Kd.C_below HC.out hb)
          have n_HB := Aside0.mk (below_step HB.out hb)
          have n_HK := Aside0.mk (blk_below HK.out hb)
          have n_HV0 := Aside0.mk (Kd.C_below HV0.out hb)
          have n_HV1 := Aside0.mk (Kd.C_below HV1.out hb)
          have n_HV2 := Aside0.mk (Kd.C_below HV2.out hb)
          have n_HV3 := Aside0.mk (Kd.C_below HV3.out hb)
          have n_HLB := Aside0.mk (below_step HLB.out hb)
          clear HC HB HK HV0 HV1 HV2 HV3 HLB
          have HC := n_HC
          have HB := n_HB
          have HK := n_HK
          have HV0 := n_HV0
          have HV1 := n_HV1
          have HV2 := n_HV2
          have HV3 := n_HV3
          have HLB := n_HLB
          clear n_HC n_HB n_HK n_HV0 n_HV1 n_HV2 n_HV3 n_HLB
          clear hb
          refine hK.out _ _ ⟨HX0.out, HX1.out, (blk_cell HK.out 0).trans rfl, (blk_cell HK.out 1).trans rfl⟩ (fun hHeld => ?_)
          clear hK K
          refine norm_ (a' := ?_) ?_ ?_
          rotate_left
          · show Act.put _ (some 65) _ = _
            simp only [Act.put, List.setIfInBounds_toArray, List.set_cons_zero, List.set_cons_succ, i64_w, i32_w]
            rfl
          refine pure_ (i := 26) (N := some 66) (v := ?_) (a' := ?_) #[true, true, true, true, true, true, true, true, true, true, true, true, true, true, true, true, true, true, true, true, true, true, true, true, true, true, true, false] rfl rfl (any_of HT_.out (by kernel_rfl)) (fun _ _ _ h => h) (Or.inl ⟨by rfl, ?_⟩) ?_ ?_
          rotate_left
          · intro w'
            go_simp
            with_reducible rfl
          rotate_left
          · simp only [Act.put, List.setIfInBounds_toArray, List.set_cons_zero, List.set_cons_succ, i64_w, i32_w]
            rfl
          refine pure_ (i := 27) (N := some 67) (v := ?_) (a' := ?_) #[true, true, true, true, true, true, true, true, true, true, true, true, true, true, true, true, true, true, true, true, true, true, true, true, true, true, true, true] rfl rfl (any_of HT_.out (by kernel_rfl)) (fun _ _ _ h => h) (Or.inl ⟨by rfl, ?_⟩) ?_ ?_
          rotate_left
          · intro w'
            go_simp
            with_reducible rfl
          rotate_left
          · simp only [Act.put, List.setIfInBounds_toArray, List.set_cons_zero, List.set_cons_succ, i64_w, i32_w]
            rfl
          refine done_ (done_of HT_.out (by kernel_rfl)) ?_
          go_wp2_with fail
          have hlt2 := HLT.out
          have hl2 := HXS.out.1
          rw [add1 (by omega)]
          exact ⟨⟨j + 1, by omega, rfl, HLB.out⟩, by simp [intOf]; omega⟩
        · skip
          obtain rfl : j = xs.length := by omega
          have b1 : decide ((xs.length : Int) < (xs.length : Int)) = false := decide_eq_false (by omega)
          clear hlt hLB
          go_wp2_with fail
          go_at_call 19
          refine (intarsiaref10_SamePairs.calls 1001 T0 c0 r1 T2 c2 r1 true wr HV0.out HV0c.out HV2.out HV2c.out (by rw [rsame_is r1 r1 HL1.out, sames_self])).mono ?_
          rintro ex Y1 ⟨rfl, hd_⟩
          have hb := hd_.below
          clear hd_
          have n_HC := Aside0.mk (Kd.C_below HC.out hb)
          have n_HB := Aside0.mk (below_step HB.out hb)
          have n_HK := Aside0.mk (blk_below HK.out hb)
          have n_HV0 := Aside0.mk (Kd.C_below HV0.out hb)
          have n_HV1 := Aside0.mk (Kd.C_below HV1.out hb)
          have n_HV2 := Aside0.mk (Kd.C_below HV2.out hb)
          have n_HV3 := Aside0.mk (Kd.C_below HV3.out hb)
          clear HC HB HK HV0 HV1 HV2 HV3
          have HC := n_HC
          have HB := n_HB
          have HK := n_HK
          have HV0 := n_HV0
          have HV1 := n_HV1
          have HV2 := n_HV2
          have HV3 := n_HV3
          clear n_HC n_HB n_HK n_HV0 n_HV1 n_HV2 n_HV3
          clear hb
          go_wp2_with fail
          go_at_call 19
          refine (intarsiaref10_SamePairs.calls 1001 T1 c1 r2 T3 c3 r2 true Y1 HV1.out HV1c.out HV3.out HV3c.out (by rw [rsame_is r2 r2 HL2.out, sames_self])).mono ?_
          rintro ex Y2 ⟨rfl, hd_⟩
          have hb := hd_.below
          clear hd_
          have n_HC := Aside0.mk (Kd.C_below HC.out hb)
          have n_HB := Aside0.mk (below_step HB.out hb)
          have n_HK := Aside0.mk (blk_below HK.out hb)
          have n_HV0 := Aside0.mk (Kd.C_below HV0.out hb)
          have n_HV1 := Aside0.mk (Kd.C_below HV1.out hb)
          have n_HV2 := Aside0.mk (Kd.C_below HV2.out hb)
          have n_HV3 := Aside0.mk (Kd.C_below HV3.out hb)
          clear HC HB HK HV0 HV1 HV2 HV3
          have HC := n_HC
          have HB := n_HB
          have HK := n_HK
          have HV0 := n_HV0
          have HV1 := n_HV1
          have HV2 := n_HV2
          have HV3 := n_HV3
          clear n_HC n_HB n_HK n_HV0 n_HV1 n_HV2 n_HV3
          clear hb
          go_wp2_with fail
          go_at_call 7
          refine (awake_calls Y2).mono ?_
          rintro ex VA ⟨rfl, hb⟩
          have HBA := Aside0.mk (below_step HB.out hb)
          clear hb
          go_wp2_with fail
          go_ret
          exact ⟨rfl, HBA.out⟩
end Go.Proofs.Ytgbjinonlfhciaa.MBk
