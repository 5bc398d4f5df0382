/- The walk of BucketPuts. -/
import Derived.Test.YtgbjinonlfhciaaHandE16
namespace Go.Proofs.Ytgbjinonlfhciaa.BkV
open Go.RowKit Go.Proofs.Ytgbjinonlfhciaa.MBk Go.Proofs.YtgbjinonlfhciaaW.PrintWords Go.Proofs.YtgbjinonlfhciaaW.PrintLast
set_option linter.unusedVariables false
theorem readP_len : ∀ (m : Nat) (s : St), (readP m s).1.length = m
  | 0, _ => rfl
  | m + 1, s => congrArg (· + 1) (readP_len m _)
theorem getT_len (body : List Int) (hb : ∀ x ∈ body, Byte x) : (getT body).1.2.2.length ≤ 1000 := by
  rw [getT_run]
  split
  · show (readP _ _).1.length ≤ 1000
    rw [readP_len]
    have := num1_range (n := body.length) (s := (numR 2 (numR 1 (body, 0)).2).2) (num_ok (num_ok ⟨hb, Nat.le_refl _⟩ 1) 2)
    omega
  · exact Nat.zero_le _
theorem rsame_all (d n : Int) (a : List S27) (d' n' : Int) (b : List S27) (hl : a.length ≤ 1000) : intarsiaref10_Same.f 1001 d n a d' n' b = some (decide (d = d') && (decide (n = n') && samesT a b)) := by
  unfold intarsiaref10_Same.f
  by_cases h1 : d = d'
  · rw [if_pos h1, decide_eq_true h1, Bool.true_and]
    by_cases h2 : n = n'
    · rw [if_pos h2, decide_eq_true h2, Bool.true_and, rsame_is a b hl]
      rfl
    · rw [if_neg h2, decide_eq_false h2]
      rfl
  · rw [if_neg h1, decide_eq_false h1]
    rfl
end Go.Proofs.Ytgbjinonlfhciaa.BkV
namespace Go.Proofs.Ytgbjinonlfhciaa.MBk
open Go.RowKit Go.Proofs.Ytgbjinonlfhciaa.BkV Go.Proofs.YtgbjinonlfhciaaW.PrintWords Go.Proofs.YtgbjinonlfhciaaW.PrintLast Go.Proofs.YtgbjinonlfhciaaW.PrintMore
set_option linter.unusedVariables false
set_option linter.unusedSimpArgs false
theorem check_as (d n : Int) (l : List S27) (A : Option Addr) (c : Nat) (w : World) (pe : Int) (h : checkT d n l = pe) (hC : Kd.C k27 w A l.length l) (hc : l.length ≤ c) (hl : FewP l) :
    Calls Try.prog 10 #[.agg #[.int .i64 d, .int .i64 n, .slice A l.length c]] w fun e w' => e = .returned (.int .i64 pe) ∧ Below w.heap.size w w' := by
  subst h
  exact bucket_Check d n l A c w hC hc hl
def Puts.T8 : Bool × List (List Nat × List Nat) := (true, [([], []), ([0], [0]), ([], []), ([2], [2]), ([1, 3], [1, 3]), ([4], [4]), ([5], [5]), ([5], [5]), ([6, 7, 5], [5, 6, 7]), ([5, 8], [5, 8]), ([9, 5], [9]), ([10], [10]), ([11, 10, 10], [10, 11]), ([10], [10]), ([12, 13, 10], [10, 12, 13]), ([10, 14], [10, 14]), ([15, 12], [15]), ([16], [16]), ([17, 16, 16], [16, 17]), ([16], [16]), ([19, 16], [16, 19]), ([20, 18, 16], [16, 20]), ([18, 21, 16], [16, 18, 21]), ([16, 22], [16, 22]), ([23, 21], [23]), ([24], [24]), ([24], [24]), ([25, 26, 24, 24], [24, 25, 26]), ([24, 27], [24, 27]), ([28, 27], [28]), ([29], [29]), ([29], [29]), ([30, 31, 29], [29, 30, 31]), ([29, 32], [29, 32]), ([33, 29], [33]), ([34], [34]), ([34], [34]), ([35, 36, 34, 34], [34, 35, 36]), ([34], [34]), ([34], [34]), ([38, 39, 37, 34], [34, 38, 39]), ([37, 40, 34], [34, 37, 40]), ([34, 41], [34, 41]), ([42, 40], [42]), ([43, 43], [43]), ([43, 44], [43, 44]), ([45, 44, 0, 1, 2, 3, 4, 5, 6, 7, 8, 9, 10, 11, 12, 13, 14, 15, 16, 17, 18, 19, 20, 21, 22, 23, 24, 25, 26, 27, 28, 29, 30, 31, 32, 33, 34, 35, 36, 37, 38, 39, 40, 41, 42, 43, 44, 45], [45])])
def Puts.B8 : List Nat := [0, 1, 0, 4, 15, 31, 63, 63, 255, 511, 1023, 2047, 4095, 2047, 16383, 32767, 65535, 131071, 262143, 131071, 655359, 2097151, 4194303, 8388607, 16777215, 33554431, 33554431, 134217727, 268435455, 536870911, 1073741823, 1073741823, 4294967295, 8589934591, 17179869183, 34359738367, 34359738367, 137438953471, 34359738367, 34359738367, 1099511627775, 2199023255551, 4398046511103, 8796093022207, 17592186044415, 35184372088831, 70368744177663]
theorem Puts.tab8 : rtab .any (opsOf Try.f5 8) = Puts.T8 := by kernel_rfl
theorem Puts.bits8 : waitsOk Puts.T8.2 Puts.B8 = true := by kernel_rfl
set_option maxHeartbeats 16000000 in
set_option maxRecDepth 100000 in
theorem BucketPuts_calls (d n : Int) (l : List S27) (A : Option Addr) (c : Nat) (e m : Int) (q : List S27) (Q : Option Addr) (cq : Nat) (raw : List Int) (R : Option Addr) (cr : Nat) (w : World) (hC : Kd.C k27 w A l.length l) (hc : l.length ≤ c) (hQ : Kd.C k27 w Q q.length q) (hqc : q.length ≤ cq) (hR : Kd.C (Kd.int .u8) w R raw.length raw) (hrc : raw.length ≤ cr) (hby : ∀ x ∈ raw, Byte x) :
    Calls Try.prog 5 #[.agg #[.int .i64 d, .int .i64 n, .slice A l.length c], .agg #[.int .i64 e, .int .i64 m, .slice Q q.length cq], .slice R raw.length cr] w fun e w' => e = .returned (.bool true) ∧ Below w.heap.size w w' := by
  have HC := Aside0.mk hC
  have HCc := Aside0.mk hc
  have HQ := Aside0.mk hQ
  have HQc := Aside0.mk hqc
  have HR := Aside0.mk hR
  have HRc := Aside0.mk hrc
  have HBY := Aside0.mk hby
  clear hC hc hQ hqc hR hrc hby
  go_enter Try.func5, Try.ntmps5
  go_upto_region 1 with fail
  have hW1 := below_alloc (Below.refl w.heap.size w) (Obj.cells #[Value.int IntKind.i64 d, Value.int IntKind.i64 n, Value.slice A l.length c] 42)
  have hN1 := blk_new w (Obj.cells #[Value.int IntKind.i64 d, Value.int IntKind.i64 n, Value.slice A l.length c] 42)
  have hS1 : (w.alloc (Obj.cells #[Value.int IntKind.i64 d, Value.int IntKind.i64 n, Value.slice A l.length c] 42)).heap.size = w.heap.size + 1 := World.size_alloc _ _
  obtain ⟨g, hg⟩ : ∃ g, g = w.heap.size := ⟨_, rfl⟩
  rw [← hg] at hN1 hS1 ⊢
  generalize w.alloc (Obj.cells #[Value.int IntKind.i64 d, Value.int IntKind.i64 n, Value.slice A l.length c] 42) = W1 at hW1 hN1 hS1 ⊢
  have hW2 := below_alloc (Below.refl W1.heap.size W1) (Obj.cells #[Value.int IntKind.i64 e, Value.int IntKind.i64 m, Value.slice Q q.length cq] 42)
  have hN2 := blk_new W1 (Obj.cells #[Value.int IntKind.i64 e, Value.int IntKind.i64 m, Value.slice Q q.length cq] 42)
  rw [hS1] at hN2
  generalize W1.alloc (Obj.cells #[Value.int IntKind.i64 e, Value.int IntKind.i64 m, Value.slice Q q.length cq] 42) = W2 at hW2 hN2 ⊢
  have HB := Aside0.mk (Below.refl w.heap.size w)
  have n_HC := Aside0.mk (Kd.C_below HC.out hW1)
  have n_HQ := Aside0.mk (Kd.C_below HQ.out hW1)
  have n_HR := Aside0.mk (Kd.C_below HR.out hW1)
  have n_HB := Aside0.mk (below_step HB.out hW1)
  clear HC HQ HR HB
  have HC := n_HC
  have HQ := n_HQ
  have HR := n_HR
  have HB := n_HB
  clear n_HC n_HQ n_HR n_HB
  have K3 := Aside0.mk hN1
  have n_HC := Aside0.mk (Kd.C_below HC.out hW2)
  have n_HQ := Aside0.mk (Kd.C_below HQ.out hW2)
  have n_HR := Aside0.mk (Kd.C_below HR.out hW2)
  have n_HB := Aside0.mk (below_step HB.out hW2)
  have n_K3 := Aside0.mk (blk_below K3.out hW2)
  clear HC HQ HR HB K3
  have HC := n_HC
  have HQ := n_HQ
  have HR := n_HR
  have HB := n_HB
  have K3 := n_K3
  clear n_HC n_HQ n_HR n_HB n_K3
  have K4 := Aside0.mk hN2
  clear hW1 hN1 hS1 hW2 hN2 hg
  have k0 := blk_cell K3.out 0
  have k1 := blk_cell K3.out 1
  have k2 := blk_cell K3.out 2
  go_wp2_with fail
  go_at_call 14
  obtain ⟨r, hr, hP⟩ := light_is l 100 (by decide)
  clear k0 k1 k2
  refine (intarsiaref10_Light.calls 1001 A c l 100 r W2 HC.out HCc.out hr).mono ?_
  rintro ex W3 ⟨rfl, hd_⟩
  have hb := hd_.below
  clear hd_
  have n_HC := Aside0.mk (Kd.C_below HC.out hb)
  have n_HQ := Aside0.mk (Kd.C_below HQ.out hb)
  have n_HR := Aside0.mk (Kd.C_below HR.out hb)
  have n_HB := Aside0.mk (below_step HB.out hb)
  have n_K3 := Aside0.mk (blk_below K3.out hb)
  have n_K4 := Aside0.mk (blk_below K4.out hb)
  clear HC HQ HR HB K3 K4
  have HC := n_HC
  have HQ := n_HQ
  have HR := n_HR
  have HB := n_HB
  have K3 := n_K3
  have K4 := n_K4
  clear n_HC n_HQ n_HR n_HB n_K3 n_K4
  clear hb hr
  cases r with
  | false =>
    clear hP
    go_wp2_with fail
    go_at_call 7
    refine (awake_calls W3).mono ?_
    rintro ex VA ⟨rfl, hb⟩
    have HBA := Aside0.mk (below_step HB.out hb)
    clear hb
    go_wp2_with fail
    go_ret
    exact ⟨rfl, HBA.out⟩
  | true =>
    have HXS := Aside0.mk (few_of (by decide) (hP rfl))
    have HLN := Aside0.mk (hP rfl).1
    clear hP
    have k0 := blk_cell K4.out 0
    have k1 := blk_cell K4.out 1
    have k2 := blk_cell K4.out 2
    go_wp2_with fail
    go_at_call 14
    obtain ⟨r, hr, hP⟩ := light_is q 100 (by decide)
    clear k0 k1 k2
    refine (intarsiaref10_Light.calls 1001 Q cq q 100 r W3 HQ.out HQc.out hr).mono ?_
    rintro ex W4 ⟨rfl, hd_⟩
    have hb := hd_.below
    clear hd_
    have n_HC := Aside0.mk (Kd.C_below HC.out hb)
    have n_HQ := Aside0.mk (Kd.C_below HQ.out hb)
    have n_HR := Aside0.mk (Kd.C_below HR.out hb)
    have n_HB := Aside0.mk (below_step HB.out hb)
    have n_K3 := Aside0.mk (blk_below K3.out hb)
    have n_K4 := Aside0.mk (blk_below K4.out hb)
    clear HC HQ HR HB K3 K4
    have HC := n_HC
    have HQ := n_HQ
    have HR := n_HR
    have HB := n_HB
    have K3 := n_K3
    have K4 := n_K4
    clear n_HC n_HQ n_HR n_HB n_K3 n_K4
    clear hb hr
    cases r with
    | false =>
      clear hP
      go_wp2_with fail
      go_at_call 7
      refine (awake_calls W4).mono ?_
      rintro ex VA ⟨rfl, hb⟩
      have HBA := Aside0.mk (below_step HB.out hb)
      clear hb
      go_wp2_with fail
      go_ret
      exact ⟨rfl, HBA.out⟩
    | true =>
      have HLQ := Aside0.mk (hP rfl).1
      clear hP
      by_cases hbig : 400 < raw.length
      · skip
        have b1 : decide ((400 : Int) < (raw.length : Int)) = true := decide_eq_true (by omega)
        have b1n : decide (400 < raw.length) = true := decide_eq_true hbig
        clear hbig
        go_wp2_with fail
        go_at_call 7
        refine (awake_calls W4).mono ?_
        rintro ex VA ⟨rfl, hb⟩
        have HBA := Aside0.mk (below_step HB.out hb)
        clear hb
        go_wp2_with fail
        go_ret
        exact ⟨rfl, HBA.out⟩
      · skip
        have b1 : decide ((400 : Int) < (raw.length : Int)) = false := decide_eq_false (by omega)
        have b1n : decide (400 < raw.length) = false := decide_eq_false hbig
        have HRL := Aside0.mk (show raw.length ≤ 400 by omega)
        clear hbig
        have k0 := blk_cell K3.out 0
        have k1 := blk_cell K3.out 1
        have k2 := blk_cell K3.out 2
        go_upto_region 4 with fail
        clear b1 b1n
        clear k0 k1 k2
        obtain ⟨g7, hg7⟩ : ∃ g, g = W4.heap.size := ⟨_, rfl⟩
        have hW := below_alloc (Below.refl W4.heap.size W4) (Obj.cells #[Value.int IntKind.i64 d, Value.int IntKind.i64 n, Value.slice A l.length c] 25)
        have hN := blk_new W4 (Obj.cells #[Value.int IntKind.i64 d, Value.int IntKind.i64 n, Value.slice A l.length c] 25)
        rw [← hg7] at hN ⊢
        generalize W4.alloc (Obj.cells #[Value.int IntKind.i64 d, Value.int IntKind.i64 n, Value.slice A l.length c] 25) = W5 at hW hN ⊢
        have n_HC := Aside0.mk (Kd.C_below HC.out hW)
        have n_HQ := Aside0.mk (Kd.C_below HQ.out hW)
        have n_HR := Aside0.mk (Kd.C_below HR.out hW)
        have n_HB := Aside0.mk (below_step HB.out hW)
        have n_K3 := Aside0.mk (blk_below K3.out hW)
        have n_K4 := Aside0.mk (blk_below K4.out hW)
        clear HC HQ HR HB K3 K4
        have HC := n_HC
        have HQ := n_HQ
        have HR := n_HR
        have HB := n_HB
        have K3 := n_K3
        have K4 := n_K4
        clear n_HC n_HQ n_HR n_HB n_K3 n_K4
        have K7 := Aside0.mk (hN)
        have Eg7 := Aside0.mk hg7
        clear hW hN hg7
        obtain ⟨⟨pb, pe⟩, hpt⟩ : ∃ p, putT d n l = p := ⟨_, rfl⟩
        have HPT := Aside0.mk hpt
        have HPE := Aside0.mk (show checkT d n l = pe by have h2 : (putT d n l).2 = pe := by rw [hpt]
                                                         rw [← h2]; unfold putT; by_cases hck : checkT d n l = 0
                                                         · rw [if_pos hck]; exact hck
                                                         · rw [if_neg hck])
        clear hpt
        have k0 := blk_cell K7.out 0
        have k1 := blk_cell K7.out 1
        have k2 := blk_cell K7.out 2
        go_wp2_with fail
        go_at_call 20
        have hp := bucket_Put d n l A c W5 HC.out HCc.out HXS.out
        rw [HPT.out] at hp
        refine hp.mono ?_
        clear hp
        clear k0 k1 k2
        rintro ex W6 ⟨v, rfl, hv, hb⟩
        replace hv : Kd.R (Kd.int .u8) 5 W6 W5.heap.size (fun _ => True) v pb := hv
        obtain ⟨TA, cA, rfl⟩ := Kd.R_slice hv
        have n_HC := Aside0.mk (Kd.C_below HC.out hb)
        have n_HQ := Aside0.mk (Kd.C_below HQ.out hb)
        have n_HR := Aside0.mk (Kd.C_below HR.out hb)
        have n_HB := Aside0.mk (below_step HB.out hb)
        have n_K3 := Aside0.mk (blk_below K3.out hb)
        have n_K4 := Aside0.mk (blk_below K4.out hb)
        have n_K7 := Aside0.mk (blk_below K7.out hb)
        clear HC HQ HR HB K3 K4 K7
        have HC := n_HC
        have HQ := n_HQ
        have HR := n_HR
        have HB := n_HB
        have K3 := n_K3
        have K4 := n_K4
        have K7 := n_K7
        clear n_HC n_HQ n_HR n_HB n_K3 n_K4 n_K7
        have HP1 := Aside0.mk (Kd.R_reads' hv).2.2
        clear hv hb
        have k0 := blk_cell K3.out 0
        have k1 := blk_cell K3.out 1
        have k2 := blk_cell K3.out 2
        go_wp2_with fail
        go_at_call 21
        clear k0 k1 k2
        refine (intarsiaref10_Put.calls 5001 d n A c l pb pe W6 HC.out HCc.out (by rw [rput_is d n l HXS.out 5001 (by decide), HPT.out])).mono ?_
        rintro ex W7 ⟨v, rfl, hv, hb⟩
        obtain ⟨TC, cC, rfl⟩ := Kd.R_slice hv
        have n_HC := Aside0.mk (Kd.C_below HC.out hb)
        have n_HQ := Aside0.mk (Kd.C_below HQ.out hb)
        have n_HR := Aside0.mk (Kd.C_below HR.out hb)
        have n_HB := Aside0.mk (below_step HB.out hb)
        have n_K3 := Aside0.mk (blk_below K3.out hb)
        have n_K4 := Aside0.mk (blk_below K4.out hb)
        have n_K7 := Aside0.mk (blk_below K7.out hb)
        have n_HP1 := Aside0.mk (Kd.C_below HP1.out hb)
        clear HC HQ HR HB K3 K4 K7 HP1
        have HC := n_HC
        have HQ := n_HQ
        have HR := n_HR
        have HB := n_HB
        have K3 := n_K3
        have K4 := n_K4
        have K7 := n_K7
        have HP1 := n_HP1
        clear n_HC n_HQ n_HR n_HB n_K3 n_K4 n_K7 n_HP1
        have HP2 := Aside0.mk (Kd.R_reads' hv).2.2
        clear hv hb
        obtain ⟨⟨⟨zd, zn, zl⟩, ze⟩, hgt⟩ : ∃ p, getT raw = p := ⟨_, rfl⟩
        have HGT := Aside0.mk hgt
        have HZL := Aside0.mk (show zl.length ≤ 1000 by have h2 := getT_len raw HBY.out; rw [hgt] at h2; exact h2)
        clear hgt
        go_wp2_with fail
        go_at_call 22
        have hp := bucket_Get raw R cr W7 HR.out HRc.out HBY.out (by have := HRL.out; omega)
        rw [HGT.out] at hp
        refine hp.mono ?_
        clear hp
        rintro ex W8 ⟨v, rfl, hv, hb⟩
        replace hv : Kd.R k27 27 W8 W7.heap.size (fun _ => True) v zl := hv
        obtain ⟨TY, cY, rfl⟩ := Kd.R_slice hv
        have n_HC := Aside0.mk (Kd.C_below HC.out hb)
        have n_HQ := Aside0.mk (Kd.C_below HQ.out hb)
        have n_HR := Aside0.mk (Kd.C_below HR.out hb)
        have n_HB := Aside0.mk (below_step HB.out hb)
        have n_K3 := Aside0.mk (blk_below K3.out hb)
        have n_K4 := Aside0.mk (blk_below K4.out hb)
        have n_K7 := Aside0.mk (blk_below K7.out hb)
        have n_HP1 := Aside0.mk (Kd.C_below HP1.out hb)
        have n_HP2 := Aside0.mk (Kd.C_below HP2.out hb)
        clear HC HQ HR HB K3 K4 K7 HP1 HP2
        have HC := n_HC
        have HQ := n_HQ
        have HR := n_HR
        have HB := n_HB
        have K3 := n_K3
        have K4 := n_K4
        have K7 := n_K7
        have HP1 := n_HP1
        have HP2 := n_HP2
        clear n_HC n_HQ n_HR n_HB n_K3 n_K4 n_K7 n_HP1 n_HP2
        have HY := Aside0.mk (Kd.R_reads' hv).2.2
        have HYc := Aside0.mk (Kd.R_reads' hv).2.1
        clear hv hb
        go_upto_region 7 with fail
        obtain ⟨g12, hg12⟩ : ∃ g, g = W8.heap.size := ⟨_, rfl⟩
        have hW := below_alloc (Below.refl W8.heap.size W8) (Obj.cells #[Value.int IntKind.i64 zd, Value.int IntKind.i64 zn, Value.slice TY zl.length cY] 25)
        have hN := blk_new W8 (Obj.cells #[Value.int IntKind.i64 zd, Value.int IntKind.i64 zn, Value.slice TY zl.length cY] 25)
        rw [← hg12] at hN ⊢
        generalize W8.alloc (Obj.cells #[Value.int IntKind.i64 zd, Value.int IntKind.i64 zn, Value.slice TY zl.length cY] 25) = W9 at hW hN ⊢
        have n_HC := Aside0.mk (Kd.C_below HC.out hW)
        have n_HQ := Aside0.mk (Kd.C_below HQ.out hW)
        have n_HR := Aside0.mk (Kd.C_below HR.out hW)
        have n_HB := Aside0.mk (below_step HB.out hW)
        have n_K3 := Aside0.mk (blk_below K3.out hW)
        have n_K4 := Aside0.mk (blk_below K4.out hW)
        have n_K7 := Aside0.mk (blk_below K7.out hW)
        have n_HP1 := Aside0.mk (Kd.C_below HP1.out hW)
        have n_HP2 := Aside0.mk (Kd.C_below HP2.out hW)
        have n_HY := Aside0.mk (Kd.C_below HY.out hW)
        clear HC HQ HR HB K3 K4 K7 HP1 HP2 HY
        have HC := n_HC
        have HQ := n_HQ
        have HR := n_HR
        have HB := n_HB
        have K3 := n_K3
        have K4 := n_K4
        have K7 := n_K7
        have HP1 := n_HP1
        have HP2 := n_HP2
        have HY := n_HY
        clear n_HC n_HQ n_HR n_HB n_K3 n_K4 n_K7 n_HP1 n_HP2 n_HY
        have K12 := Aside0.mk (hN)
        have Eg12 := Aside0.mk hg12
        clear hW hN hg12
        go_wp2_with fail
        go_at_call 23
        have hp := ref_Get raw R cr W9 HR.out HRc.out HBY.out (by have := HRL.out; omega)
        rw [HGT.out] at hp
        refine hp.mono ?_
        clear hp
        rintro ex WA ⟨v, rfl, hv, hb⟩
        replace hv : Kd.R k27 27 WA W9.heap.size (fun _ => True) v zl := hv
        obtain ⟨TZ, cZ, rfl⟩ := Kd.R_slice hv
        have n_HC := Aside0.mk (Kd.C_below HC.out hb)
        have n_HQ := Aside0.mk (Kd.C_below HQ.out hb)
        have n_HR := Aside0.mk (Kd.C_below HR.out hb)
        have n_HB := Aside0.mk (below_step HB.out hb)
        have n_K3 := Aside0.mk (blk_below K3.out hb)
        have n_K4 := Aside0.mk (blk_below K4.out hb)
        have n_K7 := Aside0.mk (blk_below K7.out hb)
        have n_HP1 := Aside0.mk (Kd.C_below HP1.out hb)
        have n_HP2 := Aside0.mk (Kd.C_below HP2.out hb)
        have n_HY := Aside0.mk (Kd.C_below HY.out hb)
        have n_K12 := Aside0.mk (blk_below K12.out hb)
        clear HC HQ HR HB K3 K4 K7 HP1 HP2 HY K12
        have HC := n_HC
        have HQ := n_HQ
        have HR := n_HR
        have HB := n_HB
        have K3 := n_K3
        have K4 := n_K4
        have K7 := n_K7
        have HP1 := n_HP1
        have HP2 := n_HP2
        have HY := n_HY
        have K12 := n_K12
        clear n_HC n_HQ n_HR n_HB n_K3 n_K4 n_K7 n_HP1 n_HP2 n_HY n_K12
        have HZ := Aside0.mk (Kd.R_reads' hv).2.2
        have HZc := Aside0.mk (Kd.R_reads' hv).2.1
        clear hv hb
        go_upto_region 8 with fail
        obtain ⟨g14, hg14⟩ : ∃ g, g = WA.heap.size := ⟨_, rfl⟩
        have hW := below_alloc (Below.refl WA.heap.size WA) (Obj.cells #[Value.int IntKind.i64 zd, Value.int IntKind.i64 zn, Value.slice TZ zl.length cZ] 42)
        have hN := blk_new WA (Obj.cells #[Value.int IntKind.i64 zd, Value.int IntKind.i64 zn, Value.slice TZ zl.length cZ] 42)
        rw [← hg14] at hN ⊢
        generalize WA.alloc (Obj.cells #[Value.int IntKind.i64 zd, Value.int IntKind.i64 zn, Value.slice TZ zl.length cZ] 42) = WB at hW hN ⊢
        have n_HC := Aside0.mk (Kd.C_below HC.out hW)
        have n_HQ := Aside0.mk (Kd.C_below HQ.out hW)
        have n_HR := Aside0.mk (Kd.C_below HR.out hW)
        have n_HB := Aside0.mk (below_step HB.out hW)
        have n_K3 := Aside0.mk (blk_below K3.out hW)
        have n_K4 := Aside0.mk (blk_below K4.out hW)
        have n_K7 := Aside0.mk (blk_below K7.out hW)
        have n_HP1 := Aside0.mk (Kd.C_below HP1.out hW)
        have n_HP2 := Aside0.mk (Kd.C_below HP2.out hW)
        have n_HY := Aside0.mk (Kd.C_below HY.out hW)
        have n_K12 := Aside0.mk (blk_below K12.out hW)
        have n_HZ := Aside0.mk (Kd.C_below HZ.out hW)
        clear HC HQ HR HB K3 K4 K7 HP1 HP2 HY K12 HZ
        have HC := n_HC
        have HQ := n_HQ
        have HR := n_HR
        have HB := n_HB
        have K3 := n_K3
        have K4 := n_K4
        have K7 := n_K7
        have HP1 := n_HP1
        have HP2 := n_HP2
        have HY := n_HY
        have K12 := n_K12
        have HZ := n_HZ
        clear n_HC n_HQ n_HR n_HB n_K3 n_K4 n_K7 n_HP1 n_HP2 n_HY n_K12 n_HZ
        have K14 := Aside0.mk (hN)
        have Eg14 := Aside0.mk hg14
        clear hW hN hg14
        obtain ⟨st, hst⟩ : ∃ s, strOfNums pb = s := ⟨_, rfl⟩
        have HCV1 := Aside0.mk (fun (W' : World) (h : Kd.C (Kd.int .u8) W' TA pb.length pb) => (by have hv := Kd.C_string (P := Try.prog) (c := cA) Try.underlying43 Try.underlying5 Try.underlying9 h; rw [hst] at hv; exact hv : (convert 43 9 (.slice TA pb.length cA)).run Try.prog W' = .ok (.string st) W'))
        have HCV2 := Aside0.mk (fun (W' : World) (h : Kd.C (Kd.int .u8) W' TC pb.length pb) => (by have hv := Kd.C_string (P := Try.prog) (c := cC) Try.underlying43 Try.underlying5 Try.underlying9 h; rw [hst] at hv; exact hv : (convert 43 9 (.slice TC pb.length cC)).run Try.prog W' = .ok (.string st) W'))
        clear hst
        obtain ⟨sm, hsm⟩ : ∃ b, (decide (d = e) && (decide (n = m) && samesT l q)) = b := ⟨_, rfl⟩
        have HSM := Aside0.mk hsm
        clear hsm
        have hD := below_drew1 (Below.refl WB.heap.size WB)
        have n_HC := Aside0.mk (Kd.C_below HC.out hD)
        have n_HQ := Aside0.mk (Kd.C_below HQ.out hD)
        have n_HR := Aside0.mk (Kd.C_below HR.out hD)
        have n_HB := Aside0.mk (below_step HB.out hD)
        have n_K3 := Aside0.mk (blk_below K3.out hD)
        have n_K4 := Aside0.mk (blk_below K4.out hD)
        have n_K7 := Aside0.mk (blk_below K7.out hD)
        have n_HP1 := Aside0.mk (Kd.C_below HP1.out hD)
        have n_HP2 := Aside0.mk (Kd.C_below HP2.out hD)
        have n_HY := Aside0.mk (Kd.C_below HY.out hD)
        have n_K12 := Aside0.mk (blk_below K12.out hD)
        have n_HZ := Aside0.mk (Kd.C_below HZ.out hD)
        have n_K14 := Aside0.mk (blk_below K14.out hD)
        clear HC HQ HR HB K3 K4 K7 HP1 HP2 HY K12 HZ K14
        have HC := n_HC
        have HQ := n_HQ
        have HR := n_HR
        have HB := n_HB
        have K3 := n_K3
        have K4 := n_K4
        have K7 := n_K7
        have HP1 := n_HP1
        have HP2 := n_HP2
        have HY := n_HY
        have K12 := n_K12
        have HZ := n_HZ
        have K14 := n_K14
        clear n_HC n_HQ n_HR n_HB n_K3 n_K4 n_K7 n_HP1 n_HP2 n_HY n_K12 n_HZ n_K14
        clear hD
        refine start_ (n := 47) (S := fun w' => w'.cell? ⟨g, 0, none⟩ = some (.int .i64 d) ∧ w'.cell? ⟨g, 1, none⟩ = some (.int .i64 n) ∧ w'.cell? ⟨g, 2, none⟩ = some (.slice A l.length c) ∧ w'.cell? ⟨g + 1, 0, none⟩ = some (.int .i64 e) ∧ w'.cell? ⟨g + 1, 1, none⟩ = some (.int .i64 m) ∧ w'.cell? ⟨g + 1, 2, none⟩ = some (.slice Q q.length cq) ∧ w'.cell? ⟨g7, 0, none⟩ = some (.int .i64 d) ∧ w'.cell? ⟨g7, 1, none⟩ = some (.int .i64 n) ∧ w'.cell? ⟨g7, 2, none⟩ = some (.slice A l.length c) ∧ w'.cell? ⟨g12, 0, none⟩ = some (.int .i64 zd) ∧ w'.cell? ⟨g12, 1, none⟩ = some (.int .i64 zn) ∧ w'.cell? ⟨g12, 2, none⟩ = some (.slice TY zl.length cY) ∧ w'.cell? ⟨g14, 0, none⟩ = some (.int .i64 zd) ∧ w'.cell? ⟨g14, 1, none⟩ = some (.int .i64 zn) ∧ w'.cell? ⟨g14, 2, none⟩ = some (.slice TZ zl.length cZ) ∧ (convert 43 9 (.slice TA pb.length cA)).run Try.prog w' = .ok (.string st) w' ∧ (convert 43 9 (.slice TC pb.length cC)).run Try.prog w' = .ok (.string st) w') (ds := []) #[false, false, false, false, false, false, false, false, false, false, false, false, false, false, false, false, false, false, false, false, false, false, false, false, false, false, false, false, false, false, false, false, false, false, false, false, false, false, false, false, false, false, false, false, false, false, false] (by kernel_rfl) rfl rfl ⟨(blk_cell K3.out 0).trans rfl, (blk_cell K3.out 1).trans rfl, (blk_cell K3.out 2).trans rfl, (blk_cell K4.out 0).trans rfl, (blk_cell K4.out 1).trans rfl, (blk_cell K4.out 2).trans rfl, (blk_cell K7.out 0).trans rfl, (blk_cell K7.out 1).trans rfl, (blk_cell K7.out 2).trans rfl, (blk_cell K12.out 0).trans rfl, (blk_cell K12.out 1).trans rfl, (blk_cell K12.out 2).trans rfl, (blk_cell K14.out 0).trans rfl, (blk_cell K14.out 1).trans rfl, (blk_cell K14.out 2).trans rfl, HCV1.out _ HP1.out, HCV2.out _ HP2.out⟩ (fun hHeld => ?_); refine with_tabW Puts.tab8 Puts.bits8 (fun HT_ HW_ => ?_)
        generalize WB.drew = V0 at HC HQ HR HB K3 K4 K7 HP1 HP2 HY K12 HZ K14 hHeld ⊢
        refine pure_ (i := 0) (N := some 53) (v := ?_) (a' := ?_) #[true, false, false, false, false, false, false, false, false, false, false, false, false, false, false, false, false, false, false, false, false, false, false, false, false, false, false, false, false, false, false, false, false, false, false, false, false, false, false, false, false, false, false, false, false, false, false] rfl rfl (any_of HT_.out (by kernel_rfl)) (fun _ _ _ h => h) (Or.inl ⟨by rfl, ?_⟩) ?_ ?_
        rotate_left
        · intro w'
          go_simp
          with_reducible rfl
        rotate_left
        · simp only [Act.put, List.setIfInBounds_toArray, List.set_cons_zero, List.set_cons_succ, i64_w, i32_w]
          rfl
        refine take_ (i := 1) (N := some 54) (v := ?_) (a' := ?_) #[true, true, false, false, false, false, false, false, false, false, false, false, false, false, false, false, false, false, false, false, false, false, false, false, false, false, false, false, false, false, false, false, false, false, false, false, false, false, false, false, false, false, false, false, false, false, false] rfl rfl (take_ofW HT_.out HW_.out (by kernel_rfl)) (fun _ _ _ h => h) (Or.inl ⟨by rfl, ?_⟩) hHeld ?_ ?_
        rotate_left
        · rintro w' ⟨s0, s1, s2, s3, s4, s5, s6, s7, s8, s9, s10, s11, s12, s13, s14, s15, s16⟩
          go_simp
          with_reducible rfl
        rotate_left
        · simp only [Act.put, List.setIfInBounds_toArray, List.set_cons_zero, List.set_cons_succ, i64_w, i32_w]
          rfl
        refine pure_ (i := 2) (N := some 55) (v := ?_) (a' := ?_) #[true, true, true, false, false, false, false, false, false, false, false, false, false, false, false, false, false, false, false, false, false, false, false, false, false, false, false, false, false, false, false, false, false, false, false, false, false, false, false, false, false, false, false, false, false, false, false] rfl rfl (any_of HT_.out (by kernel_rfl)) (fun _ _ _ h => h) (Or.inl ⟨by rfl, ?_⟩) ?_ ?_
        rotate_left
        · intro w'
          go_simp
          with_reducible rfl
        rotate_left
        · simp only [Act.put, List.setIfInBounds_toArray, List.set_cons_zero, List.set_cons_succ, i64_w, i32_w]
          rfl
        refine take_ (i := 3) (N := some 56) (v := ?_) (a' := ?_) #[true, true, true, true, false, false, false, false, false, false, false, false, false, false, false, false, false, false, false, false, false, false, false, false, false, false, false, false, false, false, false, false, false, false, false, false, false, false, false, false, false, false, false, false, false, false, false] rfl rfl (take_ofW HT_.out HW_.out (by kernel_rfl)) (fun _ _ _ h => h) (Or.inl ⟨by rfl, ?_⟩) hHeld ?_ ?_
        rotate_left
        · rintro w' ⟨s0, s1, s2, s3, s4, s5, s6, s7, s8, s9, s10, s11, s12, s13, s14, s15, s16⟩
          go_simp
          with_reducible rfl
        rotate_left
        · simp only [Act.put, List.setIfInBounds_toArray, List.set_cons_zero, List.set_cons_succ, i64_w, i32_w]
          rfl
        refine pure_ (i := 4) (N := some 57) (v := ?_) (a' := ?_) #[true, true, true, true, true, false, false, false, false, false, false, false, false, false, false, false, false, false, false, false, false, false, false, false, false, false, false, false, false, false, false, false, false, false, false, false, false, false, false, false, false, false, false, false, false, false, false] rfl rfl (any_of HT_.out (by kernel_rfl)) (fun _ _ _ h => h) (Or.inl ⟨by rfl, ?_⟩) ?_ ?_
        rotate_left
        · intro w'
          go_simp
          with_reducible rfl
        rotate_left
        · simp only [Act.put, List.setIfInBounds_toArray, List.set_cons_zero, List.set_cons_succ, i64_w, i32_w]
          rfl
        refine pure_ (i := 5) (N := some 58) (v := ?_) (a' := ?_) #[true, true, true, true, true, true, false, false, false, false, false, false, false, false, false, false, false, false, false, false, false, false, false, false, false, false, false, false, false, false, false, false, false, false, false, false, false, false, false, false, false, false, false, false, false, false, false] rfl rfl (any_of HT_.out (by kernel_rfl)) (fun _ _ _ h => h) (Or.inl ⟨by rfl, ?_⟩) ?_ ?_
        rotate_left
        · intro w'
          go_simp
          with_reducible rfl
        rotate_left
        · simp only [Act.put, List.setIfInBounds_toArray, List.set_cons_zero, List.set_cons_succ, i64_w, i32_w]
          rfl
        refine pure_ (i := 6) (N := some 59) (v := ?_) (a' := ?_) #[true, true, true, true, true, true, true, false, false, false, false, false, false, false, false, false, false, false, false, false, false, false, false, false, false, false, false, false, false, false, false, false, false, false, false, false, false, false, false, false, false, false, false, false, false, false, false] rfl rfl (any_of HT_.out (by kernel_rfl)) (fun _ _ _ h => h) (Or.inl ⟨by rfl, ?_⟩) ?_ ?_
        rotate_left
        · intro w'
          go_simp
          with_reducible rfl
        rotate_left
        · simp only [Act.put, List.setIfInBounds_toArray, List.set_cons_zero, List.set_cons_succ, i64_w, i32_w]
          rfl
        refine pure_ (i := 7) (N := some 60) (v := ?_) (a' := ?_) #[true, true, true, true, true, true, true, true, false, false, false, false, false, false, false, false, false, false, false, false, false, false, false, false, false, false, false, false, false, false, false, false, false, false, false, false, false, false, false, false, false, false, false, false, false, false, false] rfl rfl (any_of HT_.out (by kernel_rfl)) (fun _ _ _ h => h) (Or.inl ⟨by rfl, ?_⟩) ?_ ?_
        rotate_left
        · intro w'
          go_simp
          with_reducible rfl
        rotate_left
        · simp only [Act.put, List.setIfInBounds_toArray, List.set_cons_zero, List.set_cons_succ, i64_w, i32_w]
          rfl
        refine pure_ (i := 8) (N := some 61) (v := ?_) (a' := ?_) #[true, true, true, true, true, true, true, true, true, false, false, false, false, false, false, false, false, false, false, false, false, false, false, false, false, false, false, false, false, false, false, false, false, false, false, false, false, false, false, false, false, false, false, false, false, false, false] rfl rfl (any_of HT_.out (by kernel_rfl)) (fun _ _ _ h => h) (Or.inl ⟨by rfl, ?_⟩) ?_ ?_
        rotate_left
        · intro w'
          go_simp
          with_reducible rfl
        rotate_left
        · simp only [Act.put, List.setIfInBounds_toArray, List.set_cons_zero, List.set_cons_succ, i64_w, i32_w]
          rfl
        refine pure_ (i := 9) (N := some 62) (v := ?_) (a' := ?_) #[true, true, true, true, true, true, true, true, true, true, false, false, false, false, false, false, false, false, false, false, false, false, false, false, false, false, false, false, false, false, false, false, false, false, false, false, false, false, false, false, false, false, false, false, false, false, false] rfl rfl (any_of HT_.out (by kernel_rfl)) (fun _ _ _ h => h) (Or.inl ⟨by rfl, ?_⟩) ?_ ?_
        rotate_left
        · intro w'
          go_simp
          with_reducible rfl
        rotate_left
        · simp only [Act.put, List.setIfInBounds_toArray, List.set_cons_zero, List.set_cons_succ, i64_w, i32_w]
          rfl
        refine pure_ (i := 10) (N := some 63) (v := ?_) (a' := ?_) #[true, true, true, true, true, true, true, true, true, true, true, false, false, false, false, false, false, false, false, false, false, false, false, false, false, false, false, false, false, false, false, false, false, false, false, false, false, false, false, false, false, false, false, false, false, false, false] rfl rfl (any_of HT_.out (by kernel_rfl)) (fun _ _ _ h => h) (Or.inl ⟨by rfl, ?_⟩) ?_ ?_
        rotate_left
        · intro w'
          go_simp
          with_reducible rfl
        rotate_left
        · simp only [Act.put, List.setIfInBounds_toArray, List.set_cons_zero, List.set_cons_succ, i64_w, i32_w]
          rfl
        refine take_ (i := 11) (N := some 64) (v := ?_) (a' := ?_) #[true, true, true, true, true, true, true, true, true, true, true, true, false, false, false, false, false, false, false, false, false, false, false, false, false, false, false, false, false, false, false, false, false, false, false, false, false, false, false, false, false, false, false, false, false, false, false] rfl rfl (take_ofW HT_.out HW_.out (by kernel_rfl)) (fun _ _ _ h => h) (Or.inl ⟨by rfl, ?_⟩) hHeld ?_ ?_
        rotate_left
        · rintro w' ⟨s0, s1, s2, s3, s4, s5, s6, s7, s8, s9, s10, s11, s12, s13, s14, s15, s16⟩
          go_simp
          with_reducible rfl
        rotate_left
        · simp only [Act.put, List.setIfInBounds_toArray, List.set_cons_zero, List.set_cons_succ, i64_w, i32_w]
          rfl
        refine pure_ (i := 13) (N := some 66) (v := ?_) (a' := ?_) #[true, true, true, true, true, true, true, true, true, true, true, true, false, true, false, false, false, false, false, false, false, false, false, false, false, false, false, false, false, false, false, false, false, false, false, false, false, false, false, false, false, false, false, false, false, false, false] rfl rfl (any_of HT_.out (by kernel_rfl)) (fun _ _ _ h => h) (Or.inl ⟨by rfl, ?_⟩) ?_ ?_
        rotate_left
        · intro w'
          go_simp
          with_reducible rfl
        rotate_left
        · simp only [Act.put, List.setIfInBounds_toArray, List.set_cons_zero, List.set_cons_succ, i64_w, i32_w]
          rfl
        refine one_ (i := 12) (N := some 65) #[true, true, true, true, true, true, true, true, true, true, true, true, true, true, false, false, false, false, false, false, false, false, false, false, false, false, false, false, false, false, false, false, false, false, false, false, false, false, false, false, false, false, false, false, false, false, false] rfl rfl (one_of HT_.out (by kernel_rfl)) (by decide) (fun K hK => ?_)
        refine goes_ Try.func10 (by kernel_rfl) rfl #[.agg #[.int .i64 d, .int .i64 n, .slice A l.length c]] (by rfl) rfl rfl (by (try simp only [List.map_toArray, List.map_cons, List.map_nil]); first | done | rfl) ?_
        refine (check_as d n l A c V0 pe HPE.out HC.out HCc.out HXS.out).mono ?_
        rintro ex V1 ⟨rfl, hb⟩
        refine ⟨_, rfl, ?_⟩
        have n_HC := Aside0.mk (Kd.C_below HC.out hb)
        have n_HQ := Aside0.mk (Kd.C_below HQ.out hb)
        have n_HR := Aside0.mk (Kd.C_below HR.out hb)
        have n_HB := Aside0.mk (below_step HB.out hb)
        have n_K3 := Aside0.mk (blk_below K3.out hb)
        have n_K4 := Aside0.mk (blk_below K4.out hb)
        have n_K7 := Aside0.mk (blk_below K7.out hb)
        have n_HP1 := Aside0.mk (Kd.C_below HP1.out hb)
        have n_HP2 := Aside0.mk (Kd.C_below HP2.out hb)
        have n_HY := Aside0.mk (Kd.C_below HY.out hb)
        have n_K12 := Aside0.mk (blk_below K12.out hb)
        have n_HZ := Aside0.mk (Kd.C_below HZ.out hb)
        have n_K14 := Aside0.mk (blk_below K14.out hb)
        clear HC HQ HR HB K3 K4 K7 HP1 HP2 HY K12 HZ K14
        have HC := n_HC
        have HQ := n_HQ
        have HR := n_HR
        have HB := n_HB
        have K3 := n_K3
        have K4 := n_K4
        have K7 := n_K7
        have HP1 := n_HP1
        have HP2 := n_HP2
        have HY := n_HY
        have K12 := n_K12
        have HZ := n_HZ
        have K14 := n_K14
        clear n_HC n_HQ n_HR n_HB n_K3 n_K4 n_K7 n_HP1 n_HP2 n_HY n_K12 n_HZ n_K14
        clear hb
        refine hK.out _ _ ⟨(blk_cell K3.out 0).trans rfl, (blk_cell K3.out 1).trans rfl, (blk_cell K3.out 2).trans rfl, (blk_cell K4.out 0).trans rfl, (blk_cell K4.out 1).trans rfl, (blk_cell K4.out 2).trans rfl, (blk_cell K7.out 0).trans rfl, (blk_cell K7.out 1).trans rfl, (blk_cell K7.out 2).trans rfl, (blk_cell K12.out 0).trans rfl, (blk_cell K12.out 1).trans rfl, (blk_cell K12.out 2).trans rfl, (blk_cell K14.out 0).trans rfl, (blk_cell K14.out 1).trans rfl, (blk_cell K14.out 2).trans rfl, HCV1.out _ HP1.out, HCV2.out _ HP2.out⟩ (fun hHeld => ?_)
        clear hK K
        refine norm_ (a' := ?_) ?_ ?_
        rotate_left
        · show Act.put _ (some 65) _ = _
          simp only [Act.put, List.setIfInBounds_toArray, List.set_cons_zero, List.set_cons_succ, i64_w, i32_w]
          rfl
        refine pure_ (i := 14) (N := some 67) (v := ?_) (a' := ?_) #[true, true, true, true, true, true, true, true, true, true, true, true, true, true, true, false, false, false, false, false, false, false, false, false, false, false, false, false, false, false, false, false, false, false, false, false, false, false, false, false, false, false, false, false, false, false, false] rfl rfl (any_of HT_.out (by kernel_rfl)) (fun _ _ _ h => h) (Or.inl ⟨by rfl, ?_⟩) ?_ ?_
        rotate_left
        · intro w'
          go_simp
          with_reducible rfl
        rotate_left
        · simp only [Act.put, List.setIfInBounds_toArray, List.set_cons_zero, List.set_cons_succ, i64_w, i32_w]
          rfl
        refine pure_ (i := 15) (N := some 68) (v := ?_) (a' := ?_) #[true, true, true, true, true, true, true, true, true, true, true, true, true, true, true, true, false, false, false, false, false, false, false, false, false, false, false, false, false, false, false, false, false, false, false, false, false, false, false, false, false, false, false, false, false, false, false] rfl rfl (any_of HT_.out (by kernel_rfl)) (fun _ _ _ h => h) (Or.inl ⟨by rfl, ?_⟩) ?_ ?_
        rotate_left
        · intro w'
          go_simp
          with_reducible rfl
        rotate_left
        · simp only [Act.put, List.setIfInBounds_toArray, List.set_cons_zero, List.set_cons_succ, i64_w, i32_w]
          rfl
        refine pure_ (i := 16) (N := some 69) (v := ?_) (a' := ?_) #[true, true, true, true, true, true, true, true, true, true, true, true, true, true, true, true, true, false, false, false, false, false, false, false, false, false, false, false, false, false, false, false, false, false, false, false, false, false, false, false, false, false, false, false, false, false, false] rfl rfl (any_of HT_.out (by kernel_rfl)) (fun _ _ _ h => h) (Or.inl ⟨by rfl, ?_⟩) ?_ ?_
        rotate_left
        · intro w'
          go_simp
          with_reducible rfl
        rotate_left
        · simp only [Act.put, List.setIfInBounds_toArray, List.set_cons_zero, List.set_cons_succ, i64_w, i32_w]
          rfl
        refine take_ (i := 17) (N := some 70) (v := ?_) (a' := ?_) #[true, true, true, true, true, true, true, true, true, true, true, true, true, true, true, true, true, true, false, false, false, false, false, false, false, false, false, false, false, false, false, false, false, false, false, false, false, false, false, false, false, false, false, false, false, false, false] rfl rfl (take_ofW HT_.out HW_.out (by kernel_rfl)) (fun _ _ _ h => h) (Or.inl ⟨by rfl, ?_⟩) hHeld ?_ ?_
        rotate_left
        · rintro w' ⟨s0, s1, s2, s3, s4, s5, s6, s7, s8, s9, s10, s11, s12, s13, s14, s15, s16⟩
          go_simp
          with_reducible rfl
        rotate_left
        · simp only [Act.put, List.setIfInBounds_toArray, List.set_cons_zero, List.set_cons_succ, i64_w, i32_w]
          rfl
        refine pure_ (i := 19) (N := some 72) (v := ?_) (a' := ?_) #[true, true, true, true, true, true, true, true, true, true, true, true, true, true, true, true, true, true, false, true, false, false, false, false, false, false, false, false, false, false, false, false, false, false, false, false, false, false, false, false, false, false, false, false, false, false, false] rfl rfl (any_of HT_.out (by kernel_rfl)) (fun _ _ _ h => h) (Or.inl ⟨by rfl, ?_⟩) ?_ ?_
        rotate_left
        · intro w'
          go_simp
          with_reducible rfl
        rotate_left
        · simp only [Act.put, List.setIfInBounds_toArray, List.set_cons_zero, List.set_cons_succ, i64_w, i32_w]
          rfl
        refine take_ (i := 20) (N := some 73) (v := ?_) (a' := ?_) #[true, true, true, true, true, true, true, true, true, true, true, true, true, true, true, true, true, true, false, true, true, false, false, false, false, false, false, false, false, false, false, false, false, false, false, false, false, false, false, false, false, false, false, false, false, false, false] rfl rfl (take_ofW HT_.out HW_.out (by kernel_rfl)) (fun _ _ _ h => h) (Or.inl ⟨by rfl, ?_⟩) hHeld ?_ ?_
        rotate_left
        · rintro w' ⟨s0, s1, s2, s3, s4, s5, s6, s7, s8, s9, s10, s11, s12, s13, s14, s15, s16⟩
          go_simp
          with_reducible rfl
        rotate_left
        · simp only [Act.put, List.setIfInBounds_toArray, List.set_cons_zero, List.set_cons_succ, i64_w, i32_w]
          rfl
        refine one_ (i := 18) (N := some 71) #[true, true, true, true, true, true, true, true, true, true, true, true, true, true, true, true, true, true, true, true, true, false, false, false, false, false, false, false, false, false, false, false, false, false, false, false, false, false, false, false, false, false, false, false, false, false, false] rfl rfl (one_of HT_.out (by kernel_rfl)) (by decide) (fun K hK => ?_)
        refine goes_ Try.func13 (by kernel_rfl) rfl #[.agg #[.int .i64 d, .int .i64 n, .slice A l.length c]] (by rfl) rfl rfl (by (try simp only [List.map_toArray, List.map_cons, List.map_nil]); first | done | rfl) ?_
        refine (bucket_Size.calls 1001 d n A c l (sizeN l : Int) V1 HC.out HCc.out (size_is d n l HXS.out)).mono ?_
        rintro ex V2 ⟨rfl, hb⟩
        refine ⟨_, rfl, ?_⟩
        have n_HC := Aside0.mk (Kd.C_below HC.out hb)
        have n_HQ := Aside0.mk (Kd.C_below HQ.out hb)
        have n_HR := Aside0.mk (Kd.C_below HR.out hb)
        have n_HB := Aside0.mk (below_step HB.out hb)
        have n_K3 := Aside0.mk (blk_below K3.out hb)
        have n_K4 := Aside0.mk (blk_below K4.out hb)
        have n_K7 := Aside0.mk (blk_below K7.out hb)
        have n_HP1 := Aside0.mk (Kd.C_below HP1.out hb)
        have n_HP2 := Aside0.mk (Kd.C_below HP2.out hb)
        have n_HY := Aside0.mk (Kd.C_below HY.out hb)
        have n_K12 := Aside0.mk (blk_below K12.out hb)
        have n_HZ := Aside0.mk (Kd.C_below HZ.out hb)
        have n_K14 := Aside0.mk (blk_below K14.out hb)
        clear HC HQ HR HB K3 K4 K7 HP1 HP2 HY K12 HZ K14
        have HC := n_HC
        have HQ := n_HQ
        have HR := n_HR
        have HB := n_HB
        have K3 := n_K3
        have K4 := n_K4
        have K7 := n_K7
        have HP1 := n_HP1
        have HP2 := n_HP2
        have HY := n_HY
        have K12 := n_K12
        have HZ := n_HZ
        have K14 := n_K14
        clear n_HC n_HQ n_HR n_HB n_K3 n_K4 n_K7 n_HP1 n_HP2 n_HY n_K12 n_HZ n_K14
        clear hb
        refine hK.out _ _ ⟨(blk_cell K3.out 0).trans rfl, (blk_cell K3.out 1).trans rfl, (blk_cell K3.out 2).trans rfl, (blk_cell K4.out 0).trans rfl, (blk_cell K4.out 1).trans rfl, (blk_cell K4.out 2).trans rfl, (blk_cell K7.out 0).trans rfl, (blk_cell K7.out 1).trans rfl, (blk_cell K7.out 2).trans rfl, (blk_cell K12.out 0).trans rfl, (blk_cell K12.out 1).trans rfl, (blk_cell K12.out 2).trans rfl, (blk_cell K14.out 0).trans rfl, (blk_cell K14.out 1).trans rfl, (blk_cell K14.out 2).trans rfl, HCV1.out _ HP1.out, HCV2.out _ HP2.out⟩ (fun hHeld => ?_)
        clear hK K
        refine norm_ (a' := ?_) ?_ ?_
        rotate_left
        · show Act.put _ (some 71) _ = _
          simp only [Act.put, List.setIfInBounds_toArray, List.set_cons_zero, List.set_cons_succ, i64_w, i32_w]
          rfl
        refine one_ (i := 21) (N := some 74) #[true, true, true, true, true, true, true, true, true, true, true, true, true, true, true, true, true, true, true, true, true, true, false, false, false, false, false, false, false, false, false, false, false, false, false, false, false, false, false, false, false, false, false, false, false, false, false] rfl rfl (one_of HT_.out (by kernel_rfl)) (by decide) (fun K hK => ?_)
        refine goes_ Try.func24 (by kernel_rfl) rfl #[.slice A l.length c] (by rfl) rfl rfl (by (try simp only [List.map_toArray, List.map_cons, List.map_nil]); first | done | rfl) ?_
        refine (intarsiaref10_Size.calls 1001 A c l (sizeN l : Int) V2 HC.out HCc.out (rsize_is l HXS.out 1001 (by decide))).mono ?_
        rintro ex V3 ⟨rfl, hd_⟩
        refine ⟨_, rfl, ?_⟩
        have hb := hd_.below
        clear hd_
        have n_HC := Aside0.mk (Kd.C_below HC.out hb)
        have n_HQ := Aside0.mk (Kd.C_below HQ.out hb)
        have n_HR := Aside0.mk (Kd.C_below HR.out hb)
        have n_HB := Aside0.mk (below_step HB.out hb)
        have n_K3 := Aside0.mk (blk_below K3.out hb)
        have n_K4 := Aside0.mk (blk_below K4.out hb)
        have n_K7 := Aside0.mk (blk_below K7.out hb)
        have n_HP1 := Aside0.mk (Kd.C_below HP1.out hb)
        have n_HP2 := Aside0.mk (Kd.C_below HP2.out hb)
        have n_HY := Aside0.mk (Kd.C_below HY.out hb)
        have n_K12 := Aside0.mk (blk_below K12.out hb)
        have n_HZ := Aside0.mk (Kd.C_below HZ.out hb)
        have n_K14 := Aside0.mk (blk_below K14.out hb)
        clear HC HQ HR HB K3 K4 K7 HP1 HP2 HY K12 HZ K14
        have HC := n_HC
        have HQ := n_HQ
        have HR := n_HR
        have HB := n_HB
        have K3 := n_K3
        have K4 := n_K4
        have K7 := n_K7
        have HP1 := n_HP1
        have HP2 := n_HP2
        have HY := n_HY
        have K12 := n_K12
        have HZ := n_HZ
        have K14 := n_K14
        clear n_HC n_HQ n_HR n_HB n_K3 n_K4 n_K7 n_HP1 n_HP2 n_HY n_K12 n_HZ n_K14
        clear hb
        refine hK.out _ _ ⟨(blk_cell K3.out 0).trans rfl, (blk_cell K3.out 1).trans rfl, (blk_cell K3.out 2).trans rfl, (blk_cell K4.out 0).trans rfl, (blk_cell K4.out 1).trans rfl, (blk_cell K4.out 2).trans rfl, (blk_cell K7.out 0).trans rfl, (blk_cell K7.out 1).trans rfl, (blk_cell K7.out 2).trans rfl, (blk_cell K12.out 0).trans rfl, (blk_cell K12.out 1).trans rfl, (blk_cell K12.out 2).trans rfl, (blk_cell K14.out 0).trans rfl, (blk_cell K14.out 1).trans rfl, (blk_cell K14.out 2).trans rfl, HCV1.out _ HP1.out, HCV2.out _ HP2.out⟩ (fun hHeld => ?_)
        clear hK K
        refine norm_ (a' := ?_) ?_ ?_
        rotate_left
        · show Act.put _ (some 74) _ = _
          simp only [Act.put, List.setIfInBounds_toArray, List.set_cons_zero, List.set_cons_succ, i64_w, i32_w]
          rfl
        refine pure_ (i := 22) (N := some 75) (v := ?_) (a' := ?_) #[true, true, true, true, true, true, true, true, true, true, true, true, true, true, true, true, true, true, true, true, true, true, true, false, false, false, false, false, false, false, false, false, false, false, false, false, false, false, false, false, false, false, false, false, false, false, false] rfl rfl (any_of HT_.out (by kernel_rfl)) (fun _ _ _ h => h) (Or.inl ⟨by rfl, ?_⟩) ?_ ?_
        rotate_left
        · intro w'
          go_simp
          with_reducible rfl
        rotate_left
        · simp only [Act.put, List.setIfInBounds_toArray, List.set_cons_zero, List.set_cons_succ, i64_w, i32_w]
          rfl
        refine pure_ (i := 23) (N := some 76) (v := ?_) (a' := ?_) #[true, true, true, true, true, true, true, true, true, true, true, true, true, true, true, true, true, true, true, true, true, true, true, true, false, false, false, false, false, false, false, false, false, false, false, false, false, false, false, false, false, false, false, false, false, false, false] rfl rfl (any_of HT_.out (by kernel_rfl)) (fun _ _ _ h => h) (Or.inl ⟨by rfl, ?_⟩) ?_ ?_
        rotate_left
        · intro w'
          go_simp
          with_reducible rfl
        rotate_left
        · simp only [Act.put, List.setIfInBounds_toArray, List.set_cons_zero, List.set_cons_succ, i64_w, i32_w]
          rfl
        refine pure_ (i := 24) (N := some 77) (v := ?_) (a' := ?_) #[true, true, true, true, true, true, true, true, true, true, true, true, true, true, true, true, true, true, true, true, true, true, true, true, true, false, false, false, false, false, false, false, false, false, false, false, false, false, false, false, false, false, false, false, false, false, false] rfl rfl (any_of HT_.out (by kernel_rfl)) (fun _ _ _ h => h) (Or.inl ⟨by rfl, ?_⟩) ?_ ?_
        rotate_left
        · intro w'
          go_simp
          with_reducible rfl
        rotate_left
        · simp only [Act.put, List.setIfInBounds_toArray, List.set_cons_zero, List.set_cons_succ, i64_w, i32_w]
          rfl
        refine take_ (i := 25) (N := some 78) (v := ?_) (a' := ?_) #[true, true, true, true, true, true, true, true, true, true, true, true, true, true, true, true, true, true, true, true, true, true, true, true, true, true, false, false, false, false, false, false, false, false, false, false, false, false, false, false, false, false, false, false, false, false, false] rfl rfl (take_ofW HT_.out HW_.out (by kernel_rfl)) (fun _ _ _ h => h) (Or.inl ⟨by rfl, ?_⟩) hHeld ?_ ?_
        rotate_left
        · rintro w' ⟨s0, s1, s2, s3, s4, s5, s6, s7, s8, s9, s10, s11, s12, s13, s14, s15, s16⟩
          go_simp
          with_reducible rfl
        rotate_left
        · simp only [Act.put, List.setIfInBounds_toArray, List.set_cons_zero, List.set_cons_succ, i64_w, i32_w]
          rfl
        refine take_ (i := 26) (N := some 79) (v := ?_) (a' := ?_) #[true, true, true, true, true, true, true, true, true, true, true, true, true, true, true, true, true, true, true, true, true, true, true, true, true, true, true, false, false, false, false, false, false, false, false, false, false, false, false, false, false, false, false, false, false, false, false] rfl rfl (take_ofW HT_.out HW_.out (by kernel_rfl)) (fun _ _ _ h => h) (Or.inl ⟨by rfl, ?_⟩) hHeld ?_ ?_
        rotate_left
        · rintro w' ⟨s0, s1, s2, s3, s4, s5, s6, s7, s8, s9, s10, s11, s12, s13, s14, s15, s16⟩
          go_simp
          with_reducible rfl
        rotate_left
        · simp only [Act.put, List.setIfInBounds_toArray, List.set_cons_zero, List.set_cons_succ, i64_w, i32_w]
          rfl
        refine one_ (i := 27) (N := some 80) #[true, true, true, true, true, true, true, true, true, true, true, true, true, true, true, true, true, true, true, true, true, true, true, true, true, true, true, true, false, false, false, false, false, false, false, false, false, false, false, false, false, false, false, false, false, false, false] rfl rfl (one_of HT_.out (by kernel_rfl)) (by decide) (fun K hK => ?_)
        refine goes_ Try.func25 (by kernel_rfl) rfl #[.agg #[.int .i64 zd, .int .i64 zn, .slice TY zl.length cY], .agg #[.int .i64 zd, .int .i64 zn, .slice TZ zl.length cZ]] (by rfl) rfl rfl (by (try simp only [List.map_toArray, List.map_cons, List.map_nil]); first | done | rfl) ?_
        refine (intarsiaref10_Same.calls 1001 zd zn TY cY zl zd zn TZ cZ zl true V3 HY.out HYc.out HZ.out HZc.out (by rw [rsame_all _ _ _ _ _ _ HZL.out, sames_self, decide_eq_true rfl, decide_eq_true rfl]; rfl)).mono ?_
        rintro ex V4 ⟨rfl, hb⟩
        refine ⟨_, rfl, ?_⟩
        have n_HC := Aside0.mk (Kd.C_below HC.out hb)
        have n_HQ := Aside0.mk (Kd.C_below HQ.out hb)
        have n_HR := Aside0.mk (Kd.C_below HR.out hb)
        have n_HB := Aside0.mk (below_step HB.out hb)
        have n_K3 := Aside0.mk (blk_below K3.out hb)
        have n_K4 := Aside0.mk (blk_below K4.out hb)
        have n_K7 := Aside0.mk (blk_below K7.out hb)
        have n_HP1 := Aside0.mk (Kd.C_below HP1.out hb)
        have n_HP2 := Aside0.mk (Kd.C_below HP2.out hb)
        have n_HY := Aside0.mk (Kd.C_below HY.out hb)
        have n_K12 := Aside0.mk (blk_below K12.out hb)
        have n_HZ := Aside0.mk (Kd.C_below HZ.out hb)
        have n_K14 := Aside0.mk (blk_below K14.out hb)
        clear HC HQ HR HB K3 K4 K7 HP1 HP2 HY K12 HZ K14
        have HC := n_HC
        have HQ := n_HQ
        have HR := n_HR
        have HB := n_HB
        have K3 := n_K3
        have K4 := n_K4
        have K7 := n_K7
        have HP1 := n_HP1
        have HP2 := n_HP2
        have HY := n_HY
        have K12 := n_K12
        have HZ := n_HZ
        have K14 := n_K14
        clear n_HC n_HQ n_HR n_HB n_K3 n_K4 n_K7 n_HP1 n_HP2 n_HY n_K12 n_HZ n_K14
        clear hb
        refine hK.out _ _ ⟨(blk_cell K3.out 0).trans rfl, (blk_cell K3.out 1).trans rfl, (blk_cell K3.out 2).trans rfl, (blk_cell K4.out 0).trans rfl, (blk_cell K4.out 1).trans rfl, (blk_cell K4.out 2).trans rfl, (blk_cell K7.out 0).trans rfl, (blk_cell K7.out 1).trans rfl, (blk_cell K7.out 2).trans rfl, (blk_cell K12.out 0).trans rfl, (blk_cell K12.out 1).trans rfl, (blk_cell K12.out 2).trans rfl, (blk_cell K14.out 0).trans rfl, (blk_cell K14.out 1).trans rfl, (blk_cell K14.out 2).trans rfl, HCV1.out _ HP1.out, HCV2.out _ HP2.out⟩ (fun hHeld => ?_)
        clear hK K
        refine norm_ (a' := ?_) ?_ ?_
        rotate_left
        · show Act.put _ (some 80) _ = _
          simp only [Act.put, List.setIfInBounds_toArray, List.set_cons_zero, List.set_cons_succ, i64_w, i32_w]
          rfl
        refine pure_ (i := 28) (N := some 81) (v := ?_) (a' := ?_) #[true, true, true, true, true, true, true, true, true, true, true, true, true, true, true, true, true, true, true, true, true, true, true, true, true, true, true, true, true, false, false, false, false, false, false, false, false, false, false, false, false, false, false, false, false, false, false] rfl rfl (any_of HT_.out (by kernel_rfl)) (fun _ _ _ h => h) (Or.inl ⟨by rfl, ?_⟩) ?_ ?_
        rotate_left
        · intro w'
          go_simp
          with_reducible rfl
        rotate_left
        · simp only [Act.put, List.setIfInBounds_toArray, List.set_cons_zero, List.set_cons_succ, i64_w, i32_w]
          rfl
        refine pure_ (i := 29) (N := some 82) (v := ?_) (a' := ?_) #[true, true, true, true, true, true, true, true, true, true, true, true, true, true, true, true, true, true, true, true, true, true, true, true, true, true, true, true, true, true, false, false, false, false, false, false, false, false, false, false, false, false, false, false, false, false, false] rfl rfl (any_of HT_.out (by kernel_rfl)) (fun _ _ _ h => h) (Or.inl ⟨by rfl, ?_⟩) ?_ ?_
        rotate_left
        · intro w'
          go_simp
          with_reducible rfl
        rotate_left
        · simp only [Act.put, List.setIfInBounds_toArray, List.set_cons_zero, List.set_cons_succ, i64_w, i32_w]
          rfl
        refine pure_ (i := 30) (N := some 83) (v := ?_) (a' := ?_) #[true, true, true, true, true, true, true, true, true, true, true, true, true, true, true, true, true, true, true, true, true, true, true, true, true, true, true, true, true, true, true, false, false, false, false, false, false, false, false, false, false, false, false, false, false, false, false] rfl rfl (any_of HT_.out (by kernel_rfl)) (fun _ _ _ h => h) (Or.inl ⟨by rfl, ?_⟩) ?_ ?_
        rotate_left
        · intro w'
          go_simp
          with_reducible rfl
        rotate_left
        · simp only [Act.put, List.setIfInBounds_toArray, List.set_cons_zero, List.set_cons_succ, i64_w, i32_w]
          rfl
        refine pure_ (i := 31) (N := some 84) (v := ?_) (a' := ?_) #[true, true, true, true, true, true, true, true, true, true, true, true, true, true, true, true, true, true, true, true, true, true, true, true, true, true, true, true, true, true, true, true, false, false, false, false, false, false, false, false, false, false, false, false, false, false, false] rfl rfl (any_of HT_.out (by kernel_rfl)) (fun _ _ _ h => h) (Or.inl ⟨by rfl, ?_⟩) ?_ ?_
        rotate_left
        · intro w'
          go_simp
          with_reducible rfl
        rotate_left
        · simp only [Act.put, List.setIfInBounds_toArray, List.set_cons_zero, List.set_cons_succ, i64_w, i32_w]
          rfl
        refine pure_ (i := 32) (N := some 85) (v := ?_) (a' := ?_) #[true, true, true, true, true, true, true, true, true, true, true, true, true, true, true, true, true, true, true, true, true, true, true, true, true, true, true, true, true, true, true, true, true, false, false, false, false, false, false, false, false, false, false, false, false, false, false] rfl rfl (any_of HT_.out (by kernel_rfl)) (fun _ _ _ h => h) (Or.inl ⟨by rfl, ?_⟩) ?_ ?_
        rotate_left
        · intro w'
          go_simp
          with_reducible rfl
        rotate_left
        · simp only [Act.put, List.setIfInBounds_toArray, List.set_cons_zero, List.set_cons_succ, i64_w, i32_w]
          rfl
        refine pure_ (i := 33) (N := some 86) (v := ?_) (a' := ?_) #[true, true, true, true, true, true, true, true, true, true, true, true, true, true, true, true, true, true, true, true, true, true, true, true, true, true, true, true, true, true, true, true, true, true, false, false, false, false, false, false, false, false, false, false, false, false, false] rfl rfl (any_of HT_.out (by kernel_rfl)) (fun _ _ _ h => h) (Or.inl ⟨by rfl, ?_⟩) ?_ ?_
        rotate_left
        · intro w'
          go_simp
          with_reducible rfl
        rotate_left
        · simp only [Act.put, List.setIfInBounds_toArray, List.set_cons_zero, List.set_cons_succ, i64_w, i32_w]
          rfl
        refine pure_ (i := 34) (N := some 87) (v := ?_) (a' := ?_) #[true, true, true, true, true, true, true, true, true, true, true, true, true, true, true, true, true, true, true, true, true, true, true, true, true, true, true, true, true, true, true, true, true, true, true, false, false, false, false, false, false, false, false, false, false, false, false] rfl rfl (any_of HT_.out (by kernel_rfl)) (fun _ _ _ h => h) (Or.inl ⟨by rfl, ?_⟩) ?_ ?_
        rotate_left
        · intro w'
          go_simp
          with_reducible rfl
        rotate_left
        · simp only [Act.put, List.setIfInBounds_toArray, List.set_cons_zero, List.set_cons_succ, i64_w, i32_w]
          rfl
        refine take_ (i := 35) (N := some 88) (v := ?_) (a' := ?_) #[true, true, true, true, true, true, true, true, true, true, true, true, true, true, true, true, true, true, true, true, true, true, true, true, true, true, true, true, true, true, true, true, true, true, true, true, false, false, false, false, false, false, false, false, false, false, false] rfl rfl (take_ofW HT_.out HW_.out (by kernel_rfl)) (fun _ _ _ h => h) (Or.inl ⟨by rfl, ?_⟩) hHeld ?_ ?_
        rotate_left
        · rintro w' ⟨s0, s1, s2, s3, s4, s5, s6, s7, s8, s9, s10, s11, s12, s13, s14, s15, s16⟩
          go_simp
          with_reducible rfl
        rotate_left
        · simp only [Act.put, List.setIfInBounds_toArray, List.set_cons_zero, List.set_cons_succ, i64_w, i32_w]
          rfl
        refine take_ (i := 36) (N := some 89) (v := ?_) (a' := ?_) #[true, true, true, true, true, true, true, true, true, true, true, true, true, true, true, true, true, true, true, true, true, true, true, true, true, true, true, true, true, true, true, true, true, true, true, true, true, false, false, false, false, false, false, false, false, false, false] rfl rfl (take_ofW HT_.out HW_.out (by kernel_rfl)) (fun _ _ _ h => h) (Or.inl ⟨by rfl, ?_⟩) hHeld ?_ ?_
        rotate_left
        · rintro w' ⟨s0, s1, s2, s3, s4, s5, s6, s7, s8, s9, s10, s11, s12, s13, s14, s15, s16⟩
          go_simp
          with_reducible rfl
        rotate_left
        · simp only [Act.put, List.setIfInBounds_toArray, List.set_cons_zero, List.set_cons_succ, i64_w, i32_w]
          rfl
        refine take_ (i := 38) (N := some 91) (v := ?_) (a' := ?_) #[true, true, true, true, true, true, true, true, true, true, true, true, true, true, true, true, true, true, true, true, true, true, true, true, true, true, true, true, true, true, true, true, true, true, true, true, true, false, true, false, false, false, false, false, false, false, false] rfl rfl (take_ofW HT_.out HW_.out (by kernel_rfl)) (fun _ _ _ h => h) (Or.inl ⟨by rfl, ?_⟩) hHeld ?_ ?_
        rotate_left
        · rintro w' ⟨s0, s1, s2, s3, s4, s5, s6, s7, s8, s9, s10, s11, s12, s13, s14, s15, s16⟩
          go_simp
          with_reducible rfl
        rotate_left
        · simp only [Act.put, List.setIfInBounds_toArray, List.set_cons_zero, List.set_cons_succ, i64_w, i32_w]
          rfl
        refine take_ (i := 39) (N := some 92) (v := ?_) (a' := ?_) #[true, true, true, true, true, true, true, true, true, true, true, true, true, true, true, true, true, true, true, true, true, true, true, true, true, true, true, true, true, true, true, true, true, true, true, true, true, false, true, true, false, false, false, false, false, false, false] rfl rfl (take_ofW HT_.out HW_.out (by kernel_rfl)) (fun _ _ _ h => h) (Or.inl ⟨by rfl, ?_⟩) hHeld ?_ ?_
        rotate_left
        · rintro w' ⟨s0, s1, s2, s3, s4, s5, s6, s7, s8, s9, s10, s11, s12, s13, s14, s15, s16⟩
          go_simp
          with_reducible rfl
        rotate_left
        · simp only [Act.put, List.setIfInBounds_toArray, List.set_cons_zero, List.set_cons_succ, i64_w, i32_w]
          rfl
        refine one_ (i := 37) (N := some 90) #[true, true, true, true, true, true, true, true, true, true, true, true, true, true, true, true, true, true, true, true, true, true, true, true, true, true, true, true, true, true, true, true, true, true, true, true, true, true, true, true, false, false, false, false, false, false, false] rfl rfl (one_of HT_.out (by kernel_rfl)) (by decide) (fun K hK => ?_)
        refine goes_ Try.func12 (by kernel_rfl) rfl #[.agg #[.int .i64 d, .int .i64 n, .slice A l.length c], .agg #[.int .i64 e, .int .i64 m, .slice Q q.length cq]] (by rfl) rfl rfl (by (try simp only [List.map_toArray, List.map_cons, List.map_nil]); first | done | rfl) ?_
        refine (bucket_Same.calls 1001 d n A c l e m Q cq q sm V4 HC.out HCc.out HQ.out HQc.out (by rw [same_is d n e m l q (by have := HLN.out; omega), HSM.out])).mono ?_
        rintro ex V5 ⟨rfl, hb⟩
        refine ⟨_, rfl, ?_⟩
        have n_HC := Aside0.mk (Kd.C_below HC.out hb)
        have n_HQ := Aside0.mk (Kd.C_below HQ.out hb)
        have n_HR := Aside0.mk (Kd.C_below HR.out hb)
        have n_HB := Aside0.mk (below_step HB.out hb)
        have n_K3 := Aside0.mk (blk_below K3.out hb)
        have n_K4 := Aside0.mk (blk_below K4.out hb)
        have n_K7 := Aside0.mk (blk_below K7.out hb)
        have n_HP1 := Aside0.mk (Kd.C_below HP1.out hb)
        have n_HP2 := Aside0.mk (Kd.C_below HP2.out hb)
        have n_HY := Aside0.mk (Kd.C_below HY.out hb)
        have n_K12 := Aside0.mk (blk_below K12.out hb)
        have n_HZ := Aside0.mk (Kd.C_below HZ.out hb)
        have n_K14 := Aside0.mk (blk_below K14.out hb)
        clear HC HQ HR HB K3 K4 K7 HP1 HP2 HY K12 HZ K14
        have HC := n_HC
        have HQ := n_HQ
        have HR := n_HR
        have HB := n_HB
        have K3 := n_K3
        have K4 := n_K4
        have K7 := n_K7
        have HP1 := n_HP1
        have HP2 := n_HP2
        have HY := n_HY
        have K12 := n_K12
        have HZ := n_HZ
        have K14 := n_K14
        clear n_HC n_HQ n_HR n_HB n_K3 n_K4 n_K7 n_HP1 n_HP2 n_HY n_K12 n_HZ n_K14
        clear hb
        refine hK.out _ _ ⟨(blk_cell K3.out 0).trans rfl, (blk_cell K3.out 1).trans rfl, (blk_cell K3.out 2).trans rfl, (blk_cell K4.out 0).trans rfl, (blk_cell K4.out 1).trans rfl, (blk_cell K4.out 2).trans rfl, (blk_cell K7.out 0).trans rfl, (blk_cell K7.out 1).trans rfl, (blk_cell K7.out 2).trans rfl, (blk_cell K12.out 0).trans rfl, (blk_cell K12.out 1).trans rfl, (blk_cell K12.out 2).trans rfl, (blk_cell K14.out 0).trans rfl, (blk_cell K14.out 1).trans rfl, (blk_cell K14.out 2).trans rfl, HCV1.out _ HP1.out, HCV2.out _ HP2.out⟩ (fun hHeld => ?_)
        clear hK K
        refine norm_ (a' := ?_) ?_ ?_
        rotate_left
        · show Act.put _ (some 90) _ = _
          simp only [Act.put, List.setIfInBounds_toArray, List.set_cons_zero, List.set_cons_succ, i64_w, i32_w]
          rfl
        refine one_ (i := 40) (N := some 93) #[true, true, true, true, true, true, true, true, true, true, true, true, true, true, true, true, true, true, true, true, true, true, true, true, true, true, true, true, true, true, true, true, true, true, true, true, true, true, true, true, true, false, false, false, false, false, false] rfl rfl (one_of HT_.out (by kernel_rfl)) (by decide) (fun K hK => ?_)
        refine goes_ Try.func25 (by kernel_rfl) rfl #[.agg #[.int .i64 d, .int .i64 n, .slice A l.length c], .agg #[.int .i64 e, .int .i64 m, .slice Q q.length cq]] (by rfl) rfl rfl (by (try simp only [List.map_toArray, List.map_cons, List.map_nil]); first | done | rfl) ?_
        refine (intarsiaref10_Same.calls 1001 d n A c l e m Q cq q sm V5 HC.out HCc.out HQ.out HQc.out (by rw [rsame_all d n l e m q (by have := HLN.out; omega), HSM.out])).mono ?_
        rintro ex V6 ⟨rfl, hb⟩
        refine ⟨_, rfl, ?_⟩
        have n_HC := Aside0.mk (Kd.C_below HC.out hb)
        have n_HQ := Aside0.mk (Kd.C_below HQ.out hb)
        have n_HR := Aside0.mk (Kd.C_below HR.out hb)
        have n_HB := Aside0.mk (below_step HB.out hb)
        have n_K3 := Aside0.mk (blk_below K3.out hb)
        have n_K4 := Aside0.mk (blk_below K4.out hb)
        have n_K7 := Aside0.mk (blk_below K7.out hb)
        have n_HP1 := Aside0.mk (Kd.C_below HP1.out hb)
        have n_HP2 := Aside0.mk (Kd.C_below HP2.out hb)
        have n_HY := Aside0.mk (Kd.C_below HY.out hb)
        have n_K12 := Aside0.mk (blk_below K12.out hb)
        have n_HZ := Aside0.mk (Kd.C_below HZ.out hb)
        have n_K14 := Aside0.mk (blk_below K14.out hb)
        clear HC HQ HR HB K3 K4 K7 HP1 HP2 HY K12 HZ K14
        have HC := n_HC
        have HQ := n_HQ
        have HR := n_HR
        have HB := n_HB
        have K3 := n_K3
        have K4 := n_K4
        have K7 := n_K7
        have HP1 := n_HP1
        have HP2 := n_HP2
        have HY := n_HY
        have K12 := n_K12
        have HZ := n_HZ
        have K14 := n_K14
        clear n_HC n_HQ n_HR n_HB n_K3 n_K4 n_K7 n_HP1 n_HP2 n_HY n_K12 n_HZ n_K14
        clear hb
        refine hK.out _ _ ⟨(blk_cell K3.out 0).trans rfl, (blk_cell K3.out 1).trans rfl, (blk_cell K3.out 2).trans rfl, (blk_cell K4.out 0).trans rfl, (blk_cell K4.out 1).trans rfl, (blk_cell K4.out 2).trans rfl, (blk_cell K7.out 0).trans rfl, (blk_cell K7.out 1).trans rfl, (blk_cell K7.out 2).trans rfl, (blk_cell K12.out 0).trans rfl, (blk_cell K12.out 1).trans rfl, (blk_cell K12.out 2).trans rfl, (blk_cell K14.out 0).trans rfl, (blk_cell K14.out 1).trans rfl, (blk_cell K14.out 2).trans rfl, HCV1.out _ HP1.out, HCV2.out _ HP2.out⟩ (fun hHeld => ?_)
        clear hK K
        refine norm_ (a' := ?_) ?_ ?_
        rotate_left
        · show Act.put _ (some 93) _ = _
          simp only [Act.put, List.setIfInBounds_toArray, List.set_cons_zero, List.set_cons_succ, i64_w, i32_w]
          rfl
        refine pure_ (i := 41) (N := some 94) (v := ?_) (a' := ?_) #[true, true, true, true, true, true, true, true, true, true, true, true, true, true, true, true, true, true, true, true, true, true, true, true, true, true, true, true, true, true, true, true, true, true, true, true, true, true, true, true, true, true, false, false, false, false, false] rfl rfl (any_of HT_.out (by kernel_rfl)) (fun _ _ _ h => h) (Or.inl ⟨by rfl, ?_⟩) ?_ ?_
        rotate_left
        · intro w'
          go_simp
          with_reducible rfl
        rotate_left
        · simp only [Act.put, List.setIfInBounds_toArray, List.set_cons_zero, List.set_cons_succ, i64_w, i32_w]
          rfl
        refine pure_ (i := 42) (N := some 95) (v := ?_) (a' := ?_) #[true, true, true, true, true, true, true, true, true, true, true, true, true, true, true, true, true, true, true, true, true, true, true, true, true, true, true, true, true, true, true, true, true, true, true, true, true, true, true, true, true, true, true, false, false, false, false] rfl rfl (any_of HT_.out (by kernel_rfl)) (fun _ _ _ h => h) (Or.inl ⟨by rfl, ?_⟩) ?_ ?_
        rotate_left
        · intro w'
          go_simp
          with_reducible rfl
        rotate_left
        · simp only [Act.put, List.setIfInBounds_toArray, List.set_cons_zero, List.set_cons_succ, i64_w, i32_w]
          rfl
        refine pure_ (i := 43) (N := some 96) (v := ?_) (a' := ?_) #[true, true, true, true, true, true, true, true, true, true, true, true, true, true, true, true, true, true, true, true, true, true, true, true, true, true, true, true, true, true, true, true, true, true, true, true, true, true, true, true, true, true, true, true, false, false, false] rfl rfl (any_of HT_.out (by kernel_rfl)) (fun _ _ _ h => h) (Or.inl ⟨by rfl, ?_⟩) ?_ ?_
        rotate_left
        · intro w'
          go_simp
          with_reducible rfl
        rotate_left
        · simp only [Act.put, List.setIfInBounds_toArray, List.set_cons_zero, List.set_cons_succ, i64_w, i32_w]
          rfl
        refine one_ (i := 44) (N := some 97) #[true, true, true, true, true, true, true, true, true, true, true, true, true, true, true, true, true, true, true, true, true, true, true, true, true, true, true, true, true, true, true, true, true, true, true, true, true, true, true, true, true, true, true, true, true, false, false] rfl rfl (one_of HT_.out (by kernel_rfl)) (by decide) (fun K hK => ?_)
        refine goes_ Try.func7 (by kernel_rfl) rfl #[] (by rfl) rfl rfl (by (try simp only [List.map_toArray, List.map_cons, List.map_nil]); first | done | rfl) ?_
        refine (awake_calls V6).mono ?_
        rintro ex V7 ⟨rfl, hb⟩
        refine ⟨_, rfl, ?_⟩
        have n_HC := Aside0.mk (Kd.C_below HC.out hb)
        have n_HQ := Aside0.mk (Kd.C_below HQ.out hb)
        have n_HR := Aside0.mk (Kd.C_below HR.out hb)
        have n_HB := Aside0.mk (below_step HB.out hb)
        have n_K3 := Aside0.mk (blk_below K3.out hb)
        have n_K4 := Aside0.mk (blk_below K4.out hb)
        have n_K7 := Aside0.mk (blk_below K7.out hb)
        have n_HP1 := Aside0.mk (Kd.C_below HP1.out hb)
        have n_HP2 := Aside0.mk (Kd.C_below HP2.out hb)
        have n_HY := Aside0.mk (Kd.C_below HY.out hb)
        have n_K12 := Aside0.mk (blk_below K12.out hb)
        have n_HZ := Aside0.mk (Kd.C_below HZ.out hb)
        have n_K14 := Aside0.mk (blk_below K14.out hb)
        clear HC HQ HR HB K3 K4 K7 HP1 HP2 HY K12 HZ K14
        have HC := n_HC
        have HQ := n_HQ
        have HR := n_HR
        have HB := n_HB
        have K3 := n_K3
        have K4 := n_K4
        have K7 := n_K7
        have HP1 := n_HP1
        have HP2 := n_HP2
        have HY := n_HY
        have K12 := n_K12
        have HZ := n_HZ
        have K14 := n_K14
        clear n_HC n_HQ n_HR n_HB n_K3 n_K4 n_K7 n_HP1 n_HP2 n_HY n_K12 n_HZ n_K14
        clear hb
        refine hK.out _ _ ⟨(blk_cell K3.out 0).trans rfl, (blk_cell K3.out 1).trans rfl, (blk_cell K3.out 2).trans rfl, (blk_cell K4.out 0).trans rfl, (blk_cell K4.out 1).trans rfl, (blk_cell K4.out 2).trans rfl, (blk_cell K7.out 0).trans rfl, (blk_cell K7.out 1).trans rfl, (blk_cell K7.out 2).trans rfl, (blk_cell K12.out 0).trans rfl, (blk_cell K12.out 1).trans rfl, (blk_cell K12.out 2).trans rfl, (blk_cell K14.out 0).trans rfl, (blk_cell K14.out 1).trans rfl, (blk_cell K14.out 2).trans rfl, HCV1.out _ HP1.out, HCV2.out _ HP2.out⟩ (fun hHeld => ?_)
        clear hK K
        refine norm_ (a' := ?_) ?_ ?_
        rotate_left
        · show Act.put _ (some 97) _ = _
          simp only [Act.put, List.setIfInBounds_toArray, List.set_cons_zero, List.set_cons_succ, i64_w, i32_w]
          rfl
        refine pure_ (i := 45) (N := some 98) (v := ?_) (a' := ?_) #[true, true, true, true, true, true, true, true, true, true, true, true, true, true, true, true, true, true, true, true, true, true, true, true, true, true, true, true, true, true, true, true, true, true, true, true, true, true, true, true, true, true, true, true, true, true, false] rfl rfl (any_of HT_.out (by kernel_rfl)) (fun _ _ _ h => h) (Or.inl ⟨by rfl, ?_⟩) ?_ ?_
        rotate_left
        · intro w'
          go_simp
          with_reducible rfl
        rotate_left
        · simp only [Act.put, List.setIfInBounds_toArray, List.set_cons_zero, List.set_cons_succ, i64_w, i32_w]
          rfl
        refine pure_ (i := 46) (N := some 6) (v := ?_) (a' := ?_) #[true, true, true, true, true, true, true, true, true, true, true, true, true, true, true, true, true, true, true, true, true, true, true, true, true, true, true, true, true, true, true, true, true, true, true, true, true, true, true, true, true, true, true, true, true, true, true] rfl rfl (any_of HT_.out (by kernel_rfl)) (fun _ _ _ h => h) (Or.inl ⟨by rfl, ?_⟩) ?_ ?_
        rotate_left
        · intro w'
          go_simp
          with_reducible rfl
        rotate_left
        · simp only [Act.put, List.setIfInBounds_toArray, List.set_cons_zero, List.set_cons_succ, i64_w, i32_w]
          rfl
        refine done_ (done_of HT_.out (by kernel_rfl)) ?_
        go_wp2_with fail
        go_ret
        exact ⟨rfl, HB.out⟩
end Go.Proofs.Ytgbjinonlfhciaa.MBk
