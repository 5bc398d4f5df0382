/- The walk of the law CheckConds. -/
import Derived.Test.YtlbcnkmojoinfaaLightV
import Derived.Test.YtlbcnkmojoinfaaExprs
namespace Go.Proofs.Ytlbcnkmojoinfaa.ChecksV
open Go.RowKit Go.Proofs.Ytlbcnkmojoinfaa.MCk Go.Proofs.YtlbcnkmojoinfaaW.PrintWords Go.Proofs.YtlbcnkmojoinfaaW.PrintLast
/-- Where the code's index stands, and where the reference's. -/
theorem both_l (n : ByteArray) (l : List ByteArray) (hl : l.length ≤ 1000000) (x : ByteArray) (d : Nat) : ∀ (k j : Nat), j + d = l.length → (slices_Index_string_string.l0 (k + d + 1) l x (l.length : Int) (j : Int) = some (-1) ∧ intarsiaref17_Attr.l0 (k + d + 1) x (j : Int) n l = some (0, false)) ∨ ∃ i : Nat, slices_Index_string_string.l0 (k + d + 1) l x (l.length : Int) (j : Int) = some (i : Int) ∧ intarsiaref17_Attr.l0 (k + d + 1) x (j : Int) n l = some ((i : Int), true) := by
  induction d with
  | zero =>
    intro k j hj
    left
    rw [slices_Index_string_string.l0, if_neg (by omega), intarsiaref17_Attr.l0, if_neg (by omega)]
    exact ⟨rfl, rfl⟩
  | succ d ih =>
    intro k j hj
    have hlt : j < l.length := by omega
    have ew : wrap64 ((j : Int) + 1) = ((j + 1 : Nat) : Int) := by unfold wrap64; omega
    by_cases he : x.toList = l[j].toList
    · rw [show k + (d + 1) + 1 = (k + d + 1) + 1 by omega, slices_Index_string_string.l0, if_pos (by omega), if_pos (by omega), if_pos (by omega), rdS l j hlt, if_pos he, intarsiaref17_Attr.l0, if_pos (by omega), if_pos (by omega), rdS l j hlt, if_pos he.symm]
      exact .inr ⟨j, rfl, rfl⟩
    · rw [show k + (d + 1) + 1 = (k + d + 1) + 1 by omega, slices_Index_string_string.l0, if_pos (by omega), if_pos (by omega), if_pos (by omega), rdS l j hlt, if_neg he, intarsiaref17_Attr.l0, if_pos (by omega), if_pos (by omega), rdS l j hlt, if_neg (fun e => he e.symm), ew]
      exact ih k (j + 1) (by omega)
theorem attr_both (k : Nat) (n : ByteArray) (l : List ByteArray) (x : ByteArray) (hl : l.length ≤ 1000000) (hk : l.length < k) : ∃ (i : Int) (b : Bool), check_Attr.f k n l x = some (i, b) ∧ intarsiaref17_Attr.f k n l x = some (i, b) := by
  have h := both_l n l hl x l.length (k - l.length - 1) 0 (by omega)
  rw [show k - l.length - 1 + l.length + 1 = k by omega] at h
  unfold check_Attr.f slices_Index_string_string.f intarsiaref17_Attr.f
  rcases h with ⟨h1, h2⟩ | ⟨i, h1, h2⟩
  · refine ⟨0, false, ?_, h2⟩
    rw [show ((0 : Nat) : Int) = 0 from rfl] at h1
    rw [h1, Option.bind_some]
    rfl
  · refine ⟨i, true, ?_, h2⟩
    rw [show ((0 : Nat) : Int) = 0 from rfl] at h1
    rw [h1, Option.bind_some, decide_eq_true (by omega)]
    rw [show mx (i : Int) 0 = (i : Int) by unfold mx; split <;> omega]
theorem same_l (l : List ByteArray) (hl : l.length ≤ 1000000) (d : Nat) : ∀ (k j : Nat), j + d = l.length → intarsialaw17_sameNames.l0 (k + d + 1) l l (j : Int) = some true := by
  induction d with
  | zero =>
    intro k j hj
    rw [intarsialaw17_sameNames.l0, if_neg (by omega)]
  | succ d ih =>
    intro k j hj
    have hlt : j < l.length := by omega
    have ew : wrap64 ((j : Int) + 1) = ((j + 1 : Nat) : Int) := by unfold wrap64; omega
    rw [show k + (d + 1) + 1 = (k + d + 1) + 1 by omega, intarsialaw17_sameNames.l0, if_pos (by omega), if_pos (by omega), if_pos (by omega), if_pos rfl, ew]
    exact ih k (j + 1) (by omega)
theorem same_self (k : Nat) (l : List ByteArray) (hl : l.length < k ∧ k ≤ 1000000) : intarsialaw17_sameNames.f k l l = some true := by
  unfold intarsialaw17_sameNames.f
  rw [if_pos rfl]
  have := same_l l (by omega) l.length (k - l.length - 1) 0 (by omega)
  rw [show k - l.length - 1 + l.length + 1 = k by omega] at this
  exact this
end Go.Proofs.Ytlbcnkmojoinfaa.ChecksV
namespace Go.Proofs.Ytlbcnkmojoinfaa.MCk
open Go.RowKit Go.Maps Go.Proofs.Ytlbcnkmojoinfaa.Hand Go.Proofs.Ytlbcnkmojoinfaa.ChecksV Go.Proofs.YtlbcnkmojoinfaaW.PrintWords Go.Proofs.YtlbcnkmojoinfaaW.PrintLast Go.Proofs.YtlbcnkmojoinfaaW.PrintMore
set_option linter.unusedVariables false
set_option linter.unusedSimpArgs false
def CheckConds.T20 : Bool × List (List Nat × List Nat) := (true, [([], []), ([0], [0]), ([], []), ([2], [2]), ([], []), ([3, 4], [3, 4]), ([5], [5]), ([6], [6]), ([], []), ([7, 8], [7, 8]), ([9], [9]), ([], []), ([1, 10, 11], [1, 10, 11]), ([12], [12]), ([13], [13]), ([13], [13]), ([14, 12, 0, 1, 2, 3, 4, 5, 6, 7, 8, 9, 10, 11, 12, 13, 14], [14]), ([15, 16, 0, 1, 2, 3, 4, 5, 6, 7, 8, 9, 10, 11, 12, 13, 14, 15, 16], [15])])
def CheckConds.B20 : List Nat := [0, 1, 0, 4, 0, 28, 60, 124, 0, 508, 1020, 0, 4095, 8191, 16383, 16383, 32767, 131071]
theorem CheckConds.tab20 : rtab .any (opsOf Try.f3 20) = CheckConds.T20 := by kernel_rfl
theorem CheckConds.bits20 : waitsOk CheckConds.T20.2 CheckConds.B20 = true := by kernel_rfl
def CheckConds.T21 : Bool × List (List Nat × List Nat) := (true, [([], []), ([0], [0]), ([], []), ([2], [2]), ([], []), ([3, 4], [3, 4]), ([5], [5]), ([6], [6]), ([], []), ([7, 8], [7, 8]), ([9], [9]), ([], []), ([1, 10, 11], [1, 10, 11]), ([12], [12]), ([13], [13]), ([13], [13]), ([14, 12, 0, 1, 2, 3, 4, 5, 6, 7, 8, 9, 10, 11, 12, 13, 14], [14]), ([15, 16, 0, 1, 2, 3, 4, 5, 6, 7, 8, 9, 10, 11, 12, 13, 14, 15, 16], [15])])
def CheckConds.B21 : List Nat := [0, 1, 0, 4, 0, 28, 60, 124, 0, 508, 1020, 0, 4095, 8191, 16383, 16383, 32767, 131071]
theorem CheckConds.tab21 : rtab .any (opsOf Try.f3 21) = CheckConds.T21 := by kernel_rfl
theorem CheckConds.bits21 : waitsOk CheckConds.T21.2 CheckConds.B21 = true := by kernel_rfl
set_option maxHeartbeats 16000000 in
set_option maxRecDepth 100000 in
theorem CheckConds_calls (xs : List S30) (A : Option Addr) (c : Nat) (ys : List S38) (B : Option Addr) (d : Nat) (bd : List ByteArray) (N : Option Addr) (n : Nat) (nm : ByteArray) (w : World)
    (hC : Kd.C k30 w A xs.length xs) (hc : xs.length ≤ c) (hE : Kd.C k38 w B ys.length ys) (he : ys.length ≤ d) (hN : Kd.C Kd.string w N bd.length bd) (hn : bd.length ≤ n) :
    Calls Try.prog 3 #[.agg #[.slice A xs.length c, .slice B ys.length d], .slice N bd.length n, .string nm] w fun e w' => e = .returned (.bool true) ∧ Below w.heap.size w w' := by
  have HC := Aside0.mk hC
  have HCc := Aside0.mk hc
  have HE := Aside0.mk hE
  have HEc := Aside0.mk he
  have HN := Aside0.mk hN
  have HNc := Aside0.mk hn
  clear hC hc hE he hN hn
  go_enter Try.func3, Try.ntmps3
  go_upto_region 1 with fail
  have HB := Aside0.mk (Below.refl w.heap.size w)
  obtain ⟨g3, hg3⟩ : ∃ g, g = w.heap.size := ⟨_, rfl⟩
  have hW := below_alloc (Below.refl w.heap.size w) (Obj.cells #[Value.slice A xs.length c, Value.slice B ys.length d] 25)
  have hN := blk_new w (Obj.cells #[Value.slice A xs.length c, Value.slice B ys.length d] 25)
  rw [← hg3] at hN ⊢
  generalize w.alloc (Obj.cells #[Value.slice A xs.length c, Value.slice B ys.length d] 25) = W1 at hW hN ⊢
  have n_HB := Aside0.mk (below_step HB.out hW)
  have n_HC := Aside0.mk (Kd.C_below HC.out hW)
  have n_HE := Aside0.mk (Kd.C_below HE.out hW)
  have n_HN := Aside0.mk (Kd.C_below HN.out hW)
  clear HB HC HE HN
  have HB := n_HB
  have HC := n_HC
  have HE := n_HE
  have HN := n_HN
  clear n_HB n_HC n_HE n_HN
  have HK3 := Aside0.mk (hN)
  have Eg3 := Aside0.mk hg3
  clear hW hN hg3
  have k0 := blk_cell HK3.out 0
  have k1 := blk_cell HK3.out 1
  go_wp2_with fail
  go_at_call 7
  clear k0 k1
  obtain ⟨r, hr, hP⟩ := light_tell xs ys
  refine (intarsiaref15_Light.calls 2000 A c xs B d ys r W1 HC.out HCc.out HE.out HEc.out hr).mono ?_
  clear hr
  rintro ex W2 ⟨rfl, hb⟩
  have n_HB := Aside0.mk (below_step HB.out hb)
  have n_HC := Aside0.mk (Kd.C_below HC.out hb)
  have n_HE := Aside0.mk (Kd.C_below HE.out hb)
  have n_HN := Aside0.mk (Kd.C_below HN.out hb)
  have n_HK3 := Aside0.mk (blk_below HK3.out hb)
  clear HB HC HE HN HK3
  have HB := n_HB
  have HC := n_HC
  have HE := n_HE
  have HN := n_HN
  have HK3 := n_HK3
  clear n_HB n_HC n_HE n_HN n_HK3
  clear hb
  cases r with
  | false =>
    clear hP
    go_wp2_with fail
    go_at_call 8
    refine (awake_calls W2).mono ?_
    rintro ex VA ⟨rfl, hb⟩
    have HBA := Aside0.mk (below_step HB.out hb)
    clear hb
    go_wp2_with fail
    go_ret
    exact ⟨rfl, HBA.out⟩
  | true =>
    obtain ⟨hFC, hFR, hx, hy⟩ := hP rfl
    have HFC := Aside0.mk hFC
    have HFR := Aside0.mk hFR
    have HX := Aside0.mk hx
    have HY := Aside0.mk hy
    clear hP hFC hFR hx hy
    by_cases h1 : bd.length ≤ 30
    · have HL1 := Aside0.mk h1
      have HLB := HL1
      clear h1
      by_cases h2 : nm.size ≤ 60
      · have HL2 := Aside0.mk h2
        clear h2
        have b1 : decide ((30 : Int) < (bd.length : Int)) = false := decide_eq_false (by have := HL1.out; omega)
        have b2 : decide ((60 : Int) < (nm.size : Int)) = false := decide_eq_false (by have := HL2.out; omega)
        obtain ⟨o, ho⟩ : ∃ o, intarsiaref17_Find.f 1001 xs nm = some o := ⟨_, find_is 1001 xs nm (by have := HX.out; omega) (by have := HX.out; omega)⟩
        have k0 := blk_cell HK3.out 0
        have HO := Aside0.mk ho
        clear ho
        go_wp2_with fail
        go_at_call 9
        clear k0 b1 b2
        refine (check_Find.calls 1001 (fun k => k < W2.heap.size) A c xs nm o.1 o.2.1 o.2.2 W2 (Kd.V_mk HCc.out (Kd.C_F k30_heap HC.out)) HO.out).mono ?_
        rintro ex W3 ⟨v1, rfl, hv, hb⟩
        obtain ⟨A8, c8, rfl, -, -⟩ := hv
        have n_HB := Aside0.mk (below_step HB.out hb)
        have n_HC := Aside0.mk (Kd.C_below HC.out hb)
        have n_HE := Aside0.mk (Kd.C_below HE.out hb)
        have n_HN := Aside0.mk (Kd.C_below HN.out hb)
        have n_HK3 := Aside0.mk (blk_below HK3.out hb)
        clear HB HC HE HN HK3
        have HB := n_HB
        have HC := n_HC
        have HE := n_HE
        have HN := n_HN
        have HK3 := n_HK3
        clear n_HB n_HC n_HE n_HN n_HK3
        clear hb
        go_upto_region 4 with fail
        obtain ⟨g7, hg7⟩ : ∃ g, g = W3.heap.size := ⟨_, rfl⟩
        have hW := below_alloc (Below.refl W3.heap.size W3) (Obj.cells #[Value.string o.1, Value.slice A8 o.2.1.length c8] 30)
        have hN := blk_new W3 (Obj.cells #[Value.string o.1, Value.slice A8 o.2.1.length c8] 30)
        rw [← hg7] at hN ⊢
        generalize W3.alloc (Obj.cells #[Value.string o.1, Value.slice A8 o.2.1.length c8] 30) = W4 at hW hN ⊢
        have n_HB := Aside0.mk (below_step HB.out hW)
        have n_HC := Aside0.mk (Kd.C_below HC.out hW)
        have n_HE := Aside0.mk (Kd.C_below HE.out hW)
        have n_HN := Aside0.mk (Kd.C_below HN.out hW)
        have n_HK3 := Aside0.mk (blk_below HK3.out hW)
        clear HB HC HE HN HK3
        have HB := n_HB
        have HC := n_HC
        have HE := n_HE
        have HN := n_HN
        have HK3 := n_HK3
        clear n_HB n_HC n_HE n_HN n_HK3
        have HK7 := Aside0.mk (hN)
        have Eg7 := Aside0.mk hg7
        clear hW hN hg7
        have k0 := blk_cell HK3.out 0
        go_wp2_with fail
        go_at_call 10
        clear k0
        refine (intarsiaref17_Find.calls 1001 (fun k => k < W4.heap.size) A c xs nm o.1 o.2.1 o.2.2 W4 (Kd.V_mk HCc.out (Kd.C_F k30_heap HC.out)) HO.out).mono ?_
        rintro ex W5 ⟨v1, rfl, hv, hb⟩
        obtain ⟨A9, c9, rfl, -, -⟩ := hv
        have n_HB := Aside0.mk (below_step HB.out hb)
        have n_HC := Aside0.mk (Kd.C_below HC.out hb)
        have n_HE := Aside0.mk (Kd.C_below HE.out hb)
        have n_HN := Aside0.mk (Kd.C_below HN.out hb)
        have n_HK3 := Aside0.mk (blk_below HK3.out hb)
        have n_HK7 := Aside0.mk (blk_below HK7.out hb)
        clear HB HC HE HN HK3 HK7
        have HB := n_HB
        have HC := n_HC
        have HE := n_HE
        have HN := n_HN
        have HK3 := n_HK3
        have HK7 := n_HK7
        clear n_HB n_HC n_HE n_HN n_HK3 n_HK7
        clear hb
        go_upto_region 5 with fail
        obtain ⟨g9, hg9⟩ : ∃ g, g = W5.heap.size := ⟨_, rfl⟩
        have hW := below_alloc (Below.refl W5.heap.size W5) (Obj.cells #[Value.string o.1, Value.slice A9 o.2.1.length c9] 30)
        have hN := blk_new W5 (Obj.cells #[Value.string o.1, Value.slice A9 o.2.1.length c9] 30)
        rw [← hg9] at hN ⊢
        generalize W5.alloc (Obj.cells #[Value.string o.1, Value.slice A9 o.2.1.length c9] 30) = W6 at hW hN ⊢
        have n_HB := Aside0.mk (below_step HB.out hW)
        have n_HC := Aside0.mk (Kd.C_below HC.out hW)
        have n_HE := Aside0.mk (Kd.C_below HE.out hW)
        have n_HN := Aside0.mk (Kd.C_below HN.out hW)
        have n_HK3 := Aside0.mk (blk_below HK3.out hW)
        have n_HK7 := Aside0.mk (blk_below HK7.out hW)
        clear HB HC HE HN HK3 HK7
        have HB := n_HB
        have HC := n_HC
        have HE := n_HE
        have HN := n_HN
        have HK3 := n_HK3
        have HK7 := n_HK7
        clear n_HB n_HC n_HE n_HN n_HK3 n_HK7
        have HK9 := Aside0.mk (hN)
        have Eg9 := Aside0.mk hg9
        clear hW hN hg9
        have k70 := blk_cell HK7.out 0
        have k71 := blk_cell HK7.out 1
        have k90 := blk_cell HK9.out 0
        have k91 := blk_cell HK9.out 1
        have q1 : (o.2.2 != o.2.2) = false := bne_self_eq_false _
        have q2 : (o.1.toList != o.1.toList) = false := bne_self_eq_false _
        have q3 : (o.1.toList == o.1.toList) = true := beq_self_eq_true _
        have q4 : (o.2.2 == o.2.2) = true := beq_self_eq_true _
        go_wp2_with fail
        clear k70 k71 k90 k91 q1 q2 q3 q4
        clear HK7 HK9
        have HL := Aside0.mk (Below.refl W6.heap.size W6)
        go_loopw [11] (fun i wr => ∃ (j : Nat), j ≤ xs.length ∧ i = .int .i64 (j : Int) ∧ Below W6.heap.size W6 wr)
          (fun i _ => xs.length - (intOf i).toNat)
        case atStart => exact ⟨0, Nat.zero_le _, rfl, HL.out⟩
        case round =>
          obtain ⟨j, hj, rfl, hb⟩ := hrel
          clear HL
          have n_HB := Aside0.mk (below_step HB.out hb)
          have n_HC := Aside0.mk (Kd.C_below HC.out hb)
          have n_HE := Aside0.mk (Kd.C_below HE.out hb)
          have n_HN := Aside0.mk (Kd.C_below HN.out hb)
          have n_HK3 := Aside0.mk (blk_below HK3.out hb)
          clear HB HC HE HN HK3
          have HB := n_HB
          have HC := n_HC
          have HE := n_HE
          have HN := n_HN
          have HK3 := n_HK3
          clear n_HB n_HC n_HE n_HN n_HK3
          have HL := Aside0.mk hb
          clear hb
          have k0 := blk_cell HK3.out 0
          by_cases hlt : j < xs.length
          · skip
            have b1 : decide ((j : Int) < (xs.length : Int)) = true := decide_eq_true (by omega)
            have HLT := Aside0.mk hlt
            obtain ⟨ad, B1, d1, e1, hx0, hx1, hl1, hi1⟩ := at_T30 HC.out (j : Int) (by omega) (by omega)
            subst e1
            rw [rd30 xs j hlt] at hx0 hx1 hl1 hi1
            have hfe := HFC.out.2 _ (List.getElem_mem hlt)
            rw [Int.toNat_natCast] at hx0 hx1
            generalize xs[j] = y at hx0 hx1 hl1 hi1 hfe
            have p0 := eq_true (show 0 ≤ (j : Int) by omega)
            have p1 := eq_true (show (j : Int) < (xs.length : Int) by omega)
            obtain ⟨ix, ib, ha, hra⟩ := attr_both 1001 y.f0 y.f1 nm (by omega) (by omega)
            have HI1 := Aside0.mk hi1
            have HL1 := Aside0.mk hl1
            have HAA := Aside0.mk ha
            have HAR := Aside0.mk hra
            clear hfe hi1 hl1 ha hra hlt
            have HX0 := Aside0.mk hx0
            have HX1 := Aside0.mk hx1
            go_wp2_with fail
            go_at_call 11
            refine (check_Attr.calls 1001 y.f0 B1 d1 y.f1 nm ix ib wr HI1.out HL1.out HAA.out).mono ?_
            rintro ex U1 ⟨rfl, hb⟩
            clear k0 hx0 hx1
            have hx0 := (hb.cell (World.block_lt_of_cell? wr _ HX0.out)).trans HX0.out
            have hx1 := (hb.cell (World.block_lt_of_cell? wr _ HX1.out)).trans HX1.out
            have n_HB := Aside0.mk (below_step HB.out hb)
            have n_HC := Aside0.mk (Kd.C_below HC.out hb)
            have n_HE := Aside0.mk (Kd.C_below HE.out hb)
            have n_HN := Aside0.mk (Kd.C_below HN.out hb)
            have n_HK3 := Aside0.mk (blk_below HK3.out hb)
            have n_HL := Aside0.mk (below_step HL.out hb)
            have n_HI1 := Aside0.mk (Kd.C_below HI1.out hb)
            clear HB HC HE HN HK3 HL HI1
            have HB := n_HB
            have HC := n_HC
            have HE := n_HE
            have HN := n_HN
            have HK3 := n_HK3
            have HL := n_HL
            have HI1 := n_HI1
            clear n_HB n_HC n_HE n_HN n_HK3 n_HL n_HI1
            clear hb
            have k0 := blk_cell HK3.out 0
            go_wp2_with fail
            go_at_call 12
            refine (intarsiaref17_Attr.calls 1001 y.f0 B1 d1 y.f1 nm ix ib U1 HI1.out HL1.out HAR.out).mono ?_
            rintro ex U2 ⟨rfl, hb⟩
            clear k0 hx0 hx1 HX0 HX1 HAA HAR
            have n_HB := Aside0.mk (below_step HB.out hb)
            have n_HC := Aside0.mk (Kd.C_below HC.out hb)
            have n_HE := Aside0.mk (Kd.C_below HE.out hb)
            have n_HN := Aside0.mk (Kd.C_below HN.out hb)
            have n_HK3 := Aside0.mk (blk_below HK3.out hb)
            have n_HL := Aside0.mk (below_step HL.out hb)
            have n_HI1 := Aside0.mk (Kd.C_below HI1.out hb)
            clear HB HC HE HN HK3 HL HI1
            have HB := n_HB
            have HC := n_HC
            have HE := n_HE
            have HN := n_HN
            have HK3 := n_HK3
            have HL := n_HL
            have HI1 := n_HI1
            clear n_HB n_HC n_HE n_HN n_HK3 n_HL n_HI1
            clear hb
            have q1 : (ix != ix) = false := bne_self_eq_false _
            have q2 : (ib != ib) = false := bne_self_eq_false _
            have q3 : (ix == ix) = true := beq_self_eq_true _
            have q4 : (ib == ib) = true := beq_self_eq_true _
            go_wp2_with fail
            have hlt2 := HLT.out
            have hxl := HX.out
            rw [add1' (by omega)]
            exact ⟨⟨j + 1, by omega, rfl, HL.out⟩, by simp [intOf]; omega⟩
          · skip
            obtain rfl : j = xs.length := by omega
            have b1 : decide ((xs.length : Int) < (xs.length : Int)) = false := decide_eq_false (by omega)
            clear hlt
            clear HL
            go_wp2_with fail
            clear k0 b1
            have HL := Aside0.mk (Below.refl wr.heap.size wr)
            go_loopw [16] (fun i wq => ∃ (j : Nat), j ≤ ys.length ∧ i = .int .i64 (j : Int) ∧ Below wr.heap.size wr wq)
              (fun i _ => ys.length - (intOf i).toNat)
            case atStart => exact ⟨0, Nat.zero_le _, rfl, HL.out⟩
            case round =>
              obtain ⟨j, hj, rfl, hb⟩ := hrel
              clear HL
              have n_HB := Aside0.mk (below_step HB.out hb)
              have n_HC := Aside0.mk (Kd.C_below HC.out hb)
              have n_HE := Aside0.mk (Kd.C_below HE.out hb)
              have n_HN := Aside0.mk (Kd.C_below HN.out hb)
              have n_HK3 := Aside0.mk (blk_below HK3.out hb)
              clear HB HC HE HN HK3
              have HB := n_HB
              have HC := n_HC
              have HE := n_HE
              have HN := n_HN
              have HK3 := n_HK3
              clear n_HB n_HC n_HE n_HN n_HK3
              have HL := Aside0.mk hb
              clear hb
              have k1 := blk_cell HK3.out 1
              by_cases hlt : j < ys.length
              · skip
                have b1 : decide ((j : Int) < (ys.length : Int)) = true := decide_eq_true (by omega)
                have HLT := Aside0.mk hlt
                obtain ⟨ad, B1, d1, B2, d2, e1, hx0, hx1, hx2, hl1, hi1, hl2, hi2⟩ := at_T38 HE.out (j : Int) (by omega) (by omega)
                subst e1
                rw [rd38 ys j hlt] at hx0 hx1 hx2 hl1 hi1 hl2 hi2
                have hfe := HFR.out.2 _ (List.getElem_mem hlt)
                rw [Int.toNat_natCast] at hx0 hx1
                generalize ys[j] = y at hx0 hx1 hx2 hl1 hi1 hl2 hi2 hfe
                have p0 := eq_true (show 0 ≤ (j : Int) by omega)
                have p1 := eq_true (show (j : Int) < (ys.length : Int) by omega)
                have HI1 := Aside0.mk hi1
                have HFE := Aside0.mk hfe.2
                have HX1 := Aside0.mk hx1
                clear hfe hi1 hl1 hi2 hl2 hlt hx0 hx2 hx1
                go_wp2_with fail
                clear k1 b1
                have HM := Aside0.mk (Below.refl wr.heap.size wr)
                go_loopw [17] (fun i wp => ∃ (k : Nat), k ≤ y.f1.length ∧ i = .int .i64 (k : Int) ∧ Below wr.heap.size wr wp)
                  (fun i _ => y.f1.length - (intOf i).toNat)
                case atStart => exact ⟨0, Nat.zero_le _, rfl, HM.out⟩
                case round =>
                  obtain ⟨k, hk, rfl, hb⟩ := hrel
                  clear HM
                  have hx1 := (hb.cell (World.block_lt_of_cell? _ _ HX1.out)).trans HX1.out
                  clear HX1
                  have n_HB := Aside0.mk (below_step HB.out hb)
                  have n_HC := Aside0.mk (Kd.C_below HC.out hb)
                  have n_HE := Aside0.mk (Kd.C_below HE.out hb)
                  have n_HN := Aside0.mk (Kd.C_below HN.out hb)
                  have n_HK3 := Aside0.mk (blk_below HK3.out hb)
                  have n_HL := Aside0.mk (below_step HL.out hb)
                  have n_HI1 := Aside0.mk (Kd.C_below HI1.out hb)
                  clear HB HC HE HN HK3 HL HI1
                  have HB := n_HB
                  have HC := n_HC
                  have HE := n_HE
                  have HN := n_HN
                  have HK3 := n_HK3
                  have HL := n_HL
                  have HI1 := n_HI1
                  clear n_HB n_HC n_HE n_HN n_HK3 n_HL n_HI1
                  have HM := Aside0.mk hb
                  clear hb
                  have HX1 := Aside0.mk hx1
                  have k0 := blk_cell HK3.out 0
                  have k1 := blk_cell HK3.out 1
                  by_cases hlt : k < y.f1.length
                  · skip
                    have b1 : decide ((k : Int) < (y.f1.length : Int)) = true := decide_eq_true (by omega)
                    have HLK := Aside0.mk hlt
                    obtain ⟨ae, B3, d3, e1, hy0, hy1, hy2, hl3, hi3⟩ := at_T44 HI1.out (k : Int) (by omega) (by omega)
                    subst e1
                    rw [rd44 y.f1 k hlt] at hy0 hy1 hy2 hl3 hi3
                    have hfe := HFE.out.2.1 _ (List.getElem_mem hlt)
                    rw [Int.toNat_natCast] at hy0 hy1 hy2
                    generalize y.f1[k] = z at hy0 hy1 hy2 hl3 hi3 hfe
                    have p2 := eq_true (show 0 ≤ (k : Int) by omega)
                    have p3 := eq_true (show (k : Int) < (y.f1.length : Int) by omega)
                    have HI3 := Aside0.mk hi3
                    have HL3 := Aside0.mk hl3
                    have HFZ := Aside0.mk hfe
                    have HY0 := Aside0.mk hy0
                    have HY1 := Aside0.mk hy1
                    have HY2 := Aside0.mk hy2
                    clear hfe hi3 hl3 hlt hy0 hy1 hy2
                    go_upto_region 20 with fail
                    clear hx1 k0 k1 b1
                    obtain ⟨cv, hcv⟩ : ∃ cv, condT xs z.f0 z.f1 z.f2 bd = cv := ⟨_, rfl⟩
                    have HCV := Aside0.mk hcv
                    clear hcv
                    have hD := below_drew1 (Below.refl wr.heap.size wr)
                    have n_HX1 := Aside0.mk ((hD.cell (World.block_lt_of_cell? _ _ HX1.out)).trans HX1.out)
                    have n_HY0 := Aside0.mk ((hD.cell (World.block_lt_of_cell? _ _ HY0.out)).trans HY0.out)
                    have n_HY1 := Aside0.mk ((hD.cell (World.block_lt_of_cell? _ _ HY1.out)).trans HY1.out)
                    have n_HY2 := Aside0.mk ((hD.cell (World.block_lt_of_cell? _ _ HY2.out)).trans HY2.out)
                    clear HX1 HY0 HY1 HY2
                    have HX1 := n_HX1
                    have HY0 := n_HY0
                    have HY1 := n_HY1
                    have HY2 := n_HY2
                    clear n_HX1 n_HY0 n_HY1 n_HY2
                    have n_HB := Aside0.mk (below_step HB.out hD)
                    have n_HC := Aside0.mk (Kd.C_below HC.out hD)
                    have n_HE := Aside0.mk (Kd.C_below HE.out hD)
                    have n_HN := Aside0.mk (Kd.C_below HN.out hD)
                    have n_HK3 := Aside0.mk (blk_below HK3.out hD)
                    have n_HL := Aside0.mk (below_step HL.out hD)
                    have n_HI1 := Aside0.mk (Kd.C_below HI1.out hD)
                    have n_HM := Aside0.mk (below_step HM.out hD)
                    have n_HI3 := Aside0.mk (Kd.C_below HI3.out hD)
                    clear HB HC HE HN HK3 HL HI1 HM HI3
                    have HB := n_HB
                    have HC := n_HC
                    have HE := n_HE
                    have HN := n_HN
                    have HK3 := n_HK3
                    have HL := n_HL
                    have HI1 := n_HI1
                    have HM := n_HM
                    have HI3 := n_HI3
                    clear n_HB n_HC n_HE n_HN n_HK3 n_HL n_HI1 n_HM n_HI3
                    clear hD
                    refine start_ (n := 18) (S := fun w' => w'.cell? ⟨g3, 0, none⟩ = some (.slice A xs.length c) ∧ w'.cell? ⟨g3, 1, none⟩ = some (.slice (some ad) ys.length d) ∧ w'.cell? ⟨(ad.add (j * 3)).block, (ad.add (j * 3)).off + 1, none⟩ = some (.slice (some ae) y.f1.length d1) ∧ w'.cell? (ae.add (k * 3)) = some (.bool z.f0) ∧ w'.cell? ⟨(ae.add (k * 3)).block, (ae.add (k * 3)).off + 1, none⟩ = some (.string z.f1) ∧ w'.cell? ⟨(ae.add (k * 3)).block, (ae.add (k * 3)).off + 2, none⟩ = some (.slice B3 z.f2.length d3)) (ds := []) #[false, false, false, false, false, false, false, false, false, false, false, false, false, false, false, false, false, false] (by kernel_rfl) rfl rfl ⟨(blk_cell HK3.out 0).trans rfl, (blk_cell HK3.out 1).trans rfl, HX1.out, HY0.out, HY1.out, HY2.out⟩ (fun hHeld => ?_); refine with_tabW CheckConds.tab20 CheckConds.bits20 (fun HT_ HW_ => ?_)
                    generalize wr.drew = V0 at HB HC HE HN HK3 HL HI1 HM HI3 HX1 HY0 HY1 HY2 hHeld ⊢
                    refine pure_ (i := 0) (N := some 123) (v := ?_) (a' := ?_) #[true, false, false, false, false, false, false, false, false, false, false, false, false, false, false, false, false, false] rfl rfl (any_of HT_.out (by kernel_rfl)) (fun _ _ _ h => h) (Or.inl ⟨by rfl, ?_⟩) ?_ ?_
                    rotate_left
                    · intro w'
                      go_simp
                      with_reducible rfl
                    rotate_left
                    · simp only [Act.put, List.setIfInBounds_toArray, List.set_cons_zero, List.set_cons_succ, i64_w, i32_w]
                      rfl
                    refine take_ (i := 1) (N := some 124) (v := ?_) (a' := ?_) #[true, true, false, false, false, false, false, false, false, false, false, false, false, false, false, false, false, false] rfl rfl (take_ofW HT_.out HW_.out (by kernel_rfl)) (fun _ _ _ h => h) (Or.inl ⟨by rfl, ?_⟩) hHeld ?_ ?_
                    rotate_left
                    · rintro w' ⟨s0, s1, s2, s3, s4, s5⟩
                      go_simp
                      with_reducible rfl
                    rotate_left
                    · simp only [Act.put, List.setIfInBounds_toArray, List.set_cons_zero, List.set_cons_succ, i64_w, i32_w]
                      rfl
                    refine pure_ (i := 2) (N := some 125) (v := ?_) (a' := ?_) #[true, true, true, false, false, false, false, false, false, false, false, false, false, false, false, false, false, false] rfl rfl (any_of HT_.out (by kernel_rfl)) (fun _ _ _ h => h) (Or.inl ⟨by rfl, ?_⟩) ?_ ?_
                    rotate_left
                    · intro w'
                      go_simp
                      with_reducible rfl
                    rotate_left
                    · simp only [Act.put, List.setIfInBounds_toArray, List.set_cons_zero, List.set_cons_succ, i64_w, i32_w]
                      rfl
                    refine take_ (i := 3) (N := some 126) (v := ?_) (a' := ?_) #[true, true, true, true, false, false, false, false, false, false, false, false, false, false, false, false, false, false] rfl rfl (take_ofW HT_.out HW_.out (by kernel_rfl)) (fun _ _ _ h => h) (Or.inl ⟨by rfl, ?_⟩) hHeld ?_ ?_
                    rotate_left
                    · rintro w' ⟨s0, s1, s2, s3, s4, s5⟩
                      go_simp
                      with_reducible rfl
                    rotate_left
                    · simp only [Act.put, List.setIfInBounds_toArray, List.set_cons_zero, List.set_cons_succ, i64_w, i32_w]
                      rfl
                    refine pure_ (i := 4) (N := some 127) (v := ?_) (a' := ?_) #[true, true, true, true, true, false, false, false, false, false, false, false, false, false, false, false, false, false] rfl rfl (any_of HT_.out (by kernel_rfl)) (fun _ _ _ h => h) (Or.inl ⟨by rfl, ?_⟩) ?_ ?_
                    rotate_left
                    · intro w'
                      go_simp
                      with_reducible rfl
                    rotate_left
                    · simp only [Act.put, List.setIfInBounds_toArray, List.set_cons_zero, List.set_cons_succ, i64_w, i32_w]
                      rfl
                    refine take_ (i := 5) (N := some 128) (v := ?_) (a' := ?_) #[true, true, true, true, true, true, false, false, false, false, false, false, false, false, false, false, false, false] rfl rfl (take_ofW HT_.out HW_.out (by kernel_rfl)) (fun _ _ _ h => h) (Or.inl ⟨by rfl, ?_⟩) hHeld ?_ ?_
                    rotate_left
                    · rintro w' ⟨s0, s1, s2, s3, s4, s5⟩
                      go_simp
                      with_reducible rfl
                    rotate_left
                    · simp only [Act.put, List.setIfInBounds_toArray, List.set_cons_zero, List.set_cons_succ, i64_w, i32_w]
                      rfl
                    refine pure_ (i := 6) (N := some 129) (v := ?_) (a' := ?_) #[true, true, true, true, true, true, true, false, false, false, false, false, false, false, false, false, false, false] rfl rfl (any_of HT_.out (by kernel_rfl)) (fun _ _ _ h => h) (Or.inl ⟨by rfl, ?_⟩) ?_ ?_
                    rotate_left
                    · intro w'
                      go_simp
                      with_reducible rfl
                    rotate_left
                    · simp only [Act.put, List.setIfInBounds_toArray, List.set_cons_zero, List.set_cons_succ, i64_w, i32_w]
                      rfl
                    refine take_ (i := 7) (N := some 130) (v := ?_) (a' := ?_) #[true, true, true, true, true, true, true, true, false, false, false, false, false, false, false, false, false, false] rfl rfl (take_ofW HT_.out HW_.out (by kernel_rfl)) (fun _ _ _ h => h) (Or.inl ⟨by rfl, ?_⟩) hHeld ?_ ?_
                    rotate_left
                    · rintro w' ⟨s0, s1, s2, s3, s4, s5⟩
                      go_simp
                      with_reducible rfl
                    rotate_left
                    · simp only [Act.put, List.setIfInBounds_toArray, List.set_cons_zero, List.set_cons_succ, i64_w, i32_w]
                      rfl
                    refine pure_ (i := 8) (N := some 131) (v := ?_) (a' := ?_) #[true, true, true, true, true, true, true, true, true, false, false, false, false, false, false, false, false, false] rfl rfl (any_of HT_.out (by kernel_rfl)) (fun _ _ _ h => h) (Or.inl ⟨by rfl, ?_⟩) ?_ ?_
                    rotate_left
                    · intro w'
                      go_simp
                      with_reducible rfl
                    rotate_left
                    · simp only [Act.put, List.setIfInBounds_toArray, List.set_cons_zero, List.set_cons_succ, i64_w, i32_w]
                      rfl
                    refine take_ (i := 9) (N := some 132) (v := ?_) (a' := ?_) #[true, true, true, true, true, true, true, true, true, true, false, false, false, false, false, false, false, false] rfl rfl (take_ofW HT_.out HW_.out (by kernel_rfl)) (fun _ _ _ h => h) (Or.inl ⟨by rfl, ?_⟩) hHeld ?_ ?_
                    rotate_left
                    · rintro w' ⟨s0, s1, s2, s3, s4, s5⟩
                      go_simp
                      with_reducible rfl
                    rotate_left
                    · simp only [Act.put, List.setIfInBounds_toArray, List.set_cons_zero, List.set_cons_succ, i64_w, i32_w]
                      rfl
                    refine take_ (i := 10) (N := some 133) (v := ?_) (a' := ?_) #[true, true, true, true, true, true, true, true, true, true, true, false, false, false, false, false, false, false] rfl rfl (take_ofW HT_.out HW_.out (by kernel_rfl)) (fun _ _ _ h => h) (Or.inl ⟨by rfl, ?_⟩) hHeld ?_ ?_
                    rotate_left
                    · rintro w' ⟨s0, s1, s2, s3, s4, s5⟩
                      go_simp
                      with_reducible rfl
                    rotate_left
                    · simp only [Act.put, List.setIfInBounds_toArray, List.set_cons_zero, List.set_cons_succ, i64_w, i32_w]
                      rfl
                    refine pure_ (i := 11) (N := some 134) (v := ?_) (a' := ?_) #[true, true, true, true, true, true, true, true, true, true, true, true, false, false, false, false, false, false] rfl rfl (any_of HT_.out (by kernel_rfl)) (fun _ _ _ h => h) (Or.inl ⟨by rfl, ?_⟩) ?_ ?_
                    rotate_left
                    · intro w'
                      go_simp
                      with_reducible rfl
                    rotate_left
                    · simp only [Act.put, List.setIfInBounds_toArray, List.set_cons_zero, List.set_cons_succ, i64_w, i32_w]
                      rfl
                    refine one_ (i := 12) (N := some 135) #[true, true, true, true, true, true, true, true, true, true, true, true, true, false, false, false, false, false] rfl rfl (one_of HT_.out (by kernel_rfl)) (by decide) (fun K hK => ?_)
                    refine goes_ Try.func13 (by kernel_rfl) rfl #[.slice A xs.length c, .agg #[.bool z.f0, .string z.f1, .slice B3 z.f2.length d3], .slice N bd.length n] (by rfl) rfl rfl (by (try simp only [List.map_toArray, List.map_cons, List.map_nil]); first | done | rfl) ?_
                    refine (HCV.out ▸ check_Cond xs A c z.f0 z.f1 z.f2 B3 d3 bd N n V0 HC.out HCc.out HI3.out HL3.out HN.out HNc.out (by have := HX.out; omega) (fun c hc => (HFC.out.2 c hc).2.1) ⟨by have := HFZ.out.1; omega, fun a ha => by have := (HFZ.out.2 a ha).2; omega⟩ (by have := HLB.out; omega) (fun a ha => (HFZ.out.2 a ha).1)).mono ?_
                    rintro ex V1 ⟨vv20, rfl, hv, hb⟩
                    refine ⟨_, rfl, ?_⟩
                    obtain ⟨T1, cT1, rfl⟩ := Kd.R_slice hv
                    have HR1 := Aside0.mk (Kd.R_reads' hv).2.2
                    have HQ1 := Aside0.mk (Kd.R_reads' hv).2.1
                    clear hv
                    have n_HX1 := Aside0.mk ((hb.cell (World.block_lt_of_cell? _ _ HX1.out)).trans HX1.out)
                    have n_HY0 := Aside0.mk ((hb.cell (World.block_lt_of_cell? _ _ HY0.out)).trans HY0.out)
                    have n_HY1 := Aside0.mk ((hb.cell (World.block_lt_of_cell? _ _ HY1.out)).trans HY1.out)
                    have n_HY2 := Aside0.mk ((hb.cell (World.block_lt_of_cell? _ _ HY2.out)).trans HY2.out)
                    clear HX1 HY0 HY1 HY2
                    have HX1 := n_HX1
                    have HY0 := n_HY0
                    have HY1 := n_HY1
                    have HY2 := n_HY2
                    clear n_HX1 n_HY0 n_HY1 n_HY2
                    have n_HB := Aside0.mk (below_step HB.out hb)
                    have n_HC := Aside0.mk (Kd.C_below HC.out hb)
                    have n_HE := Aside0.mk (Kd.C_below HE.out hb)
                    have n_HN := Aside0.mk (Kd.C_below HN.out hb)
                    have n_HK3 := Aside0.mk (blk_below HK3.out hb)
                    have n_HL := Aside0.mk (below_step HL.out hb)
                    have n_HI1 := Aside0.mk (Kd.C_below HI1.out hb)
                    have n_HM := Aside0.mk (below_step HM.out hb)
                    have n_HI3 := Aside0.mk (Kd.C_below HI3.out hb)
                    clear HB HC HE HN HK3 HL HI1 HM HI3
                    have HB := n_HB
                    have HC := n_HC
                    have HE := n_HE
                    have HN := n_HN
                    have HK3 := n_HK3
                    have HL := n_HL
                    have HI1 := n_HI1
                    have HM := n_HM
                    have HI3 := n_HI3
                    clear n_HB n_HC n_HE n_HN n_HK3 n_HL n_HI1 n_HM n_HI3
                    clear hb
                    refine hK.out _ _ ⟨(blk_cell HK3.out 0).trans rfl, (blk_cell HK3.out 1).trans rfl, HX1.out, HY0.out, HY1.out, HY2.out⟩ (fun hHeld => ?_)
                    clear hK K
                    refine norm_ (a' := ?_) ?_ ?_
                    rotate_left
                    · show Act.put _ (some 135) _ = _
                      simp only [Act.put, List.setIfInBounds_toArray, List.set_cons_zero, List.set_cons_succ, i64_w, i32_w]
                      rfl
                    refine pure_ (i := 13) (N := some 122) (v := ?_) (a' := ?_) #[true, true, true, true, true, true, true, true, true, true, true, true, true, true, false, false, false, false] rfl rfl (any_of HT_.out (by kernel_rfl)) (fun _ _ _ h => h) (Or.inl ⟨by rfl, ?_⟩) ?_ ?_
                    rotate_left
                    · intro w'
                      go_simp
                      with_reducible rfl
                    rotate_left
                    · simp only [Act.put, List.setIfInBounds_toArray, List.set_cons_zero, List.set_cons_succ, i64_w, i32_w]
                      rfl
                    refine pure_ (i := 14) (N := some 136) (v := ?_) (a' := ?_) #[true, true, true, true, true, true, true, true, true, true, true, true, true, true, true, false, false, false] rfl rfl (any_of HT_.out (by kernel_rfl)) (fun _ _ _ h => h) (Or.inl ⟨by rfl, ?_⟩) ?_ ?_
                    rotate_left
                    · intro w'
                      go_simp
                      with_reducible rfl
                    rotate_left
                    · simp only [Act.put, List.setIfInBounds_toArray, List.set_cons_zero, List.set_cons_succ, i64_w, i32_w]
                      rfl
                    refine pure_ (i := 15) (N := some 137) (v := ?_) (a' := ?_) #[true, true, true, true, true, true, true, true, true, true, true, true, true, true, true, true, false, false] rfl rfl (any_of HT_.out (by kernel_rfl)) (fun _ _ _ h => h) (Or.inl ⟨by rfl, ?_⟩) ?_ ?_
                    rotate_left
                    · intro w'
                      go_simp
                      with_reducible rfl
                    rotate_left
                    · simp only [Act.put, List.setIfInBounds_toArray, List.set_cons_zero, List.set_cons_succ, i64_w, i32_w]
                      rfl
                    refine pure_ (i := 16) (N := some 18) (v := ?_) (a' := ?_) #[true, true, true, true, true, true, true, true, true, true, true, true, true, true, true, true, true, false] rfl rfl (any_of HT_.out (by kernel_rfl)) (fun _ _ _ h => h) (Or.inl ⟨by rfl, ?_⟩) ?_ ?_
                    rotate_left
                    · intro w'
                      go_simp
                      with_reducible rfl
                    rotate_left
                    · simp only [Act.put, List.setIfInBounds_toArray, List.set_cons_zero, List.set_cons_succ, i64_w, i32_w]
                      rfl
                    refine pure_ (i := 17) (N := some 19) (v := ?_) (a' := ?_) #[true, true, true, true, true, true, true, true, true, true, true, true, true, true, true, true, true, true] rfl rfl (any_of HT_.out (by kernel_rfl)) (fun _ _ _ h => h) (Or.inl ⟨by rfl, ?_⟩) ?_ ?_
                    rotate_left
                    · intro w'
                      go_simp
                      with_reducible rfl
                    rotate_left
                    · simp only [Act.put, List.setIfInBounds_toArray, List.set_cons_zero, List.set_cons_succ, i64_w, i32_w]
                      rfl
                    refine done_ (done_of HT_.out (by kernel_rfl)) ?_
                    clear hHeld HT_ HW_
                    go_upto_region 21 with fail
                    have hD := below_drew1 (Below.refl V1.heap.size V1)
                    have n_HX1 := Aside0.mk ((hD.cell (World.block_lt_of_cell? _ _ HX1.out)).trans HX1.out)
                    have n_HY0 := Aside0.mk ((hD.cell (World.block_lt_of_cell? _ _ HY0.out)).trans HY0.out)
                    have n_HY1 := Aside0.mk ((hD.cell (World.block_lt_of_cell? _ _ HY1.out)).trans HY1.out)
                    have n_HY2 := Aside0.mk ((hD.cell (World.block_lt_of_cell? _ _ HY2.out)).trans HY2.out)
                    clear HX1 HY0 HY1 HY2
                    have HX1 := n_HX1
                    have HY0 := n_HY0
                    have HY1 := n_HY1
                    have HY2 := n_HY2
                    clear n_HX1 n_HY0 n_HY1 n_HY2
                    have n_HB := Aside0.mk (below_step HB.out hD)
                    have n_HC := Aside0.mk (Kd.C_below HC.out hD)
                    have n_HE := Aside0.mk (Kd.C_below HE.out hD)
                    have n_HN := Aside0.mk (Kd.C_below HN.out hD)
                    have n_HK3 := Aside0.mk (blk_below HK3.out hD)
                    have n_HL := Aside0.mk (below_step HL.out hD)
                    have n_HI1 := Aside0.mk (Kd.C_below HI1.out hD)
                    have n_HM := Aside0.mk (below_step HM.out hD)
                    have n_HI3 := Aside0.mk (Kd.C_below HI3.out hD)
                    have n_HR1 := Aside0.mk (Kd.C_below HR1.out hD)
                    clear HB HC HE HN HK3 HL HI1 HM HI3 HR1
                    have HB := n_HB
                    have HC := n_HC
                    have HE := n_HE
                    have HN := n_HN
                    have HK3 := n_HK3
                    have HL := n_HL
                    have HI1 := n_HI1
                    have HM := n_HM
                    have HI3 := n_HI3
                    have HR1 := n_HR1
                    clear n_HB n_HC n_HE n_HN n_HK3 n_HL n_HI1 n_HM n_HI3 n_HR1
                    clear hD
                    refine start_ (n := 18) (S := fun w' => w'.cell? ⟨g3, 0, none⟩ = some (.slice A xs.length c) ∧ w'.cell? ⟨g3, 1, none⟩ = some (.slice (some ad) ys.length d) ∧ w'.cell? ⟨(ad.add (j * 3)).block, (ad.add (j * 3)).off + 1, none⟩ = some (.slice (some ae) y.f1.length d1) ∧ w'.cell? (ae.add (k * 3)) = some (.bool z.f0) ∧ w'.cell? ⟨(ae.add (k * 3)).block, (ae.add (k * 3)).off + 1, none⟩ = some (.string z.f1) ∧ w'.cell? ⟨(ae.add (k * 3)).block, (ae.add (k * 3)).off + 2, none⟩ = some (.slice B3 z.f2.length d3)) (ds := []) #[false, false, false, false, false, false, false, false, false, false, false, false, false, false, false, false, false, false] (by kernel_rfl) rfl rfl ⟨(blk_cell HK3.out 0).trans rfl, (blk_cell HK3.out 1).trans rfl, HX1.out, HY0.out, HY1.out, HY2.out⟩ (fun hHeld => ?_); refine with_tabW CheckConds.tab21 CheckConds.bits21 (fun HT_ HW_ => ?_)
                    generalize V1.drew = V2 at HB HC HE HN HK3 HL HI1 HM HI3 HX1 HY0 HY1 HY2 HR1 hHeld ⊢
                    refine pure_ (i := 0) (N := some 139) (v := ?_) (a' := ?_) #[true, false, false, false, false, false, false, false, false, false, false, false, false, false, false, false, false, false] rfl rfl (any_of HT_.out (by kernel_rfl)) (fun _ _ _ h => h) (Or.inl ⟨by rfl, ?_⟩) ?_ ?_
                    rotate_left
                    · intro w'
                      go_simp
                      with_reducible rfl
                    rotate_left
                    · simp only [Act.put, List.setIfInBounds_toArray, List.set_cons_zero, List.set_cons_succ, i64_w, i32_w]
                      rfl
                    refine take_ (i := 1) (N := some 140) (v := ?_) (a' := ?_) #[true, true, false, false, false, false, false, false, false, false, false, false, false, false, false, false, false, false] rfl rfl (take_ofW HT_.out HW_.out (by kernel_rfl)) (fun _ _ _ h => h) (Or.inl ⟨by rfl, ?_⟩) hHeld ?_ ?_
                    rotate_left
                    · rintro w' ⟨s0, s1, s2, s3, s4, s5⟩
                      go_simp
                      with_reducible rfl
                    rotate_left
                    · simp only [Act.put, List.setIfInBounds_toArray, List.set_cons_zero, List.set_cons_succ, i64_w, i32_w]
                      rfl
                    refine pure_ (i := 2) (N := some 141) (v := ?_) (a' := ?_) #[true, true, true, false, false, false, false, false, false, false, false, false, false, false, false, false, false, false] rfl rfl (any_of HT_.out (by kernel_rfl)) (fun _ _ _ h => h) (Or.inl ⟨by rfl, ?_⟩) ?_ ?_
                    rotate_left
                    · intro w'
                      go_simp
                      with_reducible rfl
                    rotate_left
                    · simp only [Act.put, List.setIfInBounds_toArray, List.set_cons_zero, List.set_cons_succ, i64_w, i32_w]
                      rfl
                    refine take_ (i := 3) (N := some 142) (v := ?_) (a' := ?_) #[true, true, true, true, false, false, false, false, false, false, false, false, false, false, false, false, false, false] rfl rfl (take_ofW HT_.out HW_.out (by kernel_rfl)) (fun _ _ _ h => h) (Or.inl ⟨by rfl, ?_⟩) hHeld ?_ ?_
                    rotate_left
                    · rintro w' ⟨s0, s1, s2, s3, s4, s5⟩
                      go_simp
                      with_reducible rfl
                    rotate_left
                    · simp only [Act.put, List.setIfInBounds_toArray, List.set_cons_zero, List.set_cons_succ, i64_w, i32_w]
                      rfl
                    refine pure_ (i := 4) (N := some 143) (v := ?_) (a' := ?_) #[true, true, true, true, true, false, false, false, false, false, false, false, false, false, false, false, false, false] rfl rfl (any_of HT_.out (by kernel_rfl)) (fun _ _ _ h => h) (Or.inl ⟨by rfl, ?_⟩) ?_ ?_
                    rotate_left
                    · intro w'
                      go_simp
                      with_reducible rfl
                    rotate_left
                    · simp only [Act.put, List.setIfInBounds_toArray, List.set_cons_zero, List.set_cons_succ, i64_w, i32_w]
                      rfl
                    refine take_ (i := 5) (N := some 144) (v := ?_) (a' := ?_) #[true, true, true, true, true, true, false, false, false, false, false, false, false, false, false, false, false, false] rfl rfl (take_ofW HT_.out HW_.out (by kernel_rfl)) (fun _ _ _ h => h) (Or.inl ⟨by rfl, ?_⟩) hHeld ?_ ?_
                    rotate_left
                    · rintro w' ⟨s0, s1, s2, s3, s4, s5⟩
                      go_simp
                      with_reducible rfl
                    rotate_left
                    · simp only [Act.put, List.setIfInBounds_toArray, List.set_cons_zero, List.set_cons_succ, i64_w, i32_w]
                      rfl
                    refine pure_ (i := 6) (N := some 145) (v := ?_) (a' := ?_) #[true, true, true, true, true, true, true, false, false, false, false, false, false, false, false, false, false, false] rfl rfl (any_of HT_.out (by kernel_rfl)) (fun _ _ _ h => h) (Or.inl ⟨by rfl, ?_⟩) ?_ ?_
                    rotate_left
                    · intro w'
                      go_simp
                      with_reducible rfl
                    rotate_left
                    · simp only [Act.put, List.setIfInBounds_toArray, List.set_cons_zero, List.set_cons_succ, i64_w, i32_w]
                      rfl
                    refine take_ (i := 7) (N := some 146) (v := ?_) (a' := ?_) #[true, true, true, true, true, true, true, true, false, false, false, false, false, false, false, false, false, false] rfl rfl (take_ofW HT_.out HW_.out (by kernel_rfl)) (fun _ _ _ h => h) (Or.inl ⟨by rfl, ?_⟩) hHeld ?_ ?_
                    rotate_left
                    · rintro w' ⟨s0, s1, s2, s3, s4, s5⟩
                      go_simp
                      with_reducible rfl
                    rotate_left
                    · simp only [Act.put, List.setIfInBounds_toArray, List.set_cons_zero, List.set_cons_succ, i64_w, i32_w]
                      rfl
                    refine pure_ (i := 8) (N := some 147) (v := ?_) (a' := ?_) #[true, true, true, true, true, true, true, true, true, false, false, false, false, false, false, false, false, false] rfl rfl (any_of HT_.out (by kernel_rfl)) (fun _ _ _ h => h) (Or.inl ⟨by rfl, ?_⟩) ?_ ?_
                    rotate_left
                    · intro w'
                      go_simp
                      with_reducible rfl
                    rotate_left
                    · simp only [Act.put, List.setIfInBounds_toArray, List.set_cons_zero, List.set_cons_succ, i64_w, i32_w]
                      rfl
                    refine take_ (i := 9) (N := some 148) (v := ?_) (a' := ?_) #[true, true, true, true, true, true, true, true, true, true, false, false, false, false, false, false, false, false] rfl rfl (take_ofW HT_.out HW_.out (by kernel_rfl)) (fun _ _ _ h => h) (Or.inl ⟨by rfl, ?_⟩) hHeld ?_ ?_
                    rotate_left
                    · rintro w' ⟨s0, s1, s2, s3, s4, s5⟩
                      go_simp
                      with_reducible rfl
                    rotate_left
                    · simp only [Act.put, List.setIfInBounds_toArray, List.set_cons_zero, List.set_cons_succ, i64_w, i32_w]
                      rfl
                    refine take_ (i := 10) (N := some 149) (v := ?_) (a' := ?_) #[true, true, true, true, true, true, true, true, true, true, true, false, false, false, false, false, false, false] rfl rfl (take_ofW HT_.out HW_.out (by kernel_rfl)) (fun _ _ _ h => h) (Or.inl ⟨by rfl, ?_⟩) hHeld ?_ ?_
                    rotate_left
                    · rintro w' ⟨s0, s1, s2, s3, s4, s5⟩
                      go_simp
                      with_reducible rfl
                    rotate_left
                    · simp only [Act.put, List.setIfInBounds_toArray, List.set_cons_zero, List.set_cons_succ, i64_w, i32_w]
                      rfl
                    refine pure_ (i := 11) (N := some 150) (v := ?_) (a' := ?_) #[true, true, true, true, true, true, true, true, true, true, true, true, false, false, false, false, false, false] rfl rfl (any_of HT_.out (by kernel_rfl)) (fun _ _ _ h => h) (Or.inl ⟨by rfl, ?_⟩) ?_ ?_
                    rotate_left
                    · intro w'
                      go_simp
                      with_reducible rfl
                    rotate_left
                    · simp only [Act.put, List.setIfInBounds_toArray, List.set_cons_zero, List.set_cons_succ, i64_w, i32_w]
                      rfl
                    refine one_ (i := 12) (N := some 151) #[true, true, true, true, true, true, true, true, true, true, true, true, true, false, false, false, false, false] rfl rfl (one_of HT_.out (by kernel_rfl)) (by decide) (fun K hK => ?_)
                    refine goes_ Try.func14 (by kernel_rfl) rfl #[.slice A xs.length c, .agg #[.bool z.f0, .string z.f1, .slice B3 z.f2.length d3], .slice N bd.length n] (by rfl) rfl rfl (by (try simp only [List.map_toArray, List.map_cons, List.map_nil]); first | done | rfl) ?_
                    refine (intarsiaref17_Cond.calls 200000 A c xs z.f0 z.f1 B3 d3 z.f2 N n bd cv.1 cv.2 V2 HC.out HCc.out HI3.out HL3.out HN.out HNc.out (by have := rcond_is xs z.f0 z.f1 z.f2 bd (by have := HX.out; omega) (fun c hc => (HFC.out.2 c hc).2.1) ⟨by have := HFZ.out.1; omega, fun a ha => by have := (HFZ.out.2 a ha).2; omega⟩ (by have := HLB.out; omega); rw [HCV.out] at this; exact this)).mono ?_
                    rintro ex V3 ⟨vv21, rfl, hv, hb⟩
                    refine ⟨_, rfl, ?_⟩
                    obtain ⟨T2, cT2, rfl⟩ := Kd.R_slice hv
                    have HR2 := Aside0.mk (Kd.R_reads' hv).2.2
                    have HQ2 := Aside0.mk (Kd.R_reads' hv).2.1
                    clear hv
                    have n_HX1 := Aside0.mk ((hb.cell (World.block_lt_of_cell? _ _ HX1.out)).trans HX1.out)
                    have n_HY0 := Aside0.mk ((hb.cell (World.block_lt_of_cell? _ _ HY0.out)).trans HY0.out)
                    have n_HY1 := Aside0.mk ((hb.cell (World.block_lt_of_cell? _ _ HY1.out)).trans HY1.out)
                    have n_HY2 := Aside0.mk ((hb.cell (World.block_lt_of_cell? _ _ HY2.out)).trans HY2.out)
                    clear HX1 HY0 HY1 HY2
                    have HX1 := n_HX1
                    have HY0 := n_HY0
                    have HY1 := n_HY1
                    have HY2 := n_HY2
                    clear n_HX1 n_HY0 n_HY1 n_HY2
                    have n_HB := Aside0.mk (below_step HB.out hb)
                    have n_HC := Aside0.mk (Kd.C_below HC.out hb)
                    have n_HE := Aside0.mk (Kd.C_below HE.out hb)
                    have n_HN := Aside0.mk (Kd.C_below HN.out hb)
                    have n_HK3 := Aside0.mk (blk_below HK3.out hb)
                    have n_HL := Aside0.mk (below_step HL.out hb)
                    have n_HI1 := Aside0.mk (Kd.C_below HI1.out hb)
                    have n_HM := Aside0.mk (below_step HM.out hb)
                    have n_HI3 := Aside0.mk (Kd.C_below HI3.out hb)
                    have n_HR1 := Aside0.mk (Kd.C_below HR1.out hb)
                    clear HB HC HE HN HK3 HL HI1 HM HI3 HR1
                    have HB := n_HB
                    have HC := n_HC
                    have HE := n_HE
                    have HN := n_HN
                    have HK3 := n_HK3
                    have HL := n_HL
                    have HI1 := n_HI1
                    have HM := n_HM
                    have HI3 := n_HI3
                    have HR1 := n_HR1
                    clear n_HB n_HC n_HE n_HN n_HK3 n_HL n_HI1 n_HM n_HI3 n_HR1
                    clear hb
                    refine hK.out _ _ ⟨(blk_cell HK3.out 0).trans rfl, (blk_cell HK3.out 1).trans rfl, HX1.out, HY0.out, HY1.out, HY2.out⟩ (fun hHeld => ?_)
                    clear hK K
                    refine norm_ (a' := ?_) ?_ ?_
                    rotate_left
                    · show Act.put _ (some 151) _ = _
                      simp only [Act.put, List.setIfInBounds_toArray, List.set_cons_zero, List.set_cons_succ, i64_w, i32_w]
                      rfl
                    refine pure_ (i := 13) (N := some 138) (v := ?_) (a' := ?_) #[true, true, true, true, true, true, true, true, true, true, true, true, true, true, false, false, false, false] rfl rfl (any_of HT_.out (by kernel_rfl)) (fun _ _ _ h => h) (Or.inl ⟨by rfl, ?_⟩) ?_ ?_
                    rotate_left
                    · intro w'
                      go_simp
                      with_reducible rfl
                    rotate_left
                    · simp only [Act.put, List.setIfInBounds_toArray, List.set_cons_zero, List.set_cons_succ, i64_w, i32_w]
                      rfl
                    refine pure_ (i := 14) (N := some 152) (v := ?_) (a' := ?_) #[true, true, true, true, true, true, true, true, true, true, true, true, true, true, true, false, false, false] rfl rfl (any_of HT_.out (by kernel_rfl)) (fun _ _ _ h => h) (Or.inl ⟨by rfl, ?_⟩) ?_ ?_
                    rotate_left
                    · intro w'
                      go_simp
                      with_reducible rfl
                    rotate_left
                    · simp only [Act.put, List.setIfInBounds_toArray, List.set_cons_zero, List.set_cons_succ, i64_w, i32_w]
                      rfl
                    refine pure_ (i := 15) (N := some 153) (v := ?_) (a' := ?_) #[true, true, true, true, true, true, true, true, true, true, true, true, true, true, true, true, false, false] rfl rfl (any_of HT_.out (by kernel_rfl)) (fun _ _ _ h => h) (Or.inl ⟨by rfl, ?_⟩) ?_ ?_
                    rotate_left
                    · intro w'
                      go_simp
                      with_reducible rfl
                    rotate_left
                    · simp only [Act.put, List.setIfInBounds_toArray, List.set_cons_zero, List.set_cons_succ, i64_w, i32_w]
                      rfl
                    refine pure_ (i := 16) (N := some 20) (v := ?_) (a' := ?_) #[true, true, true, true, true, true, true, true, true, true, true, true, true, true, true, true, true, false] rfl rfl (any_of HT_.out (by kernel_rfl)) (fun _ _ _ h => h) (Or.inl ⟨by rfl, ?_⟩) ?_ ?_
                    rotate_left
                    · intro w'
                      go_simp
                      with_reducible rfl
                    rotate_left
                    · simp only [Act.put, List.setIfInBounds_toArray, List.set_cons_zero, List.set_cons_succ, i64_w, i32_w]
                      rfl
                    refine pure_ (i := 17) (N := some 21) (v := ?_) (a' := ?_) #[true, true, true, true, true, true, true, true, true, true, true, true, true, true, true, true, true, true] rfl rfl (any_of HT_.out (by kernel_rfl)) (fun _ _ _ h => h) (Or.inl ⟨by rfl, ?_⟩) ?_ ?_
                    rotate_left
                    · intro w'
                      go_simp
                      with_reducible rfl
                    rotate_left
                    · simp only [Act.put, List.setIfInBounds_toArray, List.set_cons_zero, List.set_cons_succ, i64_w, i32_w]
                      rfl
                    refine done_ (done_of HT_.out (by kernel_rfl)) ?_
                    clear hHeld HT_ HW_
                    have q1 : (cv.2 != cv.2) = false := bne_self_eq_false _
                    go_wp2_with fail
                    go_at_call 15
                    refine (intarsialaw17_sameNames.calls 3001 T1 cT1 cv.1 T2 cT2 cv.1 true V3 HR1.out HQ1.out HR2.out HQ2.out (same_self 3001 cv.1 (by have := condT_len xs z HFZ.out bd; rw [HCV.out] at this; have := HLB.out; omega))).mono ?_
                    rintro ex V4 ⟨rfl, hd⟩
                    have hb := below_drawn hd
                    clear hd q1
                    have n_HX1 := Aside0.mk ((hb.cell (World.block_lt_of_cell? _ _ HX1.out)).trans HX1.out)
                    have n_HY0 := Aside0.mk ((hb.cell (World.block_lt_of_cell? _ _ HY0.out)).trans HY0.out)
                    have n_HY1 := Aside0.mk ((hb.cell (World.block_lt_of_cell? _ _ HY1.out)).trans HY1.out)
                    have n_HY2 := Aside0.mk ((hb.cell (World.block_lt_of_cell? _ _ HY2.out)).trans HY2.out)
                    clear HX1 HY0 HY1 HY2
                    have HX1 := n_HX1
                    have HY0 := n_HY0
                    have HY1 := n_HY1
                    have HY2 := n_HY2
                    clear n_HX1 n_HY0 n_HY1 n_HY2
                    have n_HB := Aside0.mk (below_step HB.out hb)
                    have n_HC := Aside0.mk (Kd.C_below HC.out hb)
                    have n_HE := Aside0.mk (Kd.C_below HE.out hb)
                    have n_HN := Aside0.mk (Kd.C_below HN.out hb)
                    have n_HK3 := Aside0.mk (blk_below HK3.out hb)
                    have n_HL := Aside0.mk (below_step HL.out hb)
                    have n_HI1 := Aside0.mk (Kd.C_below HI1.out hb)
                    have n_HM := Aside0.mk (below_step HM.out hb)
                    have n_HI3 := Aside0.mk (Kd.C_below HI3.out hb)
                    have n_HR1 := Aside0.mk (Kd.C_below HR1.out hb)
                    clear HB HC HE HN HK3 HL HI1 HM HI3 HR1
                    have HB := n_HB
                    have HC := n_HC
                    have HE := n_HE
                    have HN := n_HN
                    have HK3 := n_HK3
                    have HL := n_HL
                    have HI1 := n_HI1
                    have HM := n_HM
                    have HI3 := n_HI3
                    have HR1 := n_HR1
                    clear n_HB n_HC n_HE n_HN n_HK3 n_HL n_HI1 n_HM n_HI3 n_HR1
                    clear hb
                    go_wp2_with fail
                    have hlt2 := HLK.out
                    have h8 := HFE.out.1
                    rw [add1' (by omega)]
                    exact ⟨⟨k + 1, by omega, rfl, HM.out⟩, by simp [intOf]; omega⟩
                  · skip
                    obtain rfl : k = y.f1.length := by omega
                    have b1 : decide ((y.f1.length : Int) < (y.f1.length : Int)) = false := decide_eq_false (by omega)
                    have p0 := eq_true (show 0 ≤ (j : Int) by omega)
                    have p1 := eq_true (show (j : Int) < (ys.length : Int) by have := HLT.out; omega)
                    clear hlt
                    go_wp2_with fail
                    have hlt2 := HLT.out
                    have hyl := HY.out
                    rw [add1' (by omega)]
                    exact ⟨⟨j + 1, by omega, rfl, HL.out⟩, by simp [intOf]; omega⟩
              · skip
                obtain rfl : j = ys.length := by omega
                have b1 : decide ((ys.length : Int) < (ys.length : Int)) = false := decide_eq_false (by omega)
                clear hlt
                go_wp2_with fail
                go_at_call 8
                refine (awake_calls wr).mono ?_
                rintro ex VA ⟨rfl, hb⟩
                have HBA := Aside0.mk (below_step HB.out hb)
                clear hb
                go_wp2_with fail
                go_ret
                exact ⟨rfl, HBA.out⟩
      · skip
        have b1 : decide ((30 : Int) < (bd.length : Int)) = false := decide_eq_false (by have := HL1.out; omega)
        have b2 : decide ((60 : Int) < (nm.size : Int)) = true := decide_eq_true (by omega)
        go_wp2_with fail
        go_at_call 8
        refine (awake_calls W2).mono ?_
        rintro ex VA ⟨rfl, hb⟩
        have HBA := Aside0.mk (below_step HB.out hb)
        clear hb
        go_wp2_with fail
        go_ret
        exact ⟨rfl, HBA.out⟩
    · skip
      have b1 : decide ((30 : Int) < (bd.length : Int)) = true := decide_eq_true (by omega)
      go_wp2_with fail
      go_at_call 8
      refine (awake_calls W2).mono ?_
      rintro ex VA ⟨rfl, hb⟩
      have HBA := Aside0.mk (below_step HB.out hb)
      clear hb
      go_wp2_with fail
      go_ret
      exact ⟨rfl, HBA.out⟩
end Go.Proofs.Ytlbcnkmojoinfaa.MCk
