/- The root laws' awake: it tells true; and what both Same tell. -/
import Derived.Test.YtgflafifemhmgaaMRtx8
import Derived.Test.YtgflafifemhmgaaRootCh
namespace Go.Proofs.Ytgflafifemhmgaa.MRt
open Go.RowKit Go.Proofs.Ytgflafifemhmgaa.Hand Go.Proofs.Ytgflafifemhmgaa.Crc Go.Proofs.Ytgflafifemhmgaa.RootV Go.Proofs.Ytgflafifemhmgaa.RSums Go.Proofs.Ytgflafifemhmgaa.RPure Go.Proofs.YtgflafifemhmgaaW.PrintWords Go.Proofs.YtgflafifemhmgaaW.PrintLast Go.Proofs.YtgflafifemhmgaaW.PrintMore
set_option linter.unusedVariables false
set_option linter.unusedSimpArgs false
theorem equal_l (a b : List Int) (hab : a.length = b.length) (hl : a.length ≤ 2000) (d : Nat) : ∀ (k i : Nat), i + d = a.length → slices_Equal_int_int.l0 (k + d + 1) a b (a.length : Int) (i : Int) = some (decide (a.drop i = b.drop i)) := by
  induction d with
  | zero =>
    intro k i hi
    rw [slices_Equal_int_int.l0, if_neg (by omega), List.drop_of_length_le (by omega), List.drop_of_length_le (by omega)]
    rfl
  | succ d ih =>
    intro k i hi
    have h1 : i < a.length := by omega
    have h2 : i < b.length := by omega
    have w2 : wrap64 ((i : Int) + 1) = ((i + 1 : Nat) : Int) := by unfold wrap64; omega
    rw [show k + (d + 1) + 1 = (k + d + 1) + 1 by omega, slices_Equal_int_int.l0, if_pos (by omega), if_pos (by omega), if_pos (by omega), if_pos (by omega), rd_at _ _ h1, rd_at _ _ h2, w2, List.drop_eq_getElem_cons h1, List.drop_eq_getElem_cons h2]
    by_cases he : a[i] = b[i]
    · rw [if_pos he, ih k (i + 1) (by omega)]
      congr 1
      rw [decide_eq_decide, List.cons.injEq]
      exact ⟨fun h => ⟨he, h⟩, fun h => h.2⟩
    · rw [if_neg he, decide_eq_false (fun h => he (List.cons.inj h).1)]
theorem equal_ints (k : Nat) (a b : List Int) (hl : a.length ≤ 1000) : slices_Equal_int_int.f (k + 1001) a b = some (decide (a = b)) := by
  unfold slices_Equal_int_int.f
  by_cases h : a.length = b.length
  · rw [if_pos (by omega)]
    have := equal_l a b h (by omega) a.length (k + 1000 - a.length) 0 (by omega)
    rw [show k + 1000 - a.length + a.length + 1 = k + 1001 by omega] at this
    exact this
  · rw [if_neg (by omega), decide_eq_false (fun e => h (by rw [e]))]
theorem same_l (a b : List Int) (hab : a.length = b.length) (hl : a.length ≤ 2000) (d : Nat) : ∀ (k i : Nat), i + d = a.length → intarsiaref05_sameInts.l0 (k + d + 1) a b (i : Int) = some (decide (a.drop i = b.drop i)) := by
  induction d with
  | zero =>
    intro k i hi
    rw [intarsiaref05_sameInts.l0, if_neg (by omega), List.drop_of_length_le (by omega), List.drop_of_length_le (by omega)]
    rfl
  | succ d ih =>
    intro k i hi
    have h1 : i < a.length := by omega
    have h2 : i < b.length := by omega
    have w2 : wrap64 ((i : Int) + 1) = ((i + 1 : Nat) : Int) := by unfold wrap64; omega
    rw [show k + (d + 1) + 1 = (k + d + 1) + 1 by omega, intarsiaref05_sameInts.l0, if_pos (by omega), if_pos (by omega), if_pos (by omega), rd_at _ _ h1, rd_at _ _ h2, w2, List.drop_eq_getElem_cons h1, List.drop_eq_getElem_cons h2]
    by_cases he : a[i] = b[i]
    · rw [if_pos he, ih k (i + 1) (by omega)]
      congr 1
      rw [decide_eq_decide, List.cons.injEq]
      exact ⟨fun h => ⟨he, h⟩, fun h => h.2⟩
    · rw [if_neg he, decide_eq_false (fun h => he (List.cons.inj h).1)]
theorem same_ints (k : Nat) (a b : List Int) (hl : a.length ≤ 1000) : intarsiaref05_sameInts.f (k + 1001) a b = some (decide (a = b)) := by
  unfold intarsiaref05_sameInts.f
  by_cases h : a.length = b.length
  · rw [if_pos (by omega)]
    have := same_l a b h (by omega) a.length (k + 1000 - a.length) 0 (by omega)
    rw [show k + 1000 - a.length + a.length + 1 = k + 1001 by omega] at this
    exact this
  · rw [if_neg (by omega), decide_eq_false (fun e => h (by rw [e]))]
/-- Are two roots one? -/
def rsame (r s : RV) : Bool := decide (r.ep = s.ep ∧ r.bl = s.bl ∧ r.nx = s.nx ∧ r.st = s.st ∧ r.tb = s.tb ∧ r.mp = s.mp)
theorem rsame_self (r : RV) : rsame r r = true := decide_eq_true ⟨rfl, rfl, rfl, rfl, rfl, rfl⟩
theorem Same_is (r s : RV) (h1 : r.tb.length ≤ 1000) (h2 : r.mp.length ≤ 1000) : root_Same.f 1001 r.ep r.bl r.nx r.st r.tb r.mp s.ep s.bl s.nx s.st s.tb s.mp = some (rsame r s) := by
  have e1 := equal_ints 0 r.tb s.tb h1
  have e2 := equal_ints 0 r.mp s.mp h2
  rw [Nat.zero_add] at e1 e2
  unfold root_Same.f rsame
  rw [e1, e2]
  by_cases c1 : r.ep = s.ep
  · rw [if_pos c1]
    by_cases c2 : r.bl = s.bl
    · rw [if_pos c2]
      by_cases c3 : r.nx = s.nx
      · rw [if_pos c3]
        by_cases c4 : r.st = s.st
        · rw [if_pos c4, Option.bind_some]
          by_cases c5 : r.tb = s.tb
          · rw [decide_eq_true c5, if_pos rfl, Option.bind_some]
            by_cases c6 : r.mp = s.mp
            · rw [decide_eq_true c6, decide_eq_true ⟨c1, c2, c3, c4, c5, c6⟩]
            · rw [decide_eq_false c6, decide_eq_false (fun h => c6 h.2.2.2.2.2)]
          · rw [decide_eq_false c5, if_neg (by decide), decide_eq_false (fun h => c5 h.2.2.2.2.1)]
        · rw [if_neg c4, decide_eq_false (fun h => c4 h.2.2.2.1)]
      · rw [if_neg c3, decide_eq_false (fun h => c3 h.2.2.1)]
    · rw [if_neg c2, decide_eq_false (fun h => c2 h.2.1)]
  · rw [if_neg c1, decide_eq_false (fun h => c1 h.1)]
theorem rSame_is (r s : RV) (h1 : r.tb.length ≤ 1000) (h2 : r.mp.length ≤ 1000) : intarsiaref05_Same.f 1001 r.ep r.bl r.nx r.st r.tb r.mp s.ep s.bl s.nx s.st s.tb s.mp = some (rsame r s) := by
  have e1 := same_ints 0 r.tb s.tb h1
  have e2 := same_ints 0 r.mp s.mp h2
  rw [Nat.zero_add] at e1 e2
  unfold intarsiaref05_Same.f rsame
  rw [e1, e2]
  by_cases c1 : r.ep = s.ep
  · rw [if_pos c1]
    by_cases c2 : r.bl = s.bl
    · rw [if_pos c2]
      by_cases c3 : r.nx = s.nx
      · rw [if_pos c3]
        by_cases c4 : r.st = s.st
        · rw [if_pos c4, Option.bind_some]
          by_cases c5 : r.tb = s.tb
          · rw [decide_eq_true c5, if_pos rfl, Option.bind_some]
            by_cases c6 : r.mp = s.mp
            · rw [decide_eq_true c6, decide_eq_true ⟨c1, c2, c3, c4, c5, c6⟩]
            · rw [decide_eq_false c6, decide_eq_false (fun h => c6 h.2.2.2.2.2)]
          · rw [decide_eq_false c5, if_neg (by decide), decide_eq_false (fun h => c5 h.2.2.2.2.1)]
        · rw [if_neg c4, decide_eq_false (fun h => c4 h.2.2.2.1)]
      · rw [if_neg c3, decide_eq_false (fun h => c3 h.2.2.1)]
    · rw [if_neg c2, decide_eq_false (fun h => c2 h.2.1)]
  · rw [if_neg c1, decide_eq_false (fun h => c1 h.1)]
theorem light_is (r : RV) : intarsialaw05_light.f r.ep r.bl r.nx r.st r.tb r.mp = some (decide (r.tb.length ≤ 60 ∧ r.mp.length ≤ 60)) := by
  unfold intarsialaw05_light.f
  by_cases h : (r.tb.length : Int) ≤ 60
  · rw [if_pos h]
    congr 1
    rw [decide_eq_decide]
    omega
  · rw [if_neg h, decide_eq_false (by omega)]
def r0 : RV := ⟨5, 9, 1, 1, [2], [3]⟩
theorem r0_ok : rcheck r0 = 0 := by
  unfold rcheck
  rw [if_neg (by decide), if_neg (by decide), if_pos (by decide)]
theorem r0_head : (rlaid r0).take 22 = [114, 111, 111, 116, 0, 0, 0, 0, 0, 5, 0, 9, 0, 1, 0, 1, 1, 1, 0, 2, 0, 3] := by rfl
theorem r0_str : strOfNums ((rlaid r0).take 22) = { data := #[114, 111, 111, 116, 0, 0, 0, 0, 0, 5, 0, 9, 0, 1, 0, 1, 1, 1, 0, 2, 0, 3] } := by rw [r0_head]; rfl
set_option maxHeartbeats 16000000 in
set_option maxRecDepth 100000 in
theorem awake_calls (w : World) : Calls Try.prog 24 #[] w fun e w' => e = .returned (.bool true) ∧ Below w.heap.size w w' := by
  go_enter Try.func24, Try.ntmps24
  go_wp2_with (first
    | ((with_reducible refine gate_dst (N := 9) rfl ?_); go_loud (refine Kd.R_lit (Kd.int .i64) _ 3 ?hg (N := 9) ?hd (xs := ([2] : List Int)) (inner := [.int .i64 2]) (ok := fun _ => True) (okp := fun _ => True) ?hr ?hp (fun _ hk => hk) trivial (Below.refl _ _) (Nat.le_refl _) (by simp) ?_; (case hd => rfl); (case hg => rfl); (case hr => first | (go_simp; done) | (go_simp; rfl)); (case hp => exact (Reps.one (show Kd.M (Kd.int .i64) _ _ _ (2 : Int) [.int .i64 2] from rfl) (Reps.none _ _))); intro v9 w9 ho hb hgx hnx; clear hgx hnx; obtain ⟨A9, c9, e9⟩ := Kd.R_slice ho; subst e9; have HO9 := Aside0.mk ho; have HB9 := Aside0.mk hb; clear ho hb))
    | ((with_reducible refine gate_dst (N := 10) rfl ?_); go_loud (refine Kd.R_lit (Kd.int .i64) _ 3 ?hg (N := 10) ?hd (xs := ([3] : List Int)) (inner := [.int .i64 3]) (ok := fun _ => True) (okp := fun _ => True) ?hr ?hp (fun _ hk => hk) trivial (Below.refl _ _) (Nat.le_refl _) (by simp) ?_; (case hd => rfl); (case hg => rfl); (case hr => first | (go_simp; done) | (go_simp; rfl)); (case hp => exact (Reps.one (show Kd.M (Kd.int .i64) _ _ _ (3 : Int) [.int .i64 3] from rfl) (Reps.none _ _))); intro v10 w10 ho hb hgx hnx; clear hgx hnx; obtain ⟨A10, c10, e10⟩ := Kd.R_slice ho; subst e10; have HO10 := Aside0.mk ho; have HO9b := Aside0.mk (Kd.R_below HO9.out hb); have HB10 := Aside0.mk (below_step HB9.out hb); clear ho hb HO9 HB9))
    | fail)
  go_at_call 25
  have hp := root_Put.calls 3000 5 9 1 1 A9 c9 [2] A10 c10 [3] (rlaid r0) 0 w10 (Kd.R_reads' HO9b.out).2.2 (Kd.R_reads' HO9b.out).2.1 (Kd.R_reads' HO10.out).2.2 (Kd.R_reads' HO10.out).2.1 (by have := put_is 0 r0 (by decide) (by decide); rw [rput_ok r0_ok] at this; exact this)
  refine hp.mono ?_
  clear hp
  rintro ex W1 ⟨v1, rfl, hr, hb⟩
  obtain ⟨A, c, rfl⟩ := Kd.R_slice hr
  have HR := Aside0.mk (Kd.R_reads' hr).2.2
  have HC := Aside0.mk (Kd.R_reads' hr).2.1
  have HB1 := Aside0.mk (below_step HB10.out hb)
  have hby := rlaid_byte (r := r0) (by decide) (by decide)
  have hstr := r0_str
  have hget := rget_laid r0_ok
  have hch := rchoose_back1 r0_ok (by decide)
  have hlen := rlaid_len (r := r0) (by decide) (by decide)
  clear hr hb HO9b HO10 HB10
  generalize rlaid r0 = L at HR HC hby hstr hget hch hlen ⊢
  have HL := Aside0.mk hlen
  have lb : ((L.length : Int) == 256) = true := by rw [hlen]; rfl
  obtain ⟨i0, hi0, _, hsz, _⟩ := info_parts infoU8
  have hcut := cut_to (P := Try.prog) 22 5 .i64 Try.underlying22 hi0 A L.length c 22 (by decide) (by rw [hlen]; decide) HC.out
  have ht := Kd.C_take (m := 22) HR.out (by rw [hlen]; decide)
  have HT := Aside0.mk ht
  have lt : (L.take 22).length = 22 := by rw [List.length_take, hlen]; rfl
  clear hlen ht hi0 hsz
  have HBY := Aside0.mk hby
  have HSTR := Aside0.mk hstr
  have HCH := Aside0.mk hch
  have HGET := Aside0.mk hget
  clear hby hstr hch hget
  go_wp2_with fail
  go_at_call 30
  have hg := root_Get A c L W1 HR.out HC.out HBY.out
  rw [HGET.out] at hg
  refine hg.mono ?_
  clear hg
  rintro ex W2 ⟨v2, rfl, hv, hb⟩
  obtain ⟨vT, vM, rfl, hT, hM⟩ := hv
  obtain ⟨T1, cT1, rfl⟩ := Kd.R_slice hT
  obtain ⟨M1, cM1, rfl⟩ := Kd.R_slice hM
  have HB2 := Aside0.mk (below_step HB1.out hb)
  have HR2 := Aside0.mk (Kd.C_below HR.out hb)
  have HT2 := Aside0.mk (Kd.C_below HT.out hb)
  have HTT := Aside0.mk hT
  have HMM := Aside0.mk hM
  clear hT hM hb HB1 HR HT
  go_wp2_with fail
  go_at_call 32
  obtain ⟨g3, hg3⟩ : ∃ g, g = W2.heap.size := ⟨_, rfl⟩
  have hW := below_alloc (Below.refl W2.heap.size W2) (Obj.cells #[Value.int IntKind.i64 r0.ep, Value.int IntKind.i64 r0.bl, Value.int IntKind.i64 r0.nx, Value.int IntKind.i64 r0.st, Value.slice T1 r0.tb.length cT1, Value.slice M1 r0.mp.length cM1] 55)
  have hN := blk_new W2 (Obj.cells #[Value.int IntKind.i64 r0.ep, Value.int IntKind.i64 r0.bl, Value.int IntKind.i64 r0.nx, Value.int IntKind.i64 r0.st, Value.slice T1 r0.tb.length cT1, Value.slice M1 r0.mp.length cM1] 55)
  rw [← hg3] at hN ⊢
  generalize W2.alloc (Obj.cells #[Value.int IntKind.i64 r0.ep, Value.int IntKind.i64 r0.bl, Value.int IntKind.i64 r0.nx, Value.int IntKind.i64 r0.st, Value.slice T1 r0.tb.length cT1, Value.slice M1 r0.mp.length cM1] 55) = W3 at hW hN ⊢
  have HB3 := Aside0.mk (below_step HB2.out hW)
  have HR3 := Aside0.mk (Kd.C_below HR2.out hW)
  have HT3 := Aside0.mk (Kd.C_below HT2.out hW)
  have HTT3 := Aside0.mk (Kd.R_below HTT.out hW)
  have HMM3 := Aside0.mk (Kd.R_below HMM.out hW)
  have HN3 := Aside0.mk hN
  clear hW hN hg3 HB2 HR2 HT2 HTT HMM
  have hg := root_Choose none 0 [] A c L W3 (Kd.C_nil _ _) (Nat.le_refl _) (by intro x hx; cases hx) HR3.out HC.out HBY.out
  rw [HCH.out] at hg
  refine hg.mono ?_
  clear hg
  rintro ex W4 ⟨v4, rfl, hv, hb⟩
  obtain ⟨vT, vM, rfl, hT, hM⟩ := hv
  obtain ⟨T2, cT2, rfl⟩ := Kd.R_slice hT
  obtain ⟨M2, cM2, rfl⟩ := Kd.R_slice hM
  have HB4 := Aside0.mk (below_step HB3.out hb)
  have HT4 := Aside0.mk (Kd.C_below HT3.out hb)
  have HT1 := Aside0.mk (Kd.R_below HTT3.out hb)
  have HM1 := Aside0.mk (Kd.R_below HMM3.out hb)
  have HN4 := Aside0.mk (blk_below HN3.out hb)
  have HT2 := Aside0.mk hT
  have HM2 := Aside0.mk hM
  clear hT hM hb HB3 HR3 HT3 HTT3 HMM3 HN3
  go_upto_region 4 with fail
  obtain ⟨g5, hg5⟩ : ∃ g, g = W4.heap.size := ⟨_, rfl⟩
  have hW := below_alloc (Below.refl W4.heap.size W4) (Obj.cells #[Value.int IntKind.i64 r0.ep, Value.int IntKind.i64 r0.bl, Value.int IntKind.i64 r0.nx, Value.int IntKind.i64 r0.st, Value.slice T2 r0.tb.length cT2, Value.slice M2 r0.mp.length cM2] 55)
  have hN := blk_new W4 (Obj.cells #[Value.int IntKind.i64 r0.ep, Value.int IntKind.i64 r0.bl, Value.int IntKind.i64 r0.nx, Value.int IntKind.i64 r0.st, Value.slice T2 r0.tb.length cT2, Value.slice M2 r0.mp.length cM2] 55)
  rw [← hg5] at hN ⊢
  generalize W4.alloc (Obj.cells #[Value.int IntKind.i64 r0.ep, Value.int IntKind.i64 r0.bl, Value.int IntKind.i64 r0.nx, Value.int IntKind.i64 r0.st, Value.slice T2 r0.tb.length cT2, Value.slice M2 r0.mp.length cM2] 55) = W5 at hW hN ⊢
  have HB5 := Aside0.mk (below_step HB4.out hW)
  have hcv := Kd.C_string (P := Try.prog) (A := A) (c := c) Try.underlying22 Try.underlying5 Try.underlying9 (Kd.C_below HT4.out hW)
  rw [lt, HSTR.out] at hcv
  have HT5 := Aside0.mk (Kd.R_below HT1.out hW)
  have HM5 := Aside0.mk (Kd.R_below HM1.out hW)
  have HT6 := Aside0.mk (Kd.R_below HT2.out hW)
  have HM6 := Aside0.mk (Kd.R_below HM2.out hW)
  have HN5 := Aside0.mk (blk_below HN4.out hW)
  have HK5 := Aside0.mk hN
  clear hW hN hg5 HB4 HT4 HT1 HM1 HT2 HM2 HN4
  have d0 := blk_cell HN5.out 0; have f0 := blk_frozen HN5.out 0; have d1 := blk_cell HN5.out 1; have f1 := blk_frozen HN5.out 1; have d2 := blk_cell HN5.out 2; have f2 := blk_frozen HN5.out 2; have d3 := blk_cell HN5.out 3; have f3 := blk_frozen HN5.out 3; have d4 := blk_cell HN5.out 4; have f4 := blk_frozen HN5.out 4; have d5 := blk_cell HN5.out 5; have f5 := blk_frozen HN5.out 5
  have k0 := blk_cell HK5.out 0; have z0 := blk_frozen HK5.out 0; have k1 := blk_cell HK5.out 1; have z1 := blk_frozen HK5.out 1; have k2 := blk_cell HK5.out 2; have z2 := blk_frozen HK5.out 2; have k3 := blk_cell HK5.out 3; have z3 := blk_frozen HK5.out 3; have k4 := blk_cell HK5.out 4; have z4 := blk_frozen HK5.out 4; have k5 := blk_cell HK5.out 5; have z5 := blk_frozen HK5.out 5
  have hep : (r0.ep == (5 : Int)) = true := by decide
  go_wp2_with fail
  go_at_call 28
  have hs := root_Same.calls 1001 r0.ep r0.bl r0.nx r0.st T1 cT1 r0.tb M1 cM1 r0.mp r0.ep r0.bl r0.nx r0.st T2 cT2 r0.tb M2 cM2 r0.mp true W5 (Kd.R_reads' HT5.out).2.2 (Kd.R_reads' HT5.out).2.1 (Kd.R_reads' HM5.out).2.2 (Kd.R_reads' HM5.out).2.1 (Kd.R_reads' HT6.out).2.2 (Kd.R_reads' HT6.out).2.1 (Kd.R_reads' HM6.out).2.2 (Kd.R_reads' HM6.out).2.1 (by have := Same_is r0 r0 (by decide) (by decide); rw [rsame_self] at this; exact this)
  refine hs.mono ?_
  clear hs
  rintro ex W6 ⟨rfl, hb⟩
  have HB6 := Aside0.mk (below_step HB5.out hb)
  clear hb HB5
  go_wp2
  go_ret
  exact ⟨rfl, HB6.out⟩
end Go.Proofs.Ytgflafifemhmgaa.MRt
