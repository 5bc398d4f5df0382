/- The contract of root.Get. -/
import Derived.Test.YtgflafifemhmgaaRootGet
import Derived.Test.YtgflafifemhmgaaRPure
namespace Go.Proofs.Ytgflafifemhmgaa.MRt
open Go.RowKit Go.Proofs.Ytgflafifemhmgaa.Hand Go.Proofs.Ytgflafifemhmgaa.Crc Go.Proofs.Ytgflafifemhmgaa.RootV Go.Proofs.Ytgflafifemhmgaa.RSums Go.Proofs.Ytgflafifemhmgaa.RPure Go.Proofs.YtgflafifemhmgaaW.PrintWords Go.Proofs.YtgflafifemhmgaaW.PrintLast Go.Proofs.YtgflafifemhmgaaW.PrintMore
set_option linter.unusedVariables false
set_option linter.unusedSimpArgs false
/-- A root's value. -/
def rvAt (w : World) (B : Nat) (v : Value) (r : RV) : Prop := ∃ vT vM, v = .agg #[.int .i64 r.ep, .int .i64 r.bl, .int .i64 r.nx, .int .i64 r.st, vT, vM] ∧ Kd.R (Kd.int .i64) 3 w B (fun _ => True) vT r.tb ∧ Kd.R (Kd.int .i64) 3 w B (fun _ => True) vM r.mp
theorem rvAt.zero (w : World) (B : Nat) : rvAt w B (.agg #[.int .i64 0, .int .i64 0, .int .i64 0, .int .i64 0, .slice none 0 0, .slice none 0 0]) rzero := ⟨_, _, rfl, Kd.R_nil _ _ _ _ _, Kd.R_nil _ _ _ _ _⟩
theorem rvAt.below {w w1 : World} {B : Nat} {v : Value} {r : RV} (h : rvAt w B v r) (hb : Below w.heap.size w w1) : rvAt w1 B v r := by
  obtain ⟨vT, vM, e, h1, h2⟩ := h
  exact ⟨vT, vM, e, Kd.R_below h1 hb, Kd.R_below h2 hb⟩
theorem rvAt.lower {w : World} {B B' : Nat} {v : Value} {r : RV} (h : rvAt w B v r) (hb : B' ≤ B) : rvAt w B' v r := by
  obtain ⟨vT, vM, e, h1, h2⟩ := h
  exact ⟨vT, vM, e, Kd.R_lower h1 hb, Kd.R_lower h2 hb⟩
theorem rvAt.step {w w1 : World} {B : Nat} {v : Value} {r : RV} (h : rvAt w B v r) (hb : ∀ q, B ≤ q → q < w.heap.size → w1.heap[q]? = w.heap[q]?) : rvAt w1 B v r := by
  obtain ⟨vT, vM, e, h1, h2⟩ := h
  exact ⟨vT, vM, e, Kd.R_mono (Kd.R_step (Kd.R_bound h1) (fun q hq hlt => hb q hq.2.1 hlt)) (fun _ _ => trivial), Kd.R_mono (Kd.R_step (Kd.R_bound h2) (fun q hq hlt => hb q hq.2.1 hlt)) (fun _ _ => trivial)⟩
set_option maxHeartbeats 8000000 in
set_option maxRecDepth 100000 in
theorem root_Get (A0 : Option Addr) (c0 : Nat) (l : List Int) (w : World) (hr : Kd.C (Kd.int .u8) w A0 l.length l) (hc : l.length ≤ c0) (hb : ∀ x ∈ l, Byte x) :
    Calls Try.prog 30 #[.slice A0 l.length c0] w fun ex w' => ∃ v, ex = .returned (.tuple #[v, .int .i64 (rget l).2]) ∧ rvAt w' w.heap.size v (rget l).1 ∧ Below w.heap.size w w' := by
  have HC := Aside0.mk hc
  have HBY := Aside0.mk hb
  have HR := Aside0.mk hr
  by_cases hl : l.length = 256
  · have HL := Aside0.mk hl
    have lb : ((l.length : Int) != 256) = false := by rw [hl]; rfl
    obtain ⟨i0, hi0, _, hsz, _⟩ := info_parts infoU8
    -- the three cuts
    have hcutM := cut_mid (P := Try.prog) 22 5 .i64 .i64 Try.underlying22 hi0 1 hsz A0 l.length c0 4 10 (by decide) (by decide) (by omega) hc
    have hcutD := cut_from (P := Try.prog) 22 5 .i64 Try.underlying22 hi0 1 hsz A0 l.length c0 250 (by decide) (by omega)
    have hcutT := cut_to (P := Try.prog) 22 5 .i64 Try.underlying22 hi0 A0 l.length c0 250 (by decide) (by omega) hc
    have hm := Kd.C_mid (k := Kd.int .u8) (lo := 4) (hi := 10) (c := c0) hr (by decide) (by omega) hc
    have hd := Kd.C_drop (m := 250) (c := c0) hr (by omega) hc
    have ht := Kd.C_take (m := 250) hr (by omega)
    obtain ⟨AM, hAM⟩ : ∃ A1, A1 = (if c0 = (4 : Int).toNat then A0 else (A0 : Option Addr).map (·.add ((4 : Int).toNat * 1))) := ⟨_, rfl⟩
    obtain ⟨AD, hAD⟩ : ∃ A1, A1 = (if c0 = (250 : Int).toNat then A0 else (A0 : Option Addr).map (·.add ((250 : Int).toNat * 1))) := ⟨_, rfl⟩
    rw [← hAM] at hcutM
    rw [← hAD] at hcutD
    replace hm : Kd.C (Kd.int .u8) w AM ((l.take 10).drop 4).length ((l.take 10).drop 4) := by rw [hAM]; exact hm
    replace hd : Kd.C (Kd.int .u8) w AD (l.drop 250).length (l.drop 250) := by rw [hAD]; exact hd
    have lm : ((l.take 10).drop 4).length = 6 := by rw [List.length_drop, List.length_take, hl]; rfl
    have ld : (l.drop 250).length = 6 := by rw [List.length_drop, hl]
    have lt : (l.take 250).length = 250 := by rw [List.length_take, hl]; rfl
    have byM : ∀ x ∈ (l.take 10).drop 4, Byte x := fun x hx => hb x (List.mem_of_mem_take (List.mem_of_mem_drop hx))
    have byD : ∀ x ∈ l.drop 250, Byte x := fun x hx => hb x (List.mem_of_mem_drop hx)
    obtain ⟨eq, heq⟩ : ∃ b, b = decide ((l.take 10).drop 4 = l.drop 250) := ⟨_, rfl⟩
    have hEq : ∀ W, Kd.C (Kd.int .u8) W AM ((l.take 10).drop 4).length ((l.take 10).drop 4) → Kd.C (Kd.int .u8) W AD (l.drop 250).length (l.drop 250) → Calls Try.prog 41 #[.slice AM 6 (c0 - 4), .slice AD (l.length - 250) (c0 - 250)] W fun e w' => e = .returned (.bool eq) ∧ ∃ m, w' = W.drewN m := by
      intro W h1 h2
      have := bytes_Equal.calls AM (c0 - 4) _ AD (c0 - 250) _ _ W h1 (by rw [lm]; omega) h2 (by rw [ld]; omega) (equal_is _ _ byM byD)
      rw [← heq, lm, show (l.drop 250).length = l.length - 250 from List.length_drop] at this
      exact this.mono fun e w' ⟨h1, h2⟩ => ⟨h1, by obtain ⟨n, h⟩ := h2; exact ⟨n, h⟩⟩
    have HEQ := Aside0.mk hEq
    have HE := Aside0.mk heq
    have HM := Aside0.mk hm
    have HD := Aside0.mk hd
    have HT := Aside0.mk ht
    clear hl hr hc hb hEq heq hm hd ht hAM hAD hi0 hsz byM byD lm ld
    go_enter Try.func30, Try.ntmps30
    go_wp2_with fail
    obtain ⟨g2, hg2⟩ : ∃ g, g = w.heap.size := ⟨_, rfl⟩
    have hW := below_alloc (Below.refl w.heap.size w) (Obj.cells #[Value.int IntKind.i64 0, Value.int IntKind.i64 0, Value.int IntKind.i64 0, Value.int IntKind.i64 0, Value.slice none 0 0, Value.slice none 0 0] 55)
    have hN := blk_new w (Obj.cells #[Value.int IntKind.i64 0, Value.int IntKind.i64 0, Value.int IntKind.i64 0, Value.int IntKind.i64 0, Value.slice none 0 0, Value.slice none 0 0] 55)
    rw [← hg2] at hN ⊢
    generalize w.alloc (Obj.cells #[Value.int IntKind.i64 0, Value.int IntKind.i64 0, Value.int IntKind.i64 0, Value.int IntKind.i64 0, Value.slice none 0 0, Value.slice none 0 0] 55) = W1 at hW hN ⊢
    have HB1 := Aside0.mk hW
    have HN1 := Aside0.mk hN
    have HG2 := Aside0.mk hg2
    have HM1 := Aside0.mk (Kd.C_below HM.out hW)
    have HD1 := Aside0.mk (Kd.C_below HD.out hW)
    clear hW hN hg2 HM HD
    go_quiet (go_loud (refine Calls.quiet_of (HEQ.out _ (Kd.C_drewN HM1.out _) (Kd.C_drewN HD1.out _))))
    have HB2 := Aside0.mk (pw_below_drewN HB1.out nq)
    have HN2 := Aside0.mk (blk_drewN HN1.out nq)
    generalize W1.drewN nq = W2 at HB2 HN2 ⊢
    clear HM1 HD1 HB1 HN1 HEQ
    have d0 := blk_cell HN2.out 0; have f0 := blk_frozen HN2.out 0; have d1 := blk_cell HN2.out 1; have f1 := blk_frozen HN2.out 1; have d2 := blk_cell HN2.out 2; have f2 := blk_frozen HN2.out 2; have d3 := blk_cell HN2.out 3; have f3 := blk_frozen HN2.out 3; have d4 := blk_cell HN2.out 4; have f4 := blk_frozen HN2.out 4; have d5 := blk_cell HN2.out 5; have f5 := blk_frozen HN2.out 5
    cases eq
    rotate_left
    · have he : (l.take 10).drop 4 = l.drop 250 := of_decide_eq_true HE.out.symm
      have HEE := Aside0.mk he
      clear he
      go_wp2_with fail
      go_at_call 37
      obtain ⟨x, e, hxe⟩ : ∃ x e, sum_Open.f 2 (l.take 250) = some (x, e) ∧ (e = 0 ↔ sumok l) := by
        rw [sopen_250 0 l HL.out HBY.out]
        by_cases hs : sumok l
        · rw [if_pos hs]; exact ⟨_, _, rfl, fun _ => hs, fun _ => rfl⟩
        · rw [if_neg hs]; exact ⟨_, _, rfl, fun h => absurd h (by decide), fun h => absurd h hs⟩
      have HXE := Aside0.mk hxe
      have hso := sum_Open.calls 2 A0 c0 (l.take 250) x e W2 (Kd.C_below HT.out HB2.out) (by rw [lt]; have := HC.out; have := HL.out; omega) hxe.1
      rw [lt] at hso
      clear hxe d0 d1 d2 d3 d4 d5 f0 f1 f2 f3 f4 f5
      refine hso.mono ?_
      clear hso
      rintro ex W3 ⟨v, rfl, hrv, hb3⟩
      have HB3 := Aside0.mk (below_step HB2.out hb3)
      have HN3 := Aside0.mk (blk_below HN2.out hb3)
      clear hrv hb3 HB2 HN2
      have d0 := blk_cell HN3.out 0; have f0 := blk_frozen HN3.out 0; have d1 := blk_cell HN3.out 1; have f1 := blk_frozen HN3.out 1; have d2 := blk_cell HN3.out 2; have f2 := blk_frozen HN3.out 2; have d3 := blk_cell HN3.out 3; have f3 := blk_frozen HN3.out 3; have d4 := blk_cell HN3.out 4; have f4 := blk_frozen HN3.out 4; have d5 := blk_cell HN3.out 5; have f5 := blk_frozen HN3.out 5
      by_cases hs : e = 0
      · subst hs
        have HS := Aside0.mk (HXE.out.2.mp rfl)
        go_wp2_with fail
        go_at_call 52
        clear d0 d1 d2 d3 d4 d5 f0 f1 f2 f3 f4 f5
        have hrd := root_read A0 c0 l W3 (Kd.C_below HR.out HB3.out) HC.out HL.out HBY.out
        refine hrd.mono ?_
        clear hrd
        rintro ex W4 ⟨vT, vM, rfl, hT, hM, hb4⟩
        have HB4 := Aside0.mk (below_step HB3.out hb4)
        have HN4 := Aside0.mk (blk_below HN3.out hb4)
        have HTT := Aside0.mk hT
        have HMM := Aside0.mk hM
        have HG3 := Aside0.mk (blk_lt HN3.out)
        have HZ3 := Aside0.mk HB3.out.size
        obtain ⟨AT, cT, rfl⟩ := Kd.R_slice hT
        obtain ⟨A5, c5, rfl⟩ := Kd.R_slice hM
        clear hT hM hb4 HB3 HN3
        go_wp2_with fail
        go_at_call 25
        obtain ⟨g6, hg6⟩ : ∃ g, g = W4.heap.size := ⟨_, rfl⟩
        have hW := below_alloc (Below.refl W4.heap.size W4) (Obj.cells #[Value.int IntKind.i64 (rread l).ep, Value.int IntKind.i64 (rread l).bl, Value.int IntKind.i64 (rread l).nx, Value.int IntKind.i64 (rread l).st, Value.slice AT (rread l).tb.length cT, Value.slice A5 (rread l).mp.length c5] 55)
        have hN := blk_new W4 (Obj.cells #[Value.int IntKind.i64 (rread l).ep, Value.int IntKind.i64 (rread l).bl, Value.int IntKind.i64 (rread l).nx, Value.int IntKind.i64 (rread l).st, Value.slice AT (rread l).tb.length cT, Value.slice A5 (rread l).mp.length c5] 55)
        rw [← hg6] at hN ⊢
        generalize W4.alloc (Obj.cells #[Value.int IntKind.i64 (rread l).ep, Value.int IntKind.i64 (rread l).bl, Value.int IntKind.i64 (rread l).nx, Value.int IntKind.i64 (rread l).st, Value.slice AT (rread l).tb.length cT, Value.slice A5 (rread l).mp.length c5] 55) = W5 at hW hN ⊢
        have hne : g2 ≠ g6 := by have := blk_lt HN4.out; omega
        have HB5 := Aside0.mk (below_step HB4.out hW)
        have HN5 := Aside0.mk (blk_below HN4.out hW)
        have HT5 := Aside0.mk (Kd.R_below HTT.out hW)
        have HM5 := Aside0.mk (Kd.R_below HMM.out hW)
        have HK5 := Aside0.mk hN
        have HNE := Aside0.mk hne
        clear hW hN hg6 hne HB4 HN4 HTT HMM
        have hp := root_Put.calls 3000 (rread l).ep (rread l).bl (rread l).nx (rread l).st AT cT (rread l).tb A5 c5 (rread l).mp (rput (rread l)).1 (rput (rread l)).2 W5 (Kd.R_reads' HT5.out).2.2 (Kd.R_reads' HT5.out).2.1 (Kd.R_reads' HM5.out).2.2 (Kd.R_reads' HM5.out).2.1 (put_is 0 (rread l) (by rw [show (rread l).tb.length = cntT l from nums2_len _ _ _]; exact Nat.le_trans (Nat.min_le_right _ _) (by decide)) (by rw [show (rread l).mp.length = cntM l from nums2_len _ _ _]; exact Nat.le_trans (Nat.min_le_right _ _) (by decide)))
        refine hp.mono ?_
        clear hp
        rintro ex W6 ⟨v6, rfl, hr6, hb6⟩
        obtain ⟨A6, c6, rfl⟩ := Kd.R_slice hr6
        have HB6 := Aside0.mk (below_step HB5.out hb6)
        have HN6 := Aside0.mk (blk_below HN5.out hb6)
        have HK6 := Aside0.mk (blk_below HK5.out hb6)
        have HT6 := Aside0.mk (Kd.R_below HT5.out hb6)
        have HM6 := Aside0.mk (Kd.R_below HM5.out hb6)
        have HR6 := Aside0.mk hr6
        clear hr6 hb6 HB5 HN5 HT5 HM5 HK5
        by_cases hq : (rput (rread l)).2 = 0
        · have HQ := Aside0.mk hq
          have eb : ((rput (rread l)).2 != 0) = false := by rw [hq]; rfl
          clear hq
          go_wp2_with fail
          go_at_call 41
          obtain ⟨eq, heq⟩ : ∃ b, b = decide (l = (rput (rread l)).1) := ⟨_, rfl⟩
          have hrd := Kd.R_reads' HR6.out
          have hE := bytes_Equal.calls A0 c0 l A6 c6 (rput (rread l)).1 eq W6 (Kd.C_below HR.out HB6.out) HC.out hrd.2.2 hrd.2.1 (by rw [heq]; exact equal_is _ _ HBY.out (rput_byte _))
          have HE2 := Aside0.mk heq
          clear hrd heq
          refine hE.mono ?_
          clear hE
          rintro ex W7 ⟨rfl, n7, rfl⟩
          have HB7 := Aside0.mk (pw_below_drewN HB6.out n7)
          have HN7 := Aside0.mk (blk_drewN HN6.out n7)
          have HK7 := Aside0.mk (blk_drewN HK6.out n7)
          have HT7 := Aside0.mk (Kd.R_drewN HT6.out n7)
          have HM7 := Aside0.mk (Kd.R_drewN HM6.out n7)
          generalize W6.drewN n7 = W7 at HB7 HN7 HK7 HT7 HM7 ⊢
          clear HB6 HN6 HK6 HT6 HM6 HR6
          have d0 := blk_cell HN7.out 0; have f0 := blk_frozen HN7.out 0; have d1 := blk_cell HN7.out 1; have f1 := blk_frozen HN7.out 1; have d2 := blk_cell HN7.out 2; have f2 := blk_frozen HN7.out 2; have d3 := blk_cell HN7.out 3; have f3 := blk_frozen HN7.out 3; have d4 := blk_cell HN7.out 4; have f4 := blk_frozen HN7.out 4; have d5 := blk_cell HN7.out 5; have f5 := blk_frozen HN7.out 5
          cases eq
          · have hl : ¬ l = (rput (rread l)).1 := of_decide_eq_false HE2.out.symm
            have HL2 := Aside0.mk hl
            clear hl
            go_wp2_with fail
            clear d0 d1 d2 d3 d4 d5 f0 f1 f2 f3 f4 f5
            refine bodyPost_ret (results_ct rfl _ _ g2 55 _ (0, 0) _ rfl (put6_heap HN7.out _ _ _ _ _ _) Try.underlying55 rfl (by kernel_rfl)) rfl ?_
            have hz : rget l = (rzero, 4) := by unfold rget; rw [if_pos HL.out, if_pos HEE.out, if_pos HS.out, if_neg (fun h => HL2.out (by rw [h]))]
            rw [hz]
            exact ⟨_, rfl, rvAt.zero _ _, put6_below HB7.out (Nat.le_of_eq HG2.out.symm) _ _ _ _ _ _⟩
          · have hl : l = (rput (rread l)).1 := of_decide_eq_true HE2.out.symm
            have HL2 := Aside0.mk hl
            clear hl
            have k0 := blk_cell HK7.out 0
            have k1 := blk_cell HK7.out 1
            have k2 := blk_cell HK7.out 2
            have k3 := blk_cell HK7.out 3
            have k4 := blk_cell HK7.out 4
            have k5 := blk_cell HK7.out 5
            go_wp2_with fail
            clear d0 d1 d2 d3 d4 d5 f0 f1 f2 f3 f4 f5 k0 k1 k2 k3 k4 k5
            refine bodyPost_ret (results_ct rfl _ _ g2 55 _ (0, 0) _ rfl (put6_heap HN7.out _ _ _ _ _ _) Try.underlying55 rfl (by kernel_rfl)) rfl ?_
            have hz : rget l = (rread l, 0) := by
              unfold rget
              rw [if_pos HL.out, if_pos HEE.out, if_pos HS.out, if_pos (Prod.ext HL2.out.symm HQ.out : rput (rread l) = (l, 0))]
            rw [hz]
            refine ⟨_, rfl, ⟨_, _, rfl, ?_, ?_⟩, put6_below HB7.out (Nat.le_of_eq HG2.out.symm) _ _ _ _ _ _⟩
            · exact Kd.R_lower (Kd.R_mono (Kd.R_step (Kd.R_bound HT7.out) (fun q hq _ => put6_far _ g2 _ _ _ _ _ _ q (by have := hq.2.1; have := HG3.out; omega))) (fun _ _ => trivial)) HZ3.out
            · exact Kd.R_lower (Kd.R_mono (Kd.R_step (Kd.R_bound HM7.out) (fun q hq _ => put6_far _ g2 _ _ _ _ _ _ q (by have := hq.2.1; have := HG3.out; omega))) (fun _ _ => trivial)) HZ3.out
        · have HQ := Aside0.mk hq
          have eb : ((rput (rread l)).2 != 0) = true := bne_iff_ne.mpr hq
          clear hq
          have d0 := blk_cell HN6.out 0; have f0 := blk_frozen HN6.out 0; have d1 := blk_cell HN6.out 1; have f1 := blk_frozen HN6.out 1; have d2 := blk_cell HN6.out 2; have f2 := blk_frozen HN6.out 2; have d3 := blk_cell HN6.out 3; have f3 := blk_frozen HN6.out 3; have d4 := blk_cell HN6.out 4; have f4 := blk_frozen HN6.out 4; have d5 := blk_cell HN6.out 5; have f5 := blk_frozen HN6.out 5
          go_wp2_with fail
          clear d0 d1 d2 d3 d4 d5 f0 f1 f2 f3 f4 f5
          refine bodyPost_ret (results_ct rfl _ _ g2 55 _ (0, 0) _ rfl (put6_heap HN6.out _ _ _ _ _ _) Try.underlying55 rfl (by kernel_rfl)) rfl ?_
          have hz : rget l = (rzero, 4) := by unfold rget; rw [if_pos HL.out, if_pos HEE.out, if_pos HS.out, if_neg (fun h => HQ.out (by rw [h]))]
          rw [hz]
          exact ⟨_, rfl, rvAt.zero _ _, put6_below HB6.out (Nat.le_of_eq HG2.out.symm) _ _ _ _ _ _⟩
      · have eb : (e != 0) = true := bne_iff_ne.mpr hs
        have HS := Aside0.mk (fun h => hs (HXE.out.2.mpr h) : ¬ sumok l)
        clear hs
        go_wp2_with fail
        clear d0 d1 d2 d3 d4 d5 f0 f1 f2 f3 f4 f5
        refine bodyPost_ret (results_ct rfl _ _ g2 55 _ (0, 0) _ rfl (put6_heap HN3.out _ _ _ _ _ _) Try.underlying55 rfl (by kernel_rfl)) rfl ?_
        have hz : rget l = (rzero, 13) := by unfold rget; rw [if_pos HL.out, if_pos HEE.out, if_neg HS.out]
        rw [hz]
        exact ⟨_, rfl, rvAt.zero _ _, put6_below HB3.out (Nat.le_of_eq HG2.out.symm) _ _ _ _ _ _⟩
    · have he : ¬ (l.take 10).drop 4 = l.drop 250 := of_decide_eq_false HE.out.symm
      have HEE := Aside0.mk he
      clear he
      go_wp2_with fail
      clear d0 d1 d2 d3 d4 d5 f0 f1 f2 f3 f4 f5
      refine bodyPost_ret (results_ct rfl _ _ g2 55 _ (0, 0) _ rfl (put6_heap HN2.out _ _ _ _ _ _) Try.underlying55 rfl (by kernel_rfl)) rfl ?_
      have hz : rget l = (rzero, 3) := by unfold rget; rw [if_pos HL.out, if_neg HEE.out]
      rw [hz]
      exact ⟨_, rfl, rvAt.zero _ _, put6_below HB2.out (Nat.le_of_eq HG2.out.symm) _ _ _ _ _ _⟩
  · have lb : ((l.length : Int) != 256) = true := bne_iff_ne.mpr (by omega)
    have HL := Aside0.mk hl
    clear hl hr hc hb
    go_enter Try.func30, Try.ntmps30
    go_wp2_with fail
    refine bodyPost_ret (results_ct rfl _ _ w.heap.size 55 _ (0, 0) _ rfl (blk_new w (Obj.cells #[Value.int IntKind.i64 0, Value.int IntKind.i64 0, Value.int IntKind.i64 0, Value.int IntKind.i64 0, Value.slice none 0 0, Value.slice none 0 0] 55)) Try.underlying55 rfl (by kernel_rfl)) rfl ?_
    have hz : rget l = (rzero, 2) := by unfold rget; rw [if_neg HL.out]
    rw [hz]
    exact ⟨_, rfl, rvAt.zero _ _, below_alloc (Below.refl _ _) _⟩
end Go.Proofs.Ytgflafifemhmgaa.MRt
