/- The contract of root.Choose. -/
import Derived.Test.YtgflafifemhmgaaRootGt
namespace Go.Proofs.Ytgflafifemhmgaa.MRt
open Go.RowKit Go.Proofs.Ytgflafifemhmgaa.Hand Go.Proofs.Ytgflafifemhmgaa.Crc Go.Proofs.Ytgflafifemhmgaa.RootV Go.Proofs.Ytgflafifemhmgaa.RSums Go.Proofs.Ytgflafifemhmgaa.RPure Go.Proofs.YtgflafifemhmgaaW.PrintWords Go.Proofs.YtgflafifemhmgaaW.PrintLast Go.Proofs.YtgflafifemhmgaaW.PrintMore
set_option linter.unusedVariables false
set_option linter.unusedSimpArgs false
def rbest : RV := ⟨-1, 0, 0, 0, [], []⟩
/-- Does a block count at its place, against the best so far? -/
def counts (x : List Int) (i : Int) (best : RV) : Prop := (rget x).2 = 0 ∧ (rget x).1.ep % 2 = i ∧ (rget x).1.ep > best.ep
instance (x : List Int) (i : Int) (best : RV) : Decidable (counts x i best) := inferInstanceAs (Decidable (_ ∧ _ ∧ _))
def ch1 (a : List Int) : RV × Int := if counts a 0 rbest then ((rget a).1, 0) else (rbest, -1)
def ch2 (a b : List Int) : RV × Int := if counts b 1 (ch1 a).1 then ((rget b).1, 1) else ch1 a
def chst (a b : List Int) : Nat → RV × Int
  | 0 => (rbest, -1)
  | 1 => ch1 a
  | _ + 2 => ch2 a b
theorem ch_is (a b : List Int) : rchoose a b = if (ch2 a b).2 < 0 then (rzero, 0, 4) else ((ch2 a b).1, (ch2 a b).2, 0) := by
  rw [rchoose_loop]
  by_cases ha : (rget a).2 = 0 ∧ (rget a).1.ep % 2 = 0
  · have hep := rget_ep ha.1
    have e1 : ch1 a = ((rget a).1, 0) := if_pos (c := counts a 0 rbest) ⟨ha.1, ha.2, by show -1 < _; omega⟩
    rw [if_pos ha]
    by_cases hb : (rget b).2 = 0 ∧ (rget b).1.ep % 2 = 1 ∧ (rget b).1.ep > (rget a).1.ep
    · have e2 : ch2 a b = ((rget b).1, 1) := if_pos (c := counts b 1 (ch1 a).1) (by rw [e1]; exact hb)
      rw [if_pos hb, e2, if_neg (show ¬ ((1 : Int) < 0) by decide)]
    · have e2 : ch2 a b = ((rget a).1, 0) := (if_neg (c := counts b 1 (ch1 a).1) (by rw [e1]; exact hb)).trans e1
      rw [if_neg hb, e2, if_neg (show ¬ ((0 : Int) < 0) by decide)]
  · have e1 : ch1 a = (rbest, -1) := if_neg (c := counts a 0 rbest) (fun h => ha ⟨h.1, h.2.1⟩)
    rw [if_neg ha]
    by_cases hb : (rget b).2 = 0 ∧ (rget b).1.ep % 2 = 1
    · have hep := rget_ep hb.1
      have e2 : ch2 a b = ((rget b).1, 1) := if_pos (c := counts b 1 (ch1 a).1) (by rw [e1]; exact ⟨hb.1, hb.2, by show -1 < _; omega⟩)
      rw [if_pos hb, e2, if_neg (show ¬ ((1 : Int) < 0) by decide)]
    · have e2 : ch2 a b = (rbest, -1) := (if_neg (c := counts b 1 (ch1 a).1) (by rw [e1]; exact fun h => hb ⟨h.1, h.2.1⟩)).trans e1
      rw [if_neg hb, e2, if_pos (by decide)]
theorem i22 : (Try.prog.info? 22).map (·.size) = some 1 := by kernel_rfl
theorem index2_0 (x y : Value) (W : World) : (Instr.index 89 (.agg #[x, y]) (.int .i64 0)).run Try.prog W = .ok x W := by
  obtain ⟨i, hi, hs⟩ := Option.map_eq_some_iff.mp i22
  simp [Instr.index, asIntOf, part, sizeOf, typeInfo, hi, hs, go_sem]
theorem index2_1 (x y : Value) (W : World) : (Instr.index 89 (.agg #[x, y]) (.int .i64 1)).run Try.prog W = .ok y W := by
  obtain ⟨i, hi, hs⟩ := Option.map_eq_some_iff.mp i22
  simp [Instr.index, asIntOf, part, sizeOf, typeInfo, hi, hs, go_sem]
/-- A root in a block. -/
structure Box6 (W : World) (g B : Nat) (r : RV) : Prop where
  box : ∃ AT cT AM cM, W.heap[g]? = some (.cells #[.int .i64 r.ep, .int .i64 r.bl, .int .i64 r.nx, .int .i64 r.st, .slice AT r.tb.length cT, .slice AM r.mp.length cM] 55 (0, 0)) ∧ Kd.R (Kd.int .i64) 3 W B (fun _ => True) (.slice AT r.tb.length cT) r.tb ∧ Kd.R (Kd.int .i64) 3 W B (fun _ => True) (.slice AM r.mp.length cM) r.mp
theorem Box6.below {W W1 : World} {g B : Nat} {r : RV} (h : Box6 W g B r) (hb : Below W.heap.size W W1) : Box6 W1 g B r := by
  obtain ⟨AT, cT, AM, cM, h1, h2, h3⟩ := h.box
  exact ⟨AT, cT, AM, cM, blk_below h1 hb, Kd.R_below h2 hb, Kd.R_below h3 hb⟩
set_option maxHeartbeats 16000000 in
set_option maxRecDepth 100000 in
theorem root_Choose (A0 : Option Addr) (c0 : Nat) (a : List Int) (A1 : Option Addr) (c1 : Nat) (b : List Int) (w : World) (hr0 : Kd.C (Kd.int .u8) w A0 a.length a) (hc0 : a.length ≤ c0) (hb0 : ∀ x ∈ a, Byte x) (hr1 : Kd.C (Kd.int .u8) w A1 b.length b) (hc1 : b.length ≤ c1) (hb1 : ∀ x ∈ b, Byte x) :
    Calls Try.prog 32 #[.slice A0 a.length c0, .slice A1 b.length c1] w fun ex w' => ∃ v, ex = .returned (.tuple #[v, .int .i64 (rchoose a b).2.1, .int .i64 (rchoose a b).2.2]) ∧ rvAt w' w.heap.size v (rchoose a b).1 ∧ Below w.heap.size w w' := by
  have HR0 := Aside0.mk hr0
  have HC0 := Aside0.mk hc0
  have HY0 := Aside0.mk hb0
  have HR1 := Aside0.mk hr1
  have HC1 := Aside0.mk hc1
  have HY1 := Aside0.mk hb1
  clear hr0 hc0 hb0 hr1 hc1 hb1
  have hix0 := index2_0 (.slice A0 a.length c0) (.slice A1 b.length c1)
  have hix1 := index2_1 (.slice A0 a.length c0) (.slice A1 b.length c1)
  go_enter Try.func32, Try.ntmps32
  go_wp2_with fail
  obtain ⟨g4, hg4⟩ : ∃ g, g = w.heap.size := ⟨_, rfl⟩
  have hW := below_alloc (Below.refl w.heap.size w) (Obj.cells #[Value.int IntKind.i64 0, Value.int IntKind.i64 0, Value.int IntKind.i64 0, Value.int IntKind.i64 0, Value.slice none 0 0, Value.slice none 0 0] 55)
  have hN := blk_new w (Obj.cells #[Value.int IntKind.i64 0, Value.int IntKind.i64 0, Value.int IntKind.i64 0, Value.int IntKind.i64 0, Value.slice none 0 0, Value.slice none 0 0] 55)
  have hsz1 : (w.alloc (Obj.cells #[Value.int IntKind.i64 0, Value.int IntKind.i64 0, Value.int IntKind.i64 0, Value.int IntKind.i64 0, Value.slice none 0 0, Value.slice none 0 0] 55)).heap.size = w.heap.size + 1 := World.size_alloc _ _
  rw [← hg4] at hN hsz1 ⊢
  generalize w.alloc (Obj.cells #[Value.int IntKind.i64 0, Value.int IntKind.i64 0, Value.int IntKind.i64 0, Value.int IntKind.i64 0, Value.slice none 0 0, Value.slice none 0 0] 55) = W1 at hW hN hsz1 ⊢
  obtain ⟨g7, hg7⟩ : ∃ g, g = W1.heap.size := ⟨_, rfl⟩
  rw [← hsz1]
  have hW2 := below_alloc (Below.refl W1.heap.size W1) (Obj.cells #[Value.int IntKind.i64 (-1), Value.int IntKind.i64 0, Value.int IntKind.i64 0, Value.int IntKind.i64 0, Value.slice none 0 0, Value.slice none 0 0] 55)
  have hN2 := blk_new W1 (Obj.cells #[Value.int IntKind.i64 (-1), Value.int IntKind.i64 0, Value.int IntKind.i64 0, Value.int IntKind.i64 0, Value.slice none 0 0, Value.slice none 0 0] 55)
  rw [← hg7] at hN2 ⊢
  generalize W1.alloc (Obj.cells #[Value.int IntKind.i64 (-1), Value.int IntKind.i64 0, Value.int IntKind.i64 0, Value.int IntKind.i64 0, Value.slice none 0 0, Value.slice none 0 0] 55) = W2 at hW2 hN2 ⊢
  have HG4 := Aside0.mk hg4
  have HB2 := Aside0.mk (below_step hW hW2)
  have HN2 := Aside0.mk (blk_below hN hW2)
  have HK2 := Aside0.mk hN2
  have HGG := Aside0.mk (show g4 < g7 by have := blk_lt hN; omega)
  have HG7 := Aside0.mk (blk_lt hN2)
  clear hW hN hg4 hW2 hN2 hg7
  go_loopw [8, 17] (fun at_ i wr => ∃ (j : Nat), j ≤ 2 ∧ i = .int .i64 (j : Int) ∧ at_ = .int .i64 (chst a b j).2 ∧ Box6 wr g7 W2.heap.size (chst a b j).1 ∧ wr.heap[g4]? = some (.cells #[Value.int IntKind.i64 0, Value.int IntKind.i64 0, Value.int IntKind.i64 0, Value.int IntKind.i64 0, Value.slice none 0 0, Value.slice none 0 0] 55 (0, 0)) ∧ Below w.heap.size w wr ∧ W2.heap.size ≤ wr.heap.size)
    (fun _ i _ => 2 - (intOf i).toNat)
  case atStart => exact ⟨0, by decide, rfl, rfl, ⟨none, 0, none, 0, HK2.out, Kd.R_nil _ _ _ _ _, Kd.R_nil _ _ _ _ _⟩, HN2.out, HB2.out, Nat.le_refl _⟩
  case round =>
    obtain ⟨j, hj, rfl, rfl, hbx, hn4, hbl, hsz⟩ := hrel
    have HBX := Aside0.mk hbx
    have HN4 := Aside0.mk hn4
    have HBL := Aside0.mk hbl
    have HSZ := Aside0.mk hsz
    clear hbx hn4 hbl hsz HB2 HN2 HK2
    obtain rfl | rfl | rfl : j = 0 ∨ j = 1 ∨ j = 2 := by omega
    · clear hj
      go_wp2_with fail
      go_at_call 30
      have hget := root_Get A0 c0 a wr (Kd.C_below HR0.out HBL.out) HC0.out HY0.out
      refine hget.mono ?_
      clear hget
      rintro ex W5 ⟨v, rfl, hv, hb5⟩
      obtain ⟨vT, vM, rfl, hT, hM⟩ := hv
      obtain ⟨AT, cT, rfl⟩ := Kd.R_slice hT
      obtain ⟨AM, cM, rfl⟩ := Kd.R_slice hM
      have HB5 := Aside0.mk (below_step HBL.out hb5)
      have HN5 := Aside0.mk (blk_below HN4.out hb5)
      have HBX5 := Aside0.mk (HBX.out.below hb5)
      have HS5 := Aside0.mk (Nat.le_trans HSZ.out hb5.size)
      have HTT := Aside0.mk (Kd.R_lower hT HSZ.out)
      have HMM := Aside0.mk (Kd.R_lower hM HSZ.out)
      clear hT hM hb5 HBL HN4 HBX
      go_upto_region 6 with fail
      have hW := below_alloc (Below.refl W5.heap.size W5) (Obj.cells #[Value.int IntKind.i64 (rget a).1.ep, Value.int IntKind.i64 (rget a).1.bl, Value.int IntKind.i64 (rget a).1.nx, Value.int IntKind.i64 (rget a).1.st, Value.slice AT (rget a).1.tb.length cT, Value.slice AM (rget a).1.mp.length cM] 55)
      have hN := blk_new W5 (Obj.cells #[Value.int IntKind.i64 (rget a).1.ep, Value.int IntKind.i64 (rget a).1.bl, Value.int IntKind.i64 (rget a).1.nx, Value.int IntKind.i64 (rget a).1.st, Value.slice AT (rget a).1.tb.length cT, Value.slice AM (rget a).1.mp.length cM] 55)
      obtain ⟨g11, hg11⟩ : ∃ g, g = W5.heap.size := ⟨_, rfl⟩
      rw [← hg11] at hN ⊢
      generalize W5.alloc (Obj.cells #[Value.int IntKind.i64 (rget a).1.ep, Value.int IntKind.i64 (rget a).1.bl, Value.int IntKind.i64 (rget a).1.nx, Value.int IntKind.i64 (rget a).1.st, Value.slice AT (rget a).1.tb.length cT, Value.slice AM (rget a).1.mp.length cM] 55) = W6 at hW hN ⊢
      have HB6 := Aside0.mk (below_step HB5.out hW)
      have HN6 := Aside0.mk (blk_below HN5.out hW)
      have HBX6 := Aside0.mk (HBX5.out.below hW)
      have HT6 := Aside0.mk (Kd.R_below HTT.out hW)
      have HM6 := Aside0.mk (Kd.R_below HMM.out hW)
      have HK6 := Aside0.mk hN
      have HS6 := Aside0.mk (Nat.le_trans HS5.out hW.size)
      clear hW hN hg11 HB5 HN5 HBX5 HTT HMM
      obtain ⟨BT, dT, BM, dM, hbx, hbt, hbm⟩ := HBX6.out.box
      have k0 := blk_cell HK6.out 0; have z0 := blk_frozen HK6.out 0; have k1 := blk_cell HK6.out 1; have z1 := blk_frozen HK6.out 1; have k2 := blk_cell HK6.out 2; have z2 := blk_frozen HK6.out 2; have k3 := blk_cell HK6.out 3; have z3 := blk_frozen HK6.out 3; have k4 := blk_cell HK6.out 4; have z4 := blk_frozen HK6.out 4; have k5 := blk_cell HK6.out 5; have z5 := blk_frozen HK6.out 5
      have e0 := blk_cell hbx 0; have y0 := blk_frozen hbx 0; have e1 := blk_cell hbx 1; have y1 := blk_frozen hbx 1; have e2 := blk_cell hbx 2; have y2 := blk_frozen hbx 2; have e3 := blk_cell hbx 3; have y3 := blk_frozen hbx 3; have e4 := blk_cell hbx 4; have y4 := blk_frozen hbx 4; have e5 := blk_cell hbx 5; have y5 := blk_frozen hbx 5
      clear hbt hbm
      have HXB := Aside0.mk hbx
      clear hbx
      by_cases h0 : (rget a).2 = 0
      · have b0 : ((rget a).2 == 0) = true := beq_iff_eq.mpr h0
        have hep := rget_ep h0
        have H0 := Aside0.mk h0
        have HEP := Aside0.mk hep
        clear h0 hep
        have htm : Int.tmod (rget a).1.ep 2 = (rget a).1.ep % 2 := Int.tmod_eq_emod_of_nonneg HEP.out
        have hwm : wrap64 ((rget a).1.ep % 2) = (rget a).1.ep % 2 := by unfold wrap64; omega
        by_cases h1 : (rget a).1.ep % 2 = 0
        · have b1 : ((rget a).1.ep % 2 == 0) = true := beq_iff_eq.mpr h1
          have H1 := Aside0.mk h1
          clear h1
          by_cases h2 : (rget a).1.ep > (chst a b 0).1.ep
          · have b2 : decide ((chst a b 0).1.ep < (rget a).1.ep) = true := decide_eq_true h2
            have H2 := Aside0.mk h2
            clear h2
            go_wp2_with fail
            clear k0 z0 e0 y0 k1 z1 e1 y1 k2 z2 e2 y2 k3 z3 e3 y3 k4 z4 e4 y4 k5 z5 e5 y5
            have hch : chst a b 1 = ((rget a).1, 0) := if_pos ⟨H0.out, H1.out, H2.out⟩
            have hfar : ∀ q, q ≠ g7 → (put6 W6 g7 (Value.int IntKind.i64 (rget a).1.ep) (Value.int IntKind.i64 (rget a).1.bl) (Value.int IntKind.i64 (rget a).1.nx) (Value.int IntKind.i64 (rget a).1.st) (Value.slice AT (rget a).1.tb.length cT) (Value.slice AM (rget a).1.mp.length cM)).heap[q]? = W6.heap[q]? := fun q hq => put6_far _ _ _ _ _ _ _ _ _ hq
            refine ⟨⟨1, by decide, rfl, ?_, ?_, ?_, ?_, ?_⟩, by simp [intOf]⟩
            · rw [hch]
            · rw [hch]
              exact ⟨AT, cT, AM, cM, put6_heap HXB.out _ _ _ _ _ _, Kd.R_mono (Kd.R_step (Kd.R_bound HT6.out) (fun q hq _ => hfar q (by have := hq.2.1; have := HG7.out; omega))) (fun _ _ => trivial), Kd.R_mono (Kd.R_step (Kd.R_bound HM6.out) (fun q hq _ => hfar q (by have := hq.2.1; have := HG7.out; omega))) (fun _ _ => trivial)⟩
            · exact (hfar g4 (by have := HGG.out; omega)).trans HN6.out
            · exact put6_below HB6.out (by have := HGG.out; have := HG4.out; omega) _ _ _ _ _ _
            · exact Nat.le_trans HS6.out (put6_below (Below.refl 0 W6) (Nat.zero_le _) _ _ _ _ _ _).size
          · have b2 : decide ((chst a b 0).1.ep < (rget a).1.ep) = false := decide_eq_false h2
            have H2 := Aside0.mk h2
            clear h2
            go_wp2_with fail
            clear k0 z0 e0 y0 k1 z1 e1 y1 k2 z2 e2 y2 k3 z3 e3 y3 k4 z4 e4 y4 k5 z5 e5 y5
            have hch : chst a b 1 = chst a b 0 := if_neg (c := counts a 0 (chst a b 0).1) (by rintro ⟨_, _, h⟩; exact H2.out h)
            refine ⟨⟨1, by decide, rfl, ?_, ?_, HN6.out, HB6.out, HS6.out⟩, by simp [intOf]⟩
            · rw [hch]
            · rw [hch]; exact HBX6.out
        · have b1 : ((rget a).1.ep % 2 == 0) = false := beq_eq_false_iff_ne.mpr h1
          have H1 := Aside0.mk h1
          clear h1
          go_wp2_with fail
          clear k0 z0 e0 y0 k1 z1 e1 y1 k2 z2 e2 y2 k3 z3 e3 y3 k4 z4 e4 y4 k5 z5 e5 y5
          have hch : chst a b 1 = chst a b 0 := if_neg (c := counts a 0 (chst a b 0).1) (by rintro ⟨_, h, _⟩; exact H1.out h)
          refine ⟨⟨1, by decide, rfl, ?_, ?_, HN6.out, HB6.out, HS6.out⟩, by simp [intOf]⟩
          · rw [hch]
          · rw [hch]; exact HBX6.out
      · have b0 : ((rget a).2 == 0) = false := beq_eq_false_iff_ne.mpr h0
        have H0 := Aside0.mk h0
        clear h0
        go_wp2_with fail
        clear k0 z0 e0 y0 k1 z1 e1 y1 k2 z2 e2 y2 k3 z3 e3 y3 k4 z4 e4 y4 k5 z5 e5 y5
        have hch : chst a b 1 = chst a b 0 := if_neg (c := counts a 0 (chst a b 0).1) (by rintro ⟨h, _, _⟩; exact H0.out h)
        refine ⟨⟨1, by decide, rfl, ?_, ?_, HN6.out, HB6.out, HS6.out⟩, by simp [intOf]⟩
        · rw [hch]
        · rw [hch]; exact HBX6.out
    · clear hj
      go_wp2_with fail
      go_at_call 30
      have hget := root_Get A1 c1 b wr (Kd.C_below HR1.out HBL.out) HC1.out HY1.out
      refine hget.mono ?_
      clear hget
      rintro ex W5 ⟨v, rfl, hv, hb5⟩
      obtain ⟨vT, vM, rfl, hT, hM⟩ := hv
      obtain ⟨AT, cT, rfl⟩ := Kd.R_slice hT
      obtain ⟨AM, cM, rfl⟩ := Kd.R_slice hM
      have HB5 := Aside0.mk (below_step HBL.out hb5)
      have HN5 := Aside0.mk (blk_below HN4.out hb5)
      have HBX5 := Aside0.mk (HBX.out.below hb5)
      have HS5 := Aside0.mk (Nat.le_trans HSZ.out hb5.size)
      have HTT := Aside0.mk (Kd.R_lower hT HSZ.out)
      have HMM := Aside0.mk (Kd.R_lower hM HSZ.out)
      clear hT hM hb5 HBL HN4 HBX
      go_upto_region 6 with fail
      have hW := below_alloc (Below.refl W5.heap.size W5) (Obj.cells #[Value.int IntKind.i64 (rget b).1.ep, Value.int IntKind.i64 (rget b).1.bl, Value.int IntKind.i64 (rget b).1.nx, Value.int IntKind.i64 (rget b).1.st, Value.slice AT (rget b).1.tb.length cT, Value.slice AM (rget b).1.mp.length cM] 55)
      have hN := blk_new W5 (Obj.cells #[Value.int IntKind.i64 (rget b).1.ep, Value.int IntKind.i64 (rget b).1.bl, Value.int IntKind.i64 (rget b).1.nx, Value.int IntKind.i64 (rget b).1.st, Value.slice AT (rget b).1.tb.length cT, Value.slice AM (rget b).1.mp.length cM] 55)
      obtain ⟨g11, hg11⟩ : ∃ g, g = W5.heap.size := ⟨_, rfl⟩
      rw [← hg11] at hN ⊢
      generalize W5.alloc (Obj.cells #[Value.int IntKind.i64 (rget b).1.ep, Value.int IntKind.i64 (rget b).1.bl, Value.int IntKind.i64 (rget b).1.nx, Value.int IntKind.i64 (rget b).1.st, Value.slice AT (rget b).1.tb.length cT, Value.slice AM (rget b).1.mp.length cM] 55) = W6 at hW hN ⊢
      have HB6 := Aside0.mk (below_step HB5.out hW)
      have HN6 := Aside0.mk (blk_below HN5.out hW)
      have HBX6 := Aside0.mk (HBX5.out.below hW)
      have HT6 := Aside0.mk (Kd.R_below HTT.out hW)
      have HM6 := Aside0.mk (Kd.R_below HMM.out hW)
      have HK6 := Aside0.mk hN
      have HS6 := Aside0.mk (Nat.le_trans HS5.out hW.size)
      clear hW hN hg11 HB5 HN5 HBX5 HTT HMM
      obtain ⟨BT, dT, BM, dM, hbx, hbt, hbm⟩ := HBX6.out.box
      have k0 := blk_cell HK6.out 0; have z0 := blk_frozen HK6.out 0; have k1 := blk_cell HK6.out 1; have z1 := blk_frozen HK6.out 1; have k2 := blk_cell HK6.out 2; have z2 := blk_frozen HK6.out 2; have k3 := blk_cell HK6.out 3; have z3 := blk_frozen HK6.out 3; have k4 := blk_cell HK6.out 4; have z4 := blk_frozen HK6.out 4; have k5 := blk_cell HK6.out 5; have z5 := blk_frozen HK6.out 5
      have e0 := blk_cell hbx 0; have y0 := blk_frozen hbx 0; have e1 := blk_cell hbx 1; have y1 := blk_frozen hbx 1; have e2 := blk_cell hbx 2; have y2 := blk_frozen hbx 2; have e3 := blk_cell hbx 3; have y3 := blk_frozen hbx 3; have e4 := blk_cell hbx 4; have y4 := blk_frozen hbx 4; have e5 := blk_cell hbx 5; have y5 := blk_frozen hbx 5
      clear hbt hbm
      have HXB := Aside0.mk hbx
      clear hbx
      by_cases h0 : (rget b).2 = 0
      · have b0 : ((rget b).2 == 0) = true := beq_iff_eq.mpr h0
        have hep := rget_ep h0
        have H0 := Aside0.mk h0
        have HEP := Aside0.mk hep
        clear h0 hep
        have htm : Int.tmod (rget b).1.ep 2 = (rget b).1.ep % 2 := Int.tmod_eq_emod_of_nonneg HEP.out
        have hwm : wrap64 ((rget b).1.ep % 2) = (rget b).1.ep % 2 := by unfold wrap64; omega
        by_cases h1 : (rget b).1.ep % 2 = 1
        · have b1 : ((rget b).1.ep % 2 == 1) = true := beq_iff_eq.mpr h1
          have H1 := Aside0.mk h1
          clear h1
          by_cases h2 : (rget b).1.ep > (chst a b 1).1.ep
          · have b2 : decide ((chst a b 1).1.ep < (rget b).1.ep) = true := decide_eq_true h2
            have H2 := Aside0.mk h2
            clear h2
            go_wp2_with fail
            clear k0 z0 e0 y0 k1 z1 e1 y1 k2 z2 e2 y2 k3 z3 e3 y3 k4 z4 e4 y4 k5 z5 e5 y5
            have hch : chst a b 2 = ((rget b).1, 1) := if_pos ⟨H0.out, H1.out, H2.out⟩
            have hfar : ∀ q, q ≠ g7 → (put6 W6 g7 (Value.int IntKind.i64 (rget b).1.ep) (Value.int IntKind.i64 (rget b).1.bl) (Value.int IntKind.i64 (rget b).1.nx) (Value.int IntKind.i64 (rget b).1.st) (Value.slice AT (rget b).1.tb.length cT) (Value.slice AM (rget b).1.mp.length cM)).heap[q]? = W6.heap[q]? := fun q hq => put6_far _ _ _ _ _ _ _ _ _ hq
            refine ⟨⟨2, by decide, rfl, ?_, ?_, ?_, ?_, ?_⟩, by simp [intOf]⟩
            · rw [hch]
            · rw [hch]
              exact ⟨AT, cT, AM, cM, put6_heap HXB.out _ _ _ _ _ _, Kd.R_mono (Kd.R_step (Kd.R_bound HT6.out) (fun q hq _ => hfar q (by have := hq.2.1; have := HG7.out; omega))) (fun _ _ => trivial), Kd.R_mono (Kd.R_step (Kd.R_bound HM6.out) (fun q hq _ => hfar q (by have := hq.2.1; have := HG7.out; omega))) (fun _ _ => trivial)⟩
            · exact (hfar g4 (by have := HGG.out; omega)).trans HN6.out
            · exact put6_below HB6.out (by have := HGG.out; have := HG4.out; omega) _ _ _ _ _ _
            · exact Nat.le_trans HS6.out (put6_below (Below.refl 0 W6) (Nat.zero_le _) _ _ _ _ _ _).size
          · have b2 : decide ((chst a b 1).1.ep < (rget b).1.ep) = false := decide_eq_false h2
            have H2 := Aside0.mk h2
            clear h2
            go_wp2_with fail
            clear k0 z0 e0 y0 k1 z1 e1 y1 k2 z2 e2 y2 k3 z3 e3 y3 k4 z4 e4 y4 k5 z5 e5 y5
            have hch : chst a b 2 = chst a b 1 := if_neg (c := counts b 1 (chst a b 1).1) (by rintro ⟨_, _, h⟩; exact H2.out h)
            refine ⟨⟨2, by decide, rfl, ?_, ?_, HN6.out, HB6.out, HS6.out⟩, by simp [intOf]⟩
            · rw [hch]
            · rw [hch]; exact HBX6.out
        · have b1 : ((rget b).1.ep % 2 == 1) = false := beq_eq_false_iff_ne.mpr h1
          have H1 := Aside0.mk h1
          clear h1
          go_wp2_with fail
          clear k0 z0 e0 y0 k1 z1 e1 y1 k2 z2 e2 y2 k3 z3 e3 y3 k4 z4 e4 y4 k5 z5 e5 y5
          have hch : chst a b 2 = chst a b 1 := if_neg (c := counts b 1 (chst a b 1).1) (by rintro ⟨_, h, _⟩; exact H1.out h)
          refine ⟨⟨2, by decide, rfl, ?_, ?_, HN6.out, HB6.out, HS6.out⟩, by simp [intOf]⟩
          · rw [hch]
          · rw [hch]; exact HBX6.out
      · have b0 : ((rget b).2 == 0) = false := beq_eq_false_iff_ne.mpr h0
        have H0 := Aside0.mk h0
        clear h0
        go_wp2_with fail
        clear k0 z0 e0 y0 k1 z1 e1 y1 k2 z2 e2 y2 k3 z3 e3 y3 k4 z4 e4 y4 k5 z5 e5 y5
        have hch : chst a b 2 = chst a b 1 := if_neg (c := counts b 1 (chst a b 1).1) (by rintro ⟨h, _, _⟩; exact H0.out h)
        refine ⟨⟨2, by decide, rfl, ?_, ?_, HN6.out, HB6.out, HS6.out⟩, by simp [intOf]⟩
        · rw [hch]
        · rw [hch]; exact HBX6.out
    · clear hj
      have hc2 : chst a b 2 = ch2 a b := rfl
      rw [hc2] at HBX ⊢
      clear hc2
      obtain ⟨BT, dT, BM, dM, hbx, hbt, hbm⟩ := HBX.out.box
      have e0 := blk_cell hbx 0; have y0 := blk_frozen hbx 0; have e1 := blk_cell hbx 1; have y1 := blk_frozen hbx 1; have e2 := blk_cell hbx 2; have y2 := blk_frozen hbx 2; have e3 := blk_cell hbx 3; have y3 := blk_frozen hbx 3; have e4 := blk_cell hbx 4; have y4 := blk_frozen hbx 4; have e5 := blk_cell hbx 5; have y5 := blk_frozen hbx 5
      have k0 := blk_cell HN4.out 0; have z0 := blk_frozen HN4.out 0; have k1 := blk_cell HN4.out 1; have z1 := blk_frozen HN4.out 1; have k2 := blk_cell HN4.out 2; have z2 := blk_frozen HN4.out 2; have k3 := blk_cell HN4.out 3; have z3 := blk_frozen HN4.out 3; have k4 := blk_cell HN4.out 4; have z4 := blk_frozen HN4.out 4; have k5 := blk_cell HN4.out 5; have z5 := blk_frozen HN4.out 5
      have HXT := Aside0.mk hbt
      have HXM := Aside0.mk hbm
      clear hbx hbt hbm
      by_cases hneg : (ch2 a b).2 < 0
      · have bn : decide ((ch2 a b).2 < 0) = true := decide_eq_true hneg
        have HNEG := Aside0.mk hneg
        clear hneg
        go_wp2_with fail
        clear k0 z0 e0 y0 k1 z1 e1 y1 k2 z2 e2 y2 k3 z3 e3 y3 k4 z4 e4 y4 k5 z5 e5 y5
        refine bodyPost_ret (results_ctt rfl _ _ g4 55 _ (0, 0) _ rfl (put6_heap HN4.out _ _ _ _ _ _) Try.underlying55 rfl (by kernel_rfl)) rfl ?_
        rw [ch_is, if_pos HNEG.out]
        exact ⟨_, rfl, rvAt.zero _ _, put6_below HBL.out (Nat.le_of_eq HG4.out.symm) _ _ _ _ _ _⟩
      · have bn : decide ((ch2 a b).2 < 0) = false := decide_eq_false hneg
        have HNEG := Aside0.mk hneg
        clear hneg
        go_wp2_with fail
        clear k0 z0 e0 y0 k1 z1 e1 y1 k2 z2 e2 y2 k3 z3 e3 y3 k4 z4 e4 y4 k5 z5 e5 y5
        refine bodyPost_ret (results_ctt rfl _ _ g4 55 _ (0, 0) _ rfl (put6_heap HN4.out _ _ _ _ _ _) Try.underlying55 rfl (by kernel_rfl)) rfl ?_
        rw [ch_is, if_neg (by have := HNEG.out; omega)]
        refine ⟨_, rfl, ⟨_, _, rfl, ?_, ?_⟩, put6_below HBL.out (Nat.le_of_eq HG4.out.symm) _ _ _ _ _ _⟩
        · exact Kd.R_lower (Kd.R_mono (Kd.R_step (Kd.R_bound HXT.out) (fun q hq _ => put6_far _ g4 _ _ _ _ _ _ q (by have := hq.2.1; have := HGG.out; have := HG7.out; omega))) (fun _ _ => trivial)) (by have := HGG.out; have := HG7.out; have := HG4.out; omega)
        · exact Kd.R_lower (Kd.R_mono (Kd.R_step (Kd.R_bound HXM.out) (fun q hq _ => put6_far _ g4 _ _ _ _ _ _ q (by have := hq.2.1; have := HGG.out; have := HG7.out; omega))) (fun _ _ => trivial)) (by have := HGG.out; have := HG7.out; have := HG4.out; omega)
end Go.Proofs.Ytgflafifemhmgaa.MRt
