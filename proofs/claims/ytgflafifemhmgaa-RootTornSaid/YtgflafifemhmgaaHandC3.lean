/- The contract of page.Seal, over that of sum.Seal; and laws on rows made by make and filled by copy. -/
import Derived.Test.YtgflafifemhmgaaHandC2
import Derived.Laws.CopyOwn
import Derived.Laws.MakeOwn
namespace Go.Proofs.Ytgflafifemhmgaa.Hand
open Go.RowKit Go.Proofs.YtgflafifemhmgaaW.PrintWords Go.Proofs.YtgflafifemhmgaaW.PrintLast Go.Proofs.YtgflafifemhmgaaW.PrintMore

section
variable {P : Program} {ops : Array Oper} {rest : List Oper} {o : Oper} {a : Act} {Q : Exit → Act → World → Prop}
theorem make_event {W : World} (hgd : o.guard = none) {N : Tmp} (_hd : o.dst = some N) {cs : Array Value} {t : TypeId} {n : Nat}
    (hrun : (execOp a.eval o).run P W = .ok (.value (.slice (some ⟨W.heap.size, 0, none⟩) n n)) (W.alloc (.cells cs t (0, 0))))
    (h : ∀ g, g = W.heap.size → ∀ w1, w1.heap[g]? = some (.cells cs t (0, 0)) → Below W.heap.size W w1 → wpList P ops Q rest (a.put o.dst (.slice (some ⟨g, 0, none⟩) n n)) w1) : wpList P ops Q (o :: rest) a W :=
  Kd.event_run hgd hrun (h _ rfl _ (blk_new W _) (below_alloc (Below.refl _ _) _))
end
theorem made_nums (m : Nat) : madeCells #[Value.int .u8 0] m = (nums .u8 (List.replicate m 0)).toArray := by
  apply Array.toList_inj.mp
  apply List.ext_getElem
  · simp [nums, madeCells]
  · intro i h1 h2
    simp [nums, madeCells, Nat.mod_one]
/-- What page.Seal lays ahead of the sum. -/
def headed (kind id : Int) (l : List Int) : List Int := [kind % 256, id / 65536 % 256, id / 256 % 256, id % 256, (l.length : Int) / 256 % 256, (l.length : Int) % 256] ++ (l ++ List.replicate (246 - l.length) 0)
def headedX (kind id : Int) (n : Nat) : List Int := [kind % 256, id / 65536 % 256, id / 256 % 256, id % 256, (n : Int) / 256 % 256, (n : Int) % 256] ++ List.replicate 246 0
theorem infoS : (Try.prog.info? 5).map (·.size) = some 1 := by kernel_rfl
theorem row_cell {w : World} {g : Nat} {xs : List Int} (h : w.heap[g]? = some (.cells (nums .u8 xs).toArray 5 (0, 0))) (i : Nat) (hi : i < xs.length) : w.cell? ⟨g, i, none⟩ = some (.int .u8 (xs.getD i 0)) := by
  rw [cell_of_row w g _ _ _ _ h]
  simp only [nums, List.getElem?_toArray, List.getElem?_map]
  rw [List.getElem?_eq_getElem hi, List.getD_eq_getElem?_getD, List.getElem?_eq_getElem hi]
  rfl
theorem copy_row {W w : World} {B g : Nat} {x X : List Int} {A : Option Addr} {sCap : Nat} (ty : TypeId) (hg : W.heap[g]? = some (.cells (nums .u8 X).toArray 5 (0, 0))) (hC : Kd.C (Kd.int .u8) W A x.length x) (hX : 6 + x.length ≤ X.length) (hx : x.length ≤ 246) (hB : Below B w W) (hBg : B ≤ g) :
    ∃ w2, (Builtin.copy_ #[22, 22] ty #[.slice (some ⟨g, 6, none⟩) 246 246, .slice A x.length sCap]).run Try.prog W = .ok (goInt x.length) w2 ∧ w2.heap[g]? = some (.cells (splice (nums .u8 X) 6 (nums .u8 x)).toArray 5 (0, 0)) ∧ Below B w w2 := by
  by_cases h0 : x.length = 0
  · have e : x = [] := List.eq_nil_of_length_eq_zero h0
    refine ⟨W, ?_, ?_, hB⟩
    · rw [run_copy_none (P := Try.prog) W 22 22 ty 5 _ A 246 246 x.length sCap Try.underlying22 infoS (by rw [h0]; rfl), h0]; rfl
    · rw [hg, e]; simp [splice, nums]
  · obtain ⟨ad, rfl, -⟩ := Kd.at_int hC 0 (by omega) (by omega)
    have hsrc : ∀ j v, (nums .u8 x)[j]? = some v → W.cell? (ad.add j) = some v := by
      intro j v hv
      have hj : j < x.length := by
        rcases Nat.lt_or_ge j x.length with h | h
        · exact h
        · rw [List.getElem?_eq_none (by rw [nums_length]; exact h)] at hv; cases hv
      obtain ⟨ad', e', hc⟩ := Kd.at_int hC (j : Int) (by omega) (by omega)
      cases e'
      rw [Int.toNat_natCast] at hc
      rw [hc]
      simp only [nums, List.getElem?_map] at hv
      rw [List.getElem?_eq_getElem hj] at hv
      rw [← hv]
      unfold rd
      rw [Int.toNat_natCast, List.getD_eq_getElem?_getD, List.getElem?_eq_getElem hj]
      rfl
    refine ⟨_, ?_, setRow_heap _ _ _ _ _ _ hg, below_setRow hB hBg _⟩
    rw [run_copy_row (P := Try.prog) W 22 22 ty 5 g 6 246 246 ad x.length sCap (nums .u8 X).toArray 5 (nums .u8 x) Try.underlying22 infoS hg (by rw [nums_length]; exact (Nat.min_eq_left hx).symm) hsrc (by rw [List.size_toArray, nums_length, nums_length]; exact hX) (fun v hv => by obtain ⟨z, -, rfl⟩ := List.mem_map.mp hv; rfl)]
    rw [nums_length]
    simp only [splice, nums_length, List.append_assoc]
theorem splice_headed (kind id : Int) (l : List Int) : splice (nums .u8 (headedX kind id l.length)) 6 (nums .u8 l) = nums .u8 (headed kind id l) := by
  unfold splice headed nums
  rw [List.length_map, ← List.map_take, ← List.map_drop, ← List.map_append, ← List.map_append]
  congr 1
  have e1 : (headedX kind id l.length).take 6 = [kind % 256, id / 65536 % 256, id / 256 % 256, id % 256, (l.length : Int) / 256 % 256, (l.length : Int) % 256] := rfl
  have e2 : (headedX kind id l.length).drop (6 + l.length) = List.replicate (246 - l.length) 0 := by
    rw [← List.drop_drop]
    exact List.drop_replicate
  rw [e1, e2]
set_option maxHeartbeats 2000000 in
set_option maxRecDepth 100000 in
theorem page_Seal.walk (sealF : List Int → Option (List Int)) (hseal : ∀ (A0 : Option Addr) (c0 : Nat) (l0 : List Int) (r : List Int) (w : World), Kd.C (Kd.int .u8) w A0 l0.length l0 → l0.length ≤ c0 → sealF l0 = some r → Calls Try.prog 34 #[.slice A0 l0.length c0] w fun e w' => ∃ v0_ : Value, e = .returned (v0_) ∧ Kd.R (Kd.int .u8) 5 w' w.heap.size (fun _ => True) v0_ r ∧ Below w.heap.size w w')
    (kind id : Int) (A2 : Option Addr) (c2 : Nat) (l2 : List Int) (r : List Int) (w : World) (hk : 1 ≤ kind ∧ kind ≤ 5) (hid : 0 ≤ id ∧ id ≤ 3000) (hl : l2.length ≤ 246) (hr2 : Kd.C (Kd.int .u8) w A2 l2.length l2) (hc2 : l2.length ≤ c2) (h : sealF (headed kind id l2) = some r) :
    Calls Try.prog 13 #[.int .i64 kind, .int .i64 id, .slice A2 l2.length c2] w fun e w' => ∃ v0_ : Value, e = .returned (.tuple #[v0_, .int .i64 0]) ∧ Kd.R (Kd.int .u8) 5 w' w.heap.size (fun _ => True) v0_ r ∧ Below w.heap.size w w' := by
  have HR2 := Aside0.mk hr2
  have HC2 := Aside0.mk hc2
  have HL := Aside0.mk hl
  have H := Aside0.mk h
  have k1 : decide (kind < 1) = false := decide_eq_false (by omega)
  have k2 : decide (5 < kind) = false := decide_eq_false (by omega)
  have i1 : decide (id < 0) = false := decide_eq_false (by omega)
  have i2 : decide (3000 < id) = false := decide_eq_false (by omega)
  have l1 : decide (246 < (l2.length : Int)) = false := decide_eq_false (by omega)
  have l1n : decide (246 < l2.length) = false := decide_eq_false (by omega)
  have HK := Aside0.mk hk
  have HI := Aside0.mk hid
  clear hk hid hl hr2 hc2 h
  have hmk : ∀ W : World, (Instr.makeSlice 22 (.int .i64 252) (.int .i64 252)).run Try.prog W = .ok (.slice (some ⟨W.heap.size, 0, none⟩) 252 252) (W.alloc (.cells (nums .u8 (List.replicate 252 0)).toArray 5)) := by
    intro W
    have := print_make (P := Try.prog) 22 5 .u8 1 Try.underlying22 infoU8 (by decide) 252 (by omega) W
    rw [made_nums] at this
    exact this
  go_enter Try.func13, Try.ntmps13
  go_wp2_with (first | ((with_reducible refine gate_dst (N := 27) rfl ?_); refine make_event ?hg (N := 27) ?hd (n := 252) (cs := (nums .u8 (List.replicate 252 0)).toArray) (t := 5) ?hr ?_; (case hd => rfl); (case hg => rfl); (case hr => first | (go_simp; done) | (go_simp; rfl)); intro g hg w1 hrow hb; have HB := Aside0.mk hb; have HG := Aside0.mk hrow; have GE := Aside0.mk hg; have c0 := row_cell hrow 0 (by decide); have c1 := row_cell hrow 1 (by decide); have c2 := row_cell hrow 2 (by decide); have c3 := row_cell hrow 3 (by decide); have c4 := row_cell hrow 4 (by decide); have c5 := row_cell hrow 5 (by decide); have f0 := frozen_of_row w1 g 0 _ 5 hrow; have f1 := frozen_of_row w1 g 1 _ 5 hrow; have f2 := frozen_of_row w1 g 2 _ 5 hrow; have f3 := frozen_of_row w1 g 3 _ 5 hrow; have f4 := frozen_of_row w1 g 4 _ 5 hrow; have f5 := frozen_of_row w1 g 5 _ 5 hrow; clear hb hrow hg))
  obtain ⟨W6, hW6⟩ : ∃ W6, W6 = ((((((w1.setCell ⟨g, 0, none⟩ (.int .u8 (kind % 256))).setCell ⟨g, 1, none⟩ (.int .u8 (id / 65536 % 256))).setCell ⟨g, 2, none⟩ (.int .u8 (id / 256 % 256))).setCell ⟨g, 3, none⟩ (.int .u8 (id % 256))).setCell ⟨g, 4, none⟩ (.int .u8 ((l2.length : Int) / 256 % 256))).setCell ⟨g, 5, none⟩ (.int .u8 ((l2.length : Int) % 256))) := ⟨_, rfl⟩
  have hgB : w.heap.size ≤ g := by rw [GE.out]; exact Nat.le_refl _
  have hG6 : W6.heap[g]? = some (.cells (nums .u8 (headedX kind id l2.length)).toArray 5 (0, 0)) := by
    rw [hW6, heap_setCell_same _ g 5 _ 5 _ (heap_setCell_same _ g 4 _ 5 _ (heap_setCell_same _ g 3 _ 5 _ (heap_setCell_same _ g 2 _ 5 _ (heap_setCell_same _ g 1 _ 5 _ (heap_setCell_same _ g 0 _ 5 _ HG.out)))))]
    rfl
  have hB6 : Below w.heap.size w W6 := by
    rw [hW6]
    exact ((((((HB.out.setCell (p := ⟨g, 0, none⟩) hgB _).setCell (p := ⟨g, 1, none⟩) hgB _).setCell (p := ⟨g, 2, none⟩) hgB _).setCell (p := ⟨g, 3, none⟩) hgB _).setCell (p := ⟨g, 4, none⟩) hgB _).setCell (p := ⟨g, 5, none⟩) hgB _)
  rw [← hW6]
  have hC6 := Kd.C_below HR2.out hB6
  obtain ⟨w2, hrun, HG2, HB2⟩ := copy_row (x := l2) (X := headedX kind id l2.length) 3 hG6 hC6 (by have := HL.out; simp [headedX]; omega) HL.out hB6 hgB (sCap := _)
  rw [hrun]
  simp only [Result.andThen]
  rw [Oper.upon_value]
  have hsp : splice (nums .u8 (headedX kind id l2.length)) 6 (nums .u8 l2) = nums .u8 (headed kind id l2) := by
    exact splice_headed kind id l2
  have hlen : (headed kind id l2).length = 252 := by have := HL.out; simp [headed]; omega
  have HB3 := Aside0.mk HB2
  have hC := cells_C (HG2.trans (by rw [hsp])) (by rw [hlen]; decide)
  rw [hlen] at hC
  have HCC := Aside0.mk hC
  clear hW6 hG6 hB6 hC6 c0 c1 c2 c3 c4 c5 f0 f1 f2 f3 f4 f5 hmk hC HG2 HB2 hsp hrun hgB k1 k2 i1 i2 l1 l1n
  go_wp2_with fail
  go_at_call 34
  have hs := hseal (some ⟨g, 0, none⟩) 252 (headed kind id l2) r _ (by rw [hlen]; exact HCC.out) (by rw [hlen]; decide) H.out
  rw [hlen] at hs
  refine hs.mono ?_
  rintro e w3 ⟨v, rfl, hr, hb⟩
  obtain ⟨A, c, rfl⟩ := Kd.R_slice hr
  have HR := Aside0.mk (Kd.R_lower hr HB3.out.size)
  have HB4 := Aside0.mk (below_step HB3.out hb)
  clear hs hr hb
  go_wp2
  go_ret2
  exact ⟨_, rfl, HR.out, HB4.out⟩
/-- What page.Seal tells, by what seals bytes. -/
def page_SealF (sealF : List Int → Option (List Int)) (kind id : Int) (l : List Int) : Option (List Int × Int) :=
  if kind < 1 ∨ 5 < kind then some ([], 9) else if id < 0 ∨ 3000 < id then some ([], 12) else if 246 < l.length then some ([], 5) else (sealF (headed kind id l)).bind fun s => some (s, 0)
set_option maxHeartbeats 2000000 in
set_option maxRecDepth 100000 in
theorem page_Seal.calls0 (sealF : List Int → Option (List Int)) (hseal : ∀ (A0 : Option Addr) (c0 : Nat) (l0 : List Int) (r : List Int) (w : World), Kd.C (Kd.int .u8) w A0 l0.length l0 → l0.length ≤ c0 → sealF l0 = some r → Calls Try.prog 34 #[.slice A0 l0.length c0] w fun e w' => ∃ v0_ : Value, e = .returned (v0_) ∧ Kd.R (Kd.int .u8) 5 w' w.heap.size (fun _ => True) v0_ r ∧ Below w.heap.size w w')
    (kind id : Int) (A2 : Option Addr) (c2 : Nat) (l2 : List Int) (r1 : List Int) (r2 : Int) (w : World) (hr2 : Kd.C (Kd.int .u8) w A2 l2.length l2) (hc2 : l2.length ≤ c2) (h : page_SealF sealF kind id l2 = some (r1, r2)) :
    Calls Try.prog 13 #[.int .i64 kind, .int .i64 id, .slice A2 l2.length c2] w fun e w' => ∃ v0_ : Value, e = .returned (.tuple #[v0_, .int .i64 r2]) ∧ Kd.R (Kd.int .u8) 5 w' w.heap.size (fun _ => True) v0_ r1 ∧ Below w.heap.size w w' := by
  unfold page_SealF at h
  by_cases h1 : kind < 1
  · rw [if_pos (.inl h1)] at h
    obtain ⟨rfl, rfl⟩ := Prod.mk.inj (Option.some.inj h)
    have k1 : decide (kind < 1) = true := decide_eq_true h1
    clear h h1 hr2 hc2 hseal
    go_enter Try.func13, Try.ntmps13
    go_wp2
    go_ret2
    exact ⟨_, rfl, Kd.R_nil _ _ _ _ _, Below.refl _ _⟩
  · have k1 : decide (kind < 1) = false := decide_eq_false h1
    by_cases h2 : 5 < kind
    · rw [if_pos (.inr h2)] at h
      obtain ⟨rfl, rfl⟩ := Prod.mk.inj (Option.some.inj h)
      have k2 : decide (5 < kind) = true := decide_eq_true h2
      clear h h1 h2 hr2 hc2 hseal
      go_enter Try.func13, Try.ntmps13
      go_wp2
      go_ret2
      exact ⟨_, rfl, Kd.R_nil _ _ _ _ _, Below.refl _ _⟩
    · have k2 : decide (5 < kind) = false := decide_eq_false h2
      rw [if_neg (by omega)] at h
      by_cases h3 : id < 0
      · rw [if_pos (.inl h3)] at h
        obtain ⟨rfl, rfl⟩ := Prod.mk.inj (Option.some.inj h)
        have i1 : decide (id < 0) = true := decide_eq_true h3
        clear h h1 h2 h3 hr2 hc2 hseal
        go_enter Try.func13, Try.ntmps13
        go_wp2
        go_ret2
        exact ⟨_, rfl, Kd.R_nil _ _ _ _ _, Below.refl _ _⟩
      · have i1 : decide (id < 0) = false := decide_eq_false h3
        by_cases h4 : 3000 < id
        · rw [if_pos (.inr h4)] at h
          obtain ⟨rfl, rfl⟩ := Prod.mk.inj (Option.some.inj h)
          have i2 : decide (3000 < id) = true := decide_eq_true h4
          clear h h1 h2 h3 h4 hr2 hc2 hseal
          go_enter Try.func13, Try.ntmps13
          go_wp2
          go_ret2
          exact ⟨_, rfl, Kd.R_nil _ _ _ _ _, Below.refl _ _⟩
        · have i2 : decide (3000 < id) = false := decide_eq_false h4
          rw [if_neg (by omega)] at h
          by_cases h5 : 246 < l2.length
          · rw [if_pos h5] at h
            obtain ⟨rfl, rfl⟩ := Prod.mk.inj (Option.some.inj h)
            have l1 : decide (246 < (l2.length : Int)) = true := decide_eq_true (by omega)
            have l1n : decide (246 < l2.length) = true := decide_eq_true h5
            clear h h1 h2 h3 h4 h5 hr2 hc2 hseal
            go_enter Try.func13, Try.ntmps13
            go_wp2
            go_ret2
            exact ⟨_, rfl, Kd.R_nil _ _ _ _ _, Below.refl _ _⟩
          · rw [if_neg h5] at h
            obtain ⟨s, hs, h⟩ := Option.bind_eq_some_iff.mp h
            obtain ⟨rfl, rfl⟩ := Prod.mk.inj (Option.some.inj h)
            exact page_Seal.walk sealF hseal kind id A2 c2 l2 s w ⟨by omega, by omega⟩ ⟨by omega, by omega⟩ (by omega) hr2 hc2 hs
end Go.Proofs.Ytgflafifemhmgaa.Hand
namespace Go.Proofs.Ytgflafifemhmgaa.Hand
open Go.RowKit Go.Proofs.YtgflafifemhmgaaW.PrintWords
theorem cut_cap {P : Program} (t e : TypeId) (kh : IntKind) {i : TypeInfo} (ht : P.underlying t = some (.slice e)) (hi : P.info? e = some i) (A : Option Addr) (n c : Nat) (j : Int) (h0 : 0 ≤ j) (hm : j ≤ n) (hc : n ≤ c) :
    ∀ W : World, (Instr.slice t (.slice A n c) none (some (.int kh j)) (some (.int kh j))).run P W = .ok (.slice A j.toNat j.toNat) W := by
  intro W
  have hel : P.elem t = e := by simp [Program.elem, ht]
  have hu : P.underlying t = some (.slice (P.elem t)) := by rw [hel]; exact ht
  have ha : (A.map fun x => x.add 0) = A := by cases A <;> simp [Addr.add]
  have h2 : j ≤ (c : Int) := by omega
  have h3 : j ≤ (j.toNat : Int) := by omega
  simp [Instr.slice, run_underlying hu, Instr.sliceBounds, run_sliceBound, h0, h2, hel, sizeOf, typeInfo, hi, Result.andThen, ha]
  rw [run_sliceBound W kh j j.toNat _ h0 h3]
end Go.Proofs.Ytgflafifemhmgaa.Hand
