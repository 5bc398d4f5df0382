/- Written by a program of this session (wip/tools/myprint.py), over the kit's print: the functions that Ck reaches, and their contracts. -/
import Derived.Test.YtlbcnkmojoinfaaMCkx0
import Derived.Test.YtlbcnkmojoinfaaMCkx4
import Derived.Test.YtlbcnkmojoinfaaMCkx5
namespace Go.Proofs.Ytlbcnkmojoinfaa.MCk
open Go.RowKit Go.Proofs.YtlbcnkmojoinfaaW.PrintWords Go.Proofs.YtlbcnkmojoinfaaW.PrintLast Go.Proofs.YtlbcnkmojoinfaaW.PrintMore
attribute [local go_sem] max2_int min2_int max_two min_two max_three min_three max_four min_four   -- for this text's walks alone
set_option linter.unusedVariables false
set_option linter.unusedSimpArgs false

/-! ### intarsiaref17_Cond: function 14 -/
mutual
def intarsiaref17_Cond.l0 : Nat → List ByteArray → List ByteArray → List ByteArray → Int → Bool → ByteArray → List (S57) → ByteArray → List ByteArray → Option (List ByteArray × Int)
  | 0, _, _, _, _, _, _, _, _, _ => none
  | k + 1, x2, x10, x11, x12, x172000, x172001, x172002, x178000, x178001 => if x12 < (x172002.length : Int) then (if 0 ≤ x12 then ((intarsiaref17_Attr.f k x178000 x178001 ((rd_T57 x172002 x12).f0)).bind fun bt189 => (if bt189.2 = true then ((intarsiaref17_In.f k x11 ((rd_T57 x172002 x12).f0)).bind fun t191 => (if t191 = true then (some (([] : List ByteArray), 7)) else (if x11.length < 8796093022208 then (intarsiaref17_Cond.l1 k x2 x10 (x11 ++ [(rd_T57 x172002 x12).f0]) x12 0 x172000 x172001 x172002 x178000 x178001 ((rd_T57 x172002 x12).f0) ((rd_T57 x172002 x12).f1) ((rd_T57 x172002 x12).f2)) else (none)))) else (some (([] : List ByteArray), 19)))) else (none)) else (if x172000 = true then ((some (([] : List ByteArray) : List ByteArray)).bind fun y181 => (if y181.length + x2.length < 8796093022208 then (some ((y181 ++ x2), 0)) else (none))) else (some (x10, 0)))
def intarsiaref17_Cond.l1 : Nat → List ByteArray → List ByteArray → List ByteArray → Int → Int → Bool → ByteArray → List (S57) → ByteArray → List ByteArray → ByteArray → List (S59) → List (S61) → Option (List ByteArray × Int)
  | 0, _, _, _, _, _, _, _, _, _, _, _, _, _ => none
  | k + 1, x2, x10, x11, x12, x16, x172000, x172001, x172002, x178000, x178001, x189000, x189001, x189002 => if x16 < (x189002.length : Int) then (if 0 ≤ x16 then (if ((rd_T61 x189002 x16).f1).toList = ([] : List UInt8) then (intarsiaref17_Cond.j2 k x2 x10 x11 x12 x16 true x172000 x172001 x172002 x178000 x178001 x189000 x189001 x189002 ((rd_T61 x189002 x16).f0) ((rd_T61 x189002 x16).f1) ((rd_T61 x189002 x16).f2.f0) ((rd_T61 x189002 x16).f2.f1) ((rd_T61 x189002 x16).f2.f2)) else ((intarsiaref17_In.f k x10 ((rd_T61 x189002 x16).f1)).bind fun t197 => (intarsiaref17_Cond.j2 k x2 x10 x11 x12 x16 t197 x172000 x172001 x172002 x178000 x178001 x189000 x189001 x189002 ((rd_T61 x189002 x16).f0) ((rd_T61 x189002 x16).f1) ((rd_T61 x189002 x16).f2.f0) ((rd_T61 x189002 x16).f2.f1) ((rd_T61 x189002 x16).f2.f2)))) else (none)) else (intarsiaref17_Cond.l0 k x2 x10 x11 (wrap64 (x12 + 1)) x172000 x172001 x172002 x178000 x178001)
def intarsiaref17_Cond.j2 : Nat → List ByteArray → List ByteArray → List ByteArray → Int → Int → Bool → Bool → ByteArray → List (S57) → ByteArray → List ByteArray → ByteArray → List (S59) → List (S61) → Int → ByteArray → Int → Int → ByteArray → Option (List ByteArray × Int)
  | 0, _, _, _, _, _, _, _, _, _, _, _, _, _, _, _, _, _, _, _ => none
  | k + 1, x2, x10, x11, x12, x16, x74, x172000, x172001, x172002, x178000, x178001, x189000, x189001, x189002, x197000, x197001, x197002, x197003, x197004 => if x74 = true then (intarsiaref17_Cond.l1 k x2 x10 x11 x12 (wrap64 (x16 + 1)) x172000 x172001 x172002 x178000 x178001 x189000 x189001 x189002) else (if x197000 = 0 then (if x10.length < 8796093022208 then (intarsiaref17_Cond.l1 k x2 (x10 ++ [x197001]) x11 x12 (wrap64 (x16 + 1)) x172000 x172001 x172002 x178000 x178001 x189000 x189001 x189002) else (none)) else (some (([] : List ByteArray), 20)))
end
def intarsiaref17_Cond.f (k : Nat) (l0 : List (S30)) (a1_0 : Bool) (a1_1 : ByteArray) (l1_2 : List (S57)) (l2 : List ByteArray) : Option (List ByteArray × Int) := (intarsiaref17_Find.f k l0 a1_1).bind fun bt172 => (if bt172.2.2 = true then (if ([] : List ByteArray).length + l2.length < 8796093022208 then (intarsiaref17_Cond.l0 k l2 (([] : List ByteArray) ++ l2) ([] : List ByteArray) 0 a1_0 a1_1 l1_2 bt172.1 bt172.2.1) else (none)) else (some (([] : List ByteArray), 18)))
theorem intarsiaref17_Cond.mono_l : ∀ k, (∀ y0 y1 y2 y3 y4 y5 y6 y7 y8, LeO (intarsiaref17_Cond.l0 k y0 y1 y2 y3 y4 y5 y6 y7 y8) (intarsiaref17_Cond.l0 (k + 1) y0 y1 y2 y3 y4 y5 y6 y7 y8)) ∧ (∀ y0 y1 y2 y3 y4 y5 y6 y7 y8 y9 y10 y11 y12, LeO (intarsiaref17_Cond.l1 k y0 y1 y2 y3 y4 y5 y6 y7 y8 y9 y10 y11 y12) (intarsiaref17_Cond.l1 (k + 1) y0 y1 y2 y3 y4 y5 y6 y7 y8 y9 y10 y11 y12)) ∧ (∀ y0 y1 y2 y3 y4 y5 y6 y7 y8 y9 y10 y11 y12 y13 y14 y15 y16 y17 y18, LeO (intarsiaref17_Cond.j2 k y0 y1 y2 y3 y4 y5 y6 y7 y8 y9 y10 y11 y12 y13 y14 y15 y16 y17 y18) (intarsiaref17_Cond.j2 (k + 1) y0 y1 y2 y3 y4 y5 y6 y7 y8 y9 y10 y11 y12 y13 y14 y15 y16 y17 y18))
  | 0 => ⟨fun _ _ _ _ _ _ _ _ _ r h => by simp [intarsiaref17_Cond.l0] at h, fun _ _ _ _ _ _ _ _ _ _ _ _ _ r h => by simp [intarsiaref17_Cond.l1] at h, fun _ _ _ _ _ _ _ _ _ _ _ _ _ _ _ _ _ _ _ r h => by simp [intarsiaref17_Cond.j2] at h⟩
  | k + 1 => by
    obtain ⟨ih0, ih1, ih2⟩ := intarsiaref17_Cond.mono_l k
    refine ⟨?_, ?_, ?_⟩
    · intro y0 y1 y2 y3 y4 y5 y6 y7 y8
      unfold intarsiaref17_Cond.l0
      repeat' first
      | (with_reducible exact ih0 _ _ _ _ _ _ _ _ _)
      | (with_reducible exact ih1 _ _ _ _ _ _ _ _ _ _ _ _ _)
      | (with_reducible exact ih2 _ _ _ _ _ _ _ _ _ _ _ _ _ _ _ _ _ _ _)
      | (with_reducible exact intarsiaref17_Attr.mono _ _ _ _)
      | (with_reducible exact intarsiaref17_Find.mono _ _ _)
      | (with_reducible exact intarsiaref17_In.mono _ _ _)
      | (with_reducible exact LeO.refl _)
      | (with_reducible exact LeO.none _)
      | (with_reducible refine LeO.ite ?_ ?_)
      | (with_reducible refine LeO.bind ?_ (fun _ => ?_))
      | exact ih0 _ _ _ _ _ _ _ _ _
      | exact ih1 _ _ _ _ _ _ _ _ _ _ _ _ _
      | exact ih2 _ _ _ _ _ _ _ _ _ _ _ _ _ _ _ _ _ _ _
      | exact intarsiaref17_Attr.mono _ _ _ _
      | exact intarsiaref17_Find.mono _ _ _
      | exact intarsiaref17_In.mono _ _ _
      | exact LeO.none _
      | refine LeO.ite ?_ ?_
      | refine LeO.bind ?_ (fun _ => ?_)
    · intro y0 y1 y2 y3 y4 y5 y6 y7 y8 y9 y10 y11 y12
      unfold intarsiaref17_Cond.l1
      repeat' first
      | (with_reducible exact ih0 _ _ _ _ _ _ _ _ _)
      | (with_reducible exact ih1 _ _ _ _ _ _ _ _ _ _ _ _ _)
      | (with_reducible exact ih2 _ _ _ _ _ _ _ _ _ _ _ _ _ _ _ _ _ _ _)
      | (with_reducible exact intarsiaref17_Attr.mono _ _ _ _)
      | (with_reducible exact intarsiaref17_Find.mono _ _ _)
      | (with_reducible exact intarsiaref17_In.mono _ _ _)
      | (with_reducible exact LeO.refl _)
      | (with_reducible exact LeO.none _)
      | (with_reducible refine LeO.ite ?_ ?_)
      | (with_reducible refine LeO.bind ?_ (fun _ => ?_))
      | exact ih0 _ _ _ _ _ _ _ _ _
      | exact ih1 _ _ _ _ _ _ _ _ _ _ _ _ _
      | exact ih2 _ _ _ _ _ _ _ _ _ _ _ _ _ _ _ _ _ _ _
      | exact intarsiaref17_Attr.mono _ _ _ _
      | exact intarsiaref17_Find.mono _ _ _
      | exact intarsiaref17_In.mono _ _ _
      | exact LeO.none _
      | refine LeO.ite ?_ ?_
      | refine LeO.bind ?_ (fun _ => ?_)
    · intro y0 y1 y2 y3 y4 y5 y6 y7 y8 y9 y10 y11 y12 y13 y14 y15 y16 y17 y18
      unfold intarsiaref17_Cond.j2
      repeat' first
      | (with_reducible exact ih0 _ _ _ _ _ _ _ _ _)
      | (with_reducible exact ih1 _ _ _ _ _ _ _ _ _ _ _ _ _)
      | (with_reducible exact ih2 _ _ _ _ _ _ _ _ _ _ _ _ _ _ _ _ _ _ _)
      | (with_reducible exact intarsiaref17_Attr.mono _ _ _ _)
      | (with_reducible exact intarsiaref17_Find.mono _ _ _)
      | (with_reducible exact intarsiaref17_In.mono _ _ _)
      | (with_reducible exact LeO.refl _)
      | (with_reducible exact LeO.none _)
      | (with_reducible refine LeO.ite ?_ ?_)
      | (with_reducible refine LeO.bind ?_ (fun _ => ?_))
      | exact ih0 _ _ _ _ _ _ _ _ _
      | exact ih1 _ _ _ _ _ _ _ _ _ _ _ _ _
      | exact ih2 _ _ _ _ _ _ _ _ _ _ _ _ _ _ _ _ _ _ _
      | exact intarsiaref17_Attr.mono _ _ _ _
      | exact intarsiaref17_Find.mono _ _ _
      | exact intarsiaref17_In.mono _ _ _
      | exact LeO.none _
      | refine LeO.ite ?_ ?_
      | refine LeO.bind ?_ (fun _ => ?_)
theorem intarsiaref17_Cond.mono : ∀ a0 a1 a2 a3 a4 k, LeO (intarsiaref17_Cond.f k a0 a1 a2 a3 a4) (intarsiaref17_Cond.f (k + 1) a0 a1 a2 a3 a4) := by
  intro a0 a1 a2 a3 a4 k
  obtain ⟨ih0, ih1, ih2⟩ := intarsiaref17_Cond.mono_l k
  unfold intarsiaref17_Cond.f
  repeat' first
      | (with_reducible exact ih0 _ _ _ _ _ _ _ _ _)
      | (with_reducible exact ih1 _ _ _ _ _ _ _ _ _ _ _ _ _)
      | (with_reducible exact ih2 _ _ _ _ _ _ _ _ _ _ _ _ _ _ _ _ _ _ _)
      | (with_reducible exact intarsiaref17_Attr.mono _ _ _ _)
      | (with_reducible exact intarsiaref17_Find.mono _ _ _)
      | (with_reducible exact intarsiaref17_In.mono _ _ _)
      | (with_reducible exact LeO.refl _)
      | (with_reducible exact LeO.none _)
      | (with_reducible refine LeO.ite ?_ ?_)
      | (with_reducible refine LeO.bind ?_ (fun _ => ?_))
      | exact ih0 _ _ _ _ _ _ _ _ _
      | exact ih1 _ _ _ _ _ _ _ _ _ _ _ _ _
      | exact ih2 _ _ _ _ _ _ _ _ _ _ _ _ _ _ _ _ _ _ _
      | exact intarsiaref17_Attr.mono _ _ _ _
      | exact intarsiaref17_Find.mono _ _ _
      | exact intarsiaref17_In.mono _ _ _
      | exact LeO.none _
      | refine LeO.ite ?_ ?_
      | refine LeO.bind ?_ (fun _ => ?_)
set_option maxHeartbeats 8000000 in
set_option maxRecDepth 100000 in
theorem intarsiaref17_Cond.calls (k : Nat) (A0 : Option Addr) (c0 : Nat) (l0 : List (S30)) (a1_0 : Bool) (a1_1 : ByteArray) (A1_2 : Option Addr) (c1_2 : Nat) (l1_2 : List (S57)) (A2 : Option Addr) (c2 : Nat) (l2 : List ByteArray) (r1 : List ByteArray) (r2 : Int) (w : World) (hr0 : Kd.C k30 w A0 l0.length l0) (hc0 : l0.length ≤ c0) (hr1_2 : Kd.C k57 w A1_2 l1_2.length l1_2) (hc1_2 : l1_2.length ≤ c1_2) (hr2 : Kd.C Kd.string w A2 l2.length l2) (hc2 : l2.length ≤ c2) (h : intarsiaref17_Cond.f k l0 a1_0 a1_1 l1_2 l2 = some (r1, r2)) :
    Calls Try.prog 14 #[.slice A0 l0.length c0, .agg #[.bool a1_0, .string a1_1, .slice A1_2 l1_2.length c1_2], .slice A2 l2.length c2] w fun e w' => ∃ v0_ : Value, e = .returned (.tuple #[v0_, .int .i64 r2]) ∧ Kd.R Kd.string 9 w' w.heap.size (fun _ => True) v0_ r1 ∧ Below w.heap.size w w' := by
  have hu44 := Try.underlying44
  have hu30 := Try.underlying30
  have hu57 := Try.underlying57
  have hu61 := Try.underlying61
  have HR0 := Aside0.mk hr0
  have HC0 := Aside0.mk hc0
  clear hr0 hc0
  have HR1_2 := Aside0.mk hr1_2
  have HC1_2 := Aside0.mk hc1_2
  clear hr1_2 hc1_2
  have HR2 := Aside0.mk hr2
  have HC2 := Aside0.mk hc2
  clear hr2 hc2
  have HB := Aside0.mk (Below.refl w.heap.size w)
  have H : ((intarsiaref17_Find.f k l0 a1_1).bind fun bt172 => (if bt172.2.2 = true then (if ([] : List ByteArray).length + l2.length < 8796093022208 then (intarsiaref17_Cond.l0 k l2 (([] : List ByteArray) ++ l2) ([] : List ByteArray) 0 a1_0 a1_1 l1_2 bt172.1 bt172.2.1) else (none)) else (some (([] : List ByteArray), 18)))) = some (r1, r2) := h
  clear h
  replace H := Option.bind_eq_some_iff.mp H
  obtain ⟨⟨t172, t173, t176⟩, A40, H⟩ := H
  replace H : (if t176 = true then (if ([] : List ByteArray).length + l2.length < 8796093022208 then (intarsiaref17_Cond.l0 k l2 (([] : List ByteArray) ++ l2) ([] : List ByteArray) 0 a1_0 a1_1 l1_2 t172 t173) else (none)) else (some (([] : List ByteArray), 18))) = some (r1, r2) := H
  have A4 := Aside0.mk A40
  clear A40
  by_cases c5 : t176 = true
  · subst c5
    have H1 : (if ([] : List ByteArray).length + l2.length < 8796093022208 then (intarsiaref17_Cond.l0 k l2 (([] : List ByteArray) ++ l2) ([] : List ByteArray) 0 a1_0 a1_1 l1_2 t172 t173) else (none)) = some (r1, r2) := by rw [if_pos rfl] at H; exact H
    clear H
    have H := H1
    clear H1
    by_cases c6 : ([] : List ByteArray).length + l2.length < 8796093022208
    · rw [if_pos c6] at H
      have LMc6 := Aside0.mk c6
      clear c6
      obtain ⟨y178, hy178⟩ : ∃ y_ : List ByteArray, y_ = (([] : List ByteArray) ++ l2) := ⟨_, rfl⟩
      replace H : (intarsiaref17_Cond.l0 k l2 y178 ([] : List ByteArray) 0 a1_0 a1_1 l1_2 t172 t173) = some (r1, r2) := by first | (rw [hy178]; with_reducible exact H) | (have H2_ := (Option.bind_some _ _).symm.trans H; rw [hy178]; with_reducible exact H2_) | (have H2_ := (Option.bind_some _ _).symm.trans H; with_reducible exact H2_) | with_reducible exact H | (rw [hy178]; exact H) | exact H
      have Ny178 := Aside0.mk hy178
      clear hy178
      have H' := Aside0.mk H
      clear H
      go_enter Try.func14, Try.ntmps14
      go_wp2_with (first | ((with_reducible refine gate_dst (N := 4) rfl ?_); refine box_event ?hg (N := 4) ?hd (cs := #[.bool a1_0, .string a1_1, .slice A1_2 l1_2.length c1_2]) (t := 44) ?hr ?_; (case hd => rfl); (case hg => rfl); (case hr => first | (go_simp; done) | (go_simp; rfl)); intro gb171 hg w7 hbox hb; have n0_ := Aside0.mk (below_step (by repeat (first | (with_reducible first | exact HB.out | apply below_alloc | apply pw_below_drewN | apply below_drew1) | exact HB.out)) hb); have n1_ := Aside0.mk (hbox); have n2_ := Aside0.mk ((by rw [hg]; exact (below_size (by repeat (first | (with_reducible first | exact HB.out | apply below_alloc | apply pw_below_drewN | apply below_drew1) | exact HB.out))) : w.heap.size ≤ gb171)); have n3_ := Aside0.mk ((by rw [hg]; exact (below_size (by repeat (first | (with_reducible first | exact HB.out | apply below_alloc | apply pw_below_drewN | apply below_drew1) | exact HB.out))) : w.heap.size ≤ gb171)); clear HB; have HB := n0_; have BK171 := n1_; have GW171 := n2_; have GE171 := n3_; clear n0_ n1_ n2_ n3_; clear hb hbox hg; have hcz8_0 : w7.cell? ⟨gb171, 0, none⟩ = some (.bool a1_0) := (blk_cell BK171.out 0).trans rfl; have hcz8_1 : w7.cell? ⟨gb171, 1, none⟩ = some (.string a1_1) := (blk_cell BK171.out 1).trans rfl; have hcz8_2 : w7.cell? ⟨gb171, 2, none⟩ = some (.slice A1_2 l1_2.length c1_2) := (blk_cell BK171.out 2).trans rfl; have hfz8_0 := blk_frozen BK171.out 0; have hfz8_1 := blk_frozen BK171.out 1; have hfz8_2 := blk_frozen BK171.out 2) | ((with_reducible refine gate_callee (f := 10) rfl ?_); refine goesL_ (some 22) rfl rfl Try.func10 (by kernel_rfl) rfl #[.slice A0 l0.length c0, .string a1_1] rfl (by (try simp only [List.map_toArray, List.map_cons, List.map_nil]); first | done | rfl | (simp only [List.length_drop, List.length_take]; rfl)) ?_; (with_reducible refine (intarsiaref17_Find.calls k (fun k_ => k_ < w.heap.size) _ _ l0 a1_1 t172 t173 true _ ?side1 A4.out).mono ?_); (case side1 => exact Kd.V_mk HC0.out (Kd.F_below (Kd.C_F k30_heap HR0.out) (by repeat (first | (with_reducible first | exact HB.out | apply below_alloc | apply pw_below_drewN | apply below_drew1 | refine below_set ?_ GE171.out) | exact HB.out)))); rintro e w9 ⟨v174, rfl, ho0, hb⟩; refine ⟨_, rfl, ?_⟩; have n0_ := Aside0.mk (Kd.V_lower (Kd.V_mono (ok' := fun k_ => k_ ≠ gb171) ho0 (fun k_ hk_ => Or.elim hk_ (fun hs_ => fun e_ => Nat.not_le.2 hs_ (by rw [e_]; exact GW171.out)) (fun hn_ => (Kd.freshB (g := gb171) (o := .cells #[.bool a1_0, .string a1_1, .slice A1_2 l1_2.length c1_2] 44 (0, 0)) (by (with_reducible repeat (first | refine blk_drewN ?_ _ | refine blk_drew ?_ | refine blk_alloc ?_ _)); exact BK171.out) k_ hn_)))) (below_size (by repeat (first | (with_reducible first | exact HB.out | apply below_alloc | apply pw_below_drewN | apply below_drew1 | refine below_set ?_ GE171.out) | exact HB.out)))); have n1_ := Aside0.mk (blk_below (g := gb171) (o := .cells #[.bool a1_0, .string a1_1, .slice A1_2 l1_2.length c1_2] 44 (0, 0)) (by (with_reducible repeat (first | refine blk_drewN ?_ _ | refine blk_drew ?_ | refine blk_alloc ?_ _)); exact BK171.out) hb); have n2_ := Aside0.mk (below_step (by repeat (first | (with_reducible first | exact HB.out | apply below_alloc | apply pw_below_drewN | apply below_drew1 | refine below_set ?_ GE171.out) | exact HB.out)) hb); clear BK171; clear HB; have HO175 := n0_; have BK171 := n1_; have HB := n2_; clear n0_ n1_ n2_; (try clear hb); (try clear hb2); (try clear hk); (try clear hi); (try clear ho0)) | ((with_reducible refine gate_dst (N := 8) rfl ?_); refine box_event ?hg (N := 8) ?hd (cs := #[.string (⟨#[]⟩ : ByteArray), .slice none 0 0]) (t := 30) ?hr ?_; (case hd => rfl); (case hg => rfl); (case hr => first | (go_simp; done) | (go_simp; rfl)); intro gb177 hg w10 hbox hb; have n0_ := Aside0.mk (Kd.V_below (Kd.V_elderB (by (with_reducible repeat (first | apply Kd.V_alloc | apply Kd.V_drewN | apply Kd.V_drew)); exact HO175.out) gb177 (Nat.le_of_eq hg.symm)) hb); have n1_ := Aside0.mk (blk_below (g := gb171) (o := .cells #[.bool a1_0, .string a1_1, .slice A1_2 l1_2.length c1_2] 44 (0, 0)) (by (with_reducible repeat (first | refine blk_drewN ?_ _ | refine blk_drew ?_ | refine blk_alloc ?_ _)); exact BK171.out) hb); have n2_ := Aside0.mk (below_step (by repeat (first | (with_reducible first | exact HB.out | apply below_alloc | apply pw_below_drewN | apply below_drew1 | refine below_set ?_ GE171.out) | exact HB.out)) hb); have n3_ := Aside0.mk (hbox); have n4_ := Aside0.mk ((by rw [hg]; exact (below_size (by repeat (first | (with_reducible first | exact HB.out | apply below_alloc | apply pw_below_drewN | apply below_drew1 | refine below_set ?_ GE171.out) | exact HB.out))) : w.heap.size ≤ gb177)); have n5_ := Aside0.mk ((by rw [hg]; exact (below_size (by repeat (first | (with_reducible first | exact HB.out | apply below_alloc | apply pw_below_drewN | apply below_drew1 | refine below_set ?_ GE171.out) | exact HB.out))) : w.heap.size ≤ gb177)); have n6_ := Aside0.mk ((by rw [hg]; exact Nat.ne_of_lt (blk_lt (g := gb171) (o := .cells #[.bool a1_0, .string a1_1, .slice A1_2 l1_2.length c1_2] 44 (0, 0)) (by (with_reducible repeat (first | refine blk_drewN ?_ _ | refine blk_drew ?_ | refine blk_alloc ?_ _)); exact BK171.out)) : gb171 ≠ gb177)); have n7_ := Aside0.mk ((by rw [hg]; exact Nat.ne_of_gt (blk_lt (g := gb171) (o := .cells #[.bool a1_0, .string a1_1, .slice A1_2 l1_2.length c1_2] 44 (0, 0)) (by (with_reducible repeat (first | refine blk_drewN ?_ _ | refine blk_drew ?_ | refine blk_alloc ?_ _)); exact BK171.out)) : gb177 ≠ gb171)); clear HO175; clear BK171; clear HB; have HO175 := n0_; have BK171 := n1_; have HB := n2_; have BK177 := n3_; have GW177 := n4_; have GE177 := n5_; have NB171_177 := n6_; have NB177_171 := n7_; clear n0_ n1_ n2_ n3_ n4_ n5_ n6_ n7_; clear hb hbox hg; have hnb11 := NB177_171.out; have hnc11 := NB171_177.out; have hcz12_0 : w10.cell? ⟨gb177, 0, none⟩ = some (.string (⟨#[]⟩ : ByteArray)) := (blk_cell BK177.out 0).trans rfl; have hcz12_1 : w10.cell? ⟨gb177, 1, none⟩ = some (.slice none 0 0) := (blk_cell BK177.out 1).trans rfl; have hfz12_0 := blk_frozen BK177.out 0; have hfz12_1 := blk_frozen BK177.out 1; obtain ⟨Ao13, co13, eo13⟩ := Kd.V_slice HO175.out; subst eo13) | ((with_reducible refine gate_builtin (b := .append) (xs := #[.tmp 27, .tmp 28]) rfl ?_); at_builtin; refine Kd.R_append_rows Kd.string (w0 := w) w.heap.size rfl (.tmp 27) (.tmp 28) 26 9 (.string ⟨#[]⟩) 16 rfl Try.underlying26 info9 rfl (by decide) (by omega) (.slice none 0 0) ([] : List ByteArray) l2 _ _ _ (fun _ => True) (fun _ => False) rfl rfl ?aO ?aR (fun _ _ h => h) (fun _ h => h.elim) ?aF ?aB ?aS ?aL ?_; (case aR => exact Kd.C_below HR2.out (by repeat (first | (with_reducible first | exact HB.out | apply below_alloc | apply pw_below_drewN | apply below_drew1 | refine below_set ?_ GE171.out | refine below_set ?_ GE177.out) | exact HB.out))); (case aB => exact (by repeat (first | (with_reducible first | exact HB.out | apply below_alloc | apply pw_below_drewN | apply below_drew1 | refine below_set ?_ GE171.out | refine below_set ?_ GE177.out) | exact HB.out))); (case aF => exact (fun _ _ => trivial)); (case aO => exact ((Kd.R_nil _ _ _ _ (fun _ => True)))); (case aS => exact (below_size (by repeat (first | (with_reducible first | exact HB.out | apply below_alloc | apply pw_below_drewN | apply below_drew1 | refine below_set ?_ GE171.out | refine below_set ?_ GE177.out) | exact HB.out)))); (case aL => have := LMc6.out; omega); intro v179 w14 ho hb hg hat; rw [← Ny178.out] at ho; have n0_ := Aside0.mk (blk_grown (g := gb171) (o := .cells #[.bool a1_0, .string a1_1, .slice A1_2 l1_2.length c1_2] 44 (0, 0)) (by (with_reducible repeat (first | refine blk_drewN ?_ _ | refine blk_drew ?_ | refine blk_alloc ?_ _)); refine blk_far ?_ NB171_177.out _; (with_reducible repeat (first | refine blk_drewN ?_ _ | refine blk_drew ?_ | refine blk_alloc ?_ _)); refine blk_far ?_ NB171_177.out _; (with_reducible repeat (first | refine blk_drewN ?_ _ | refine blk_drew ?_ | refine blk_alloc ?_ _)); exact BK171.out) hg (by simp [Value.ownBlock])); have n1_ := Aside0.mk (Kd.V_afterv (Kd.V_apart_nil (by (with_reducible repeat (first | apply Kd.V_alloc | apply Kd.V_drewN | apply Kd.V_drew)); exact (Kd.V_mono (Kd.V_far (p := ⟨gb177, 1, none⟩) (Kd.V_far (p := ⟨gb177, 0, none⟩) (Kd.V_mono HO175.out (fun k_ hk => (⟨hk, hk.2⟩ : _ ∧ k_ ≠ gb177))) (fun _ hk => hk.2) (.string t172)) (fun _ hk => hk.2) (.slice Ao13 t173.length co13)) (fun _ h_ => h_.1)))) hg hat); have n2_ := Aside0.mk (blk_grown (g := gb177) (o := .cells #[.string t172, .slice Ao13 t173.length co13] 30 (0, 0)) (by (with_reducible repeat (first | refine blk_drewN ?_ _ | refine blk_drew ?_ | refine blk_alloc ?_ _)); refine blk_put (cs := #[.string t172, .slice none 0 0]) ?_ 1 _ rfl; (with_reducible repeat (first | refine blk_drewN ?_ _ | refine blk_drew ?_ | refine blk_alloc ?_ _)); refine blk_put (cs := #[.string (⟨#[]⟩ : ByteArray), .slice none 0 0]) ?_ 0 _ rfl; (with_reducible repeat (first | refine blk_drewN ?_ _ | refine blk_drew ?_ | refine blk_alloc ?_ _)); exact BK177.out) hg (by simp [Value.ownBlock])); have n3_ := Aside0.mk (hb); have n4_ := Aside0.mk (ho); clear BK171; clear HO175; clear BK177; clear HB; have BK171 := n0_; have HO175 := n1_; have BK177 := n2_; have HB := n3_; have HO180 := n4_; clear n0_ n1_ n2_ n3_ n4_; clear ho hb hg hat))
      go_loopg [10, 11, 12] k (fun kq v10 v11 v12 w' => ∃ (x10_1 : List ByteArray) (x11_1 : List ByteArray) (x12_1 : Int), v12 = .int .i64 x12_1 ∧ Aside0 (intarsiaref17_Cond.l0 kq l2 x10_1 x11_1 x12_1 a1_0 a1_1 l1_2 t172 t173 = some (r1, r2)) ∧ Aside0 (kq ≤ k) ∧ Aside0 (Kd.R Kd.string 9 w' w.heap.size (fun k_ => some k_ ≠ (v11 : Value).ownBlock) v10 x10_1) ∧ Aside0 (Kd.R Kd.string 9 w' w.heap.size (fun k_ => some k_ ≠ (v10 : Value).ownBlock) v11 x11_1) ∧ Aside0 (Kd.V Kd.string 9 w' w.heap.size (fun k_ => some k_ ≠ (v10 : Value).ownBlock ∧ some k_ ≠ (v11 : Value).ownBlock ∧ k_ ≠ gb171 ∧ k_ ≠ gb177) (.slice Ao13 t173.length co13) t173) ∧ Aside0 (w'.heap[gb171]? = some (.cells #[.bool a1_0, .string a1_1, (.slice A1_2 l1_2.length c1_2)] 44 (0, 0))) ∧ Aside0 (w'.heap[gb177]? = some (.cells #[.string t172, (.slice Ao13 t173.length co13)] 30 (0, 0))) ∧ Aside0 (Below w.heap.size w w'))
      case atStart => exact ⟨(y178), (([] : List ByteArray)), (0), (by first | rfl | (simp; done) | (simp [*]; done)), H', ⟨Nat.le_refl _⟩, ⟨by (with_reducible repeat (first | apply Kd.R_alloc | apply Kd.R_drewN | apply Kd.R_drew)); exact Kd.R_mono HO180.out (fun _ hk => (by simp [Value.ownBlock]))⟩, ⟨by first | exact Kd.R_nil _ _ _ _ _ | exact Kd.N_nil _ _ _ _ _ | exact Kd.V_nil _ _ _ _ _ | exact Kd.Q_nil _ _ _ _ _ | exact Kd.S_nil _ _ _ _ _⟩, ⟨by (with_reducible repeat (first | apply Kd.V_alloc | apply Kd.V_drewN | apply Kd.V_drew)); exact Kd.V_mono HO175.out (fun _ hk => ⟨hk.2, ⟨(by simp [Value.ownBlock]), ⟨hk.1.1, hk.1.2⟩⟩⟩)⟩, ⟨by (with_reducible repeat (first | refine blk_drewN ?_ _ | refine blk_drew ?_ | refine blk_alloc ?_ _)); exact BK171.out⟩, ⟨by (with_reducible repeat (first | refine blk_drewN ?_ _ | refine blk_drew ?_ | refine blk_alloc ?_ _)); exact BK177.out⟩, ⟨by repeat (first | (with_reducible first | exact HB.out | apply below_alloc | apply pw_below_drewN | apply below_drew1 | refine below_set ?_ GE171.out | refine below_set ?_ GE177.out) | exact HB.out)⟩⟩
      case round =>
        clear H'
        try clear c1
        try clear c2
        try clear p2
        try clear c5
        try clear c6
        try clear c10
        try clear c11
        try clear c14
        try clear hcz12_0
        try clear hcz12_1
        try clear hcz8_0
        try clear hcz8_1
        try clear hcz8_2
        try clear hfz12_0
        try clear hfz12_1
        try clear hfz8_0
        try clear hfz8_1
        try clear hfz8_2
        obtain ⟨x10_1, x11_1, x12_1, rfl, HA, HK1, HO_10, HO_11, HO_178001, BK171, BK177, HB⟩ := hrel
        cases gk with
        | zero => exact absurd HA.out (by simp [intarsiaref17_Cond.l0])
        | succ k1 =>
          have H := HA.out
          clear HA
          simp only [intarsiaref17_Cond.l0] at H
          by_cases c15 : x12_1 < (l1_2.length : Int)
          · rw [if_pos c15] at H
            have c15b0 : decide (x12_1 < (l1_2.length : Int)) = true := decide_eq_true c15
            clear c15
            by_cases c16 : 0 ≤ x12_1
            · rw [if_pos c16] at H
              have c16b0 : decide (0 ≤ x12_1) = true := decide_eq_true c16
              clear c16
              replace H := Option.bind_eq_some_iff.mp H
              obtain ⟨⟨t189, t190⟩, A170, H⟩ := H
              replace H : (if t190 = true then ((intarsiaref17_In.f k1 x11_1 ((rd_T57 l1_2 x12_1).f0)).bind fun t191 => (if t191 = true then (some (([] : List ByteArray), 7)) else (if x11_1.length < 8796093022208 then (intarsiaref17_Cond.l1 k1 l2 x10_1 (x11_1 ++ [(rd_T57 l1_2 x12_1).f0]) x12_1 0 a1_0 a1_1 l1_2 t172 t173 ((rd_T57 l1_2 x12_1).f0) ((rd_T57 l1_2 x12_1).f1) ((rd_T57 l1_2 x12_1).f2)) else (none)))) else (some (([] : List ByteArray), 19))) = some (r1, r2) := H
              have A17 := Aside0.mk A170
              clear A170
              by_cases c18 : t190 = true
              · subst c18
                have H1 : ((intarsiaref17_In.f k1 x11_1 ((rd_T57 l1_2 x12_1).f0)).bind fun t191 => (if t191 = true then (some (([] : List ByteArray), 7)) else (if x11_1.length < 8796093022208 then (intarsiaref17_Cond.l1 k1 l2 x10_1 (x11_1 ++ [(rd_T57 l1_2 x12_1).f0]) x12_1 0 a1_0 a1_1 l1_2 t172 t173 ((rd_T57 l1_2 x12_1).f0) ((rd_T57 l1_2 x12_1).f1) ((rd_T57 l1_2 x12_1).f2)) else (none)))) = some (r1, r2) := by rw [if_pos rfl] at H; exact H
                clear H
                have H := H1
                clear H1
                replace H := Option.bind_eq_some_iff.mp H
                obtain ⟨t191, A190, H⟩ := H
                replace H : (if t191 = true then (some (([] : List ByteArray), 7)) else (if x11_1.length < 8796093022208 then (intarsiaref17_Cond.l1 k1 l2 x10_1 (x11_1 ++ [(rd_T57 l1_2 x12_1).f0]) x12_1 0 a1_0 a1_1 l1_2 t172 t173 ((rd_T57 l1_2 x12_1).f0) ((rd_T57 l1_2 x12_1).f1) ((rd_T57 l1_2 x12_1).f2)) else (none))) = some (r1, r2) := H
                have A19 := Aside0.mk A190
                clear A190
                by_cases c20 : t191 = true
                · subst c20
                  have H1 : (some (([] : List ByteArray), 7)) = some (r1, r2) := by rw [if_pos rfl] at H; exact H
                  clear H
                  have H := H1
                  clear H1
                  simp only [Option.some.injEq, Prod.mk.injEq] at H
                  obtain ⟨rfl, rfl⟩ := H
                  have hnb21 := NB171_177.out
                  have hnc21 := NB177_171.out
                  have hcz22_0 : wr.cell? ⟨gb171, 0, none⟩ = some (.bool a1_0) := (blk_cell BK171.out 0).trans rfl
                  have hcz22_1 : wr.cell? ⟨gb171, 1, none⟩ = some (.string a1_1) := (blk_cell BK171.out 1).trans rfl
                  have hcz22_2 : wr.cell? ⟨gb171, 2, none⟩ = some (.slice A1_2 l1_2.length c1_2) := (blk_cell BK171.out 2).trans rfl
                  have hfz22_0 := blk_frozen BK171.out 0
                  have hfz22_1 := blk_frozen BK171.out 1
                  have hfz22_2 := blk_frozen BK171.out 2
                  have p187 : 0 ≤ (x12_1 : Int) := of_decide_eq_true (by first | (with_reducible assumption) | assumption)
                  have q187 : x12_1 < (l1_2.length : Int) := of_decide_eq_true (by first | (with_reducible assumption) | assumption)
                  obtain ⟨ad187, A187_1, c187_1, A187_2, c187_2, e187, hx187_0, hx187_1, hx187_2, hl187_1, hi187_1, hl187_2, hi187_2⟩ := at_T57 HR1_2.out x12_1 p187 q187
                  cases e187
                  replace hx187_0 := (HB.out.cell (World.block_lt_of_cell? w _ hx187_0)).trans hx187_0
                  replace hx187_1 := (HB.out.cell (World.block_lt_of_cell? w _ hx187_1)).trans hx187_1
                  replace hx187_2 := (HB.out.cell (World.block_lt_of_cell? w _ hx187_2)).trans hx187_2
                  have HR187_1 := Aside0.mk hi187_1
                  have HC187_1 := Aside0.mk hl187_1
                  clear hi187_1 hl187_1
                  have HR187_2 := Aside0.mk hi187_2
                  have HC187_2 := Aside0.mk hl187_2
                  clear hi187_2 hl187_2
                  replace p187 := eq_true p187
                  replace q187 := eq_true q187
                  go_wp2_with (first | ((with_reducible refine gate_dst (N := 13) rfl ?_); refine box_event ?hg (N := 13) ?hd (cs := #[.string (⟨#[]⟩ : ByteArray), .slice none 0 0, .slice none 0 0]) (t := 57) ?hr ?_; (case hd => rfl); (case hg => rfl); (case hr => first | (go_simp; done) | (go_simp; rfl)); intro gb188 hg w23 hbox hb; have n0_ := Aside0.mk (Kd.R_below (by (with_reducible repeat (first | apply Kd.R_alloc | apply Kd.R_drewN | apply Kd.R_drew)); exact HO_10.out) hb); have n1_ := Aside0.mk (Kd.R_below (by (with_reducible repeat (first | apply Kd.R_alloc | apply Kd.R_drewN | apply Kd.R_drew)); exact HO_11.out) hb); have n2_ := Aside0.mk (Kd.V_below (Kd.V_elderB (by (with_reducible repeat (first | apply Kd.V_alloc | apply Kd.V_drewN | apply Kd.V_drew)); exact HO_178001.out) gb188 (Nat.le_of_eq hg.symm)) hb); have n3_ := Aside0.mk (blk_below (g := gb171) (o := .cells #[.bool a1_0, .string a1_1, .slice (some ad187) l1_2.length c1_2] 44 (0, 0)) (by (with_reducible repeat (first | refine blk_drewN ?_ _ | refine blk_drew ?_ | refine blk_alloc ?_ _)); exact BK171.out) hb); have n4_ := Aside0.mk (blk_below (g := gb177) (o := .cells #[.string t172, .slice Ao13 t173.length co13] 30 (0, 0)) (by (with_reducible repeat (first | refine blk_drewN ?_ _ | refine blk_drew ?_ | refine blk_alloc ?_ _)); exact BK177.out) hb); have n5_ := Aside0.mk (below_step (by repeat (first | (with_reducible first | exact HB.out | apply below_alloc | apply pw_below_drewN | apply below_drew1 | refine below_set ?_ GE171.out | refine below_set ?_ GE177.out) | exact HB.out)) hb); have n6_ := Aside0.mk (hbox); have n7_ := Aside0.mk ((by rw [hg]; exact (below_size (by repeat (first | (with_reducible first | exact HB.out | apply below_alloc | apply pw_below_drewN | apply below_drew1 | refine below_set ?_ GE171.out | refine below_set ?_ GE177.out) | exact HB.out))) : w.heap.size ≤ gb188)); have n8_ := Aside0.mk ((by rw [hg]; exact (below_size (by repeat (first | (with_reducible first | exact HB.out | apply below_alloc | apply pw_below_drewN | apply below_drew1 | refine below_set ?_ GE171.out | refine below_set ?_ GE177.out) | exact HB.out))) : w.heap.size ≤ gb188)); have n9_ := Aside0.mk ((by rw [hg]; exact Nat.ne_of_lt (blk_lt (g := gb171) (o := .cells #[.bool a1_0, .string a1_1, .slice (some ad187) l1_2.length c1_2] 44 (0, 0)) (by (with_reducible repeat (first | refine blk_drewN ?_ _ | refine blk_drew ?_ | refine blk_alloc ?_ _)); exact BK171.out)) : gb171 ≠ gb188)); have n10_ := Aside0.mk ((by rw [hg]; exact Nat.ne_of_gt (blk_lt (g := gb171) (o := .cells #[.bool a1_0, .string a1_1, .slice (some ad187) l1_2.length c1_2] 44 (0, 0)) (by (with_reducible repeat (first | refine blk_drewN ?_ _ | refine blk_drew ?_ | refine blk_alloc ?_ _)); exact BK171.out)) : gb188 ≠ gb171)); have n11_ := Aside0.mk ((by rw [hg]; exact Nat.ne_of_lt (blk_lt (g := gb177) (o := .cells #[.string t172, .slice Ao13 t173.length co13] 30 (0, 0)) (by (with_reducible repeat (first | refine blk_drewN ?_ _ | refine blk_drew ?_ | refine blk_alloc ?_ _)); exact BK177.out)) : gb177 ≠ gb188)); have n12_ := Aside0.mk ((by rw [hg]; exact Nat.ne_of_gt (blk_lt (g := gb177) (o := .cells #[.string t172, .slice Ao13 t173.length co13] 30 (0, 0)) (by (with_reducible repeat (first | refine blk_drewN ?_ _ | refine blk_drew ?_ | refine blk_alloc ?_ _)); exact BK177.out)) : gb188 ≠ gb177)); clear HO_10; clear HO_11; clear HO_178001; clear BK171; clear BK177; clear HB; have HO_10 := n0_; have HO_11 := n1_; have HO_178001 := n2_; have BK171 := n3_; have BK177 := n4_; have HB := n5_; have BK188 := n6_; have GW188 := n7_; have GE188 := n8_; have NB171_188 := n9_; have NB188_171 := n10_; have NB177_188 := n11_; have NB188_177 := n12_; clear n0_ n1_ n2_ n3_ n4_ n5_ n6_ n7_ n8_ n9_ n10_ n11_ n12_; clear hb hbox hg; have hnb24 := NB188_171.out; have hnc24 := NB171_188.out; have hnb25 := NB188_177.out; have hnc25 := NB177_188.out; have hcz26_0 : w23.cell? ⟨gb188, 0, none⟩ = some (.string (⟨#[]⟩ : ByteArray)) := (blk_cell BK188.out 0).trans rfl; have hcz26_1 : w23.cell? ⟨gb188, 1, none⟩ = some (.slice none 0 0) := (blk_cell BK188.out 1).trans rfl; have hcz26_2 : w23.cell? ⟨gb188, 2, none⟩ = some (.slice none 0 0) := (blk_cell BK188.out 2).trans rfl; have hfz26_0 := blk_frozen BK188.out 0; have hfz26_1 := blk_frozen BK188.out 1; have hfz26_2 := blk_frozen BK188.out 2; have hcz27_0 : w23.cell? ⟨gb177, 0, none⟩ = some (.string t172) := (blk_cell BK177.out 0).trans rfl; have hcz27_1 : w23.cell? ⟨gb177, 1, none⟩ = some (.slice Ao13 t173.length co13) := (blk_cell BK177.out 1).trans rfl; have hfz27_0 := blk_frozen BK177.out 0; have hfz27_1 := blk_frozen BK177.out 1) | ((with_reducible refine gate_callee (f := 12) rfl ?_); refine goesL_ (some 46) rfl rfl Try.func12 (by kernel_rfl) rfl #[.agg #[.string t172, .slice Ao13 t173.length co13], .string ((rd_T57 l1_2 x12_1).f0)] rfl (by (try simp only [List.map_toArray, List.map_cons, List.map_nil]); first | done | rfl | (simp only [List.length_drop, List.length_take]; rfl)) ?_; (with_reducible refine (intarsiaref17_Attr.calls k1 t172 _ _ t173 ((rd_T57 l1_2 x12_1).f0) t189 true _ ?side1 ?side2 A17.out).mono ?_); (case side1 => refine (Kd.V_reads' (e := 9) (base := w.heap.size) (ok := fun k_ => ((some k_ ≠ (u10 : Value).ownBlock ∧ (some k_ ≠ (u11 : Value).ownBlock ∧ (k_ ≠ gb171 ∧ k_ ≠ gb177))) ∧ k_ ≠ gb188)) (n := t173.length) (c := co13) ?_).2.2; exact (by (with_reducible repeat (first | apply Kd.V_alloc | apply Kd.V_drewN | apply Kd.V_drew)); exact (Kd.V_mono (Kd.V_far (p := ⟨gb188, 2, none⟩) (Kd.V_far (p := ⟨gb188, 1, none⟩) (Kd.V_far (p := ⟨gb188, 0, none⟩) (Kd.V_mono HO_178001.out (fun k_ hk => (⟨hk, hk.2⟩ : _ ∧ k_ ≠ gb188))) (fun _ hk => hk.2) (.string ((rd_T57 l1_2 x12_1).f0))) (fun _ hk => hk.2) (.slice A187_1 ((rd_T57 l1_2 x12_1).f1).length c187_1)) (fun _ hk => hk.2) (.slice A187_2 ((rd_T57 l1_2 x12_1).f2).length c187_2)) (fun _ h_ => h_.1)))); (case side2 => exact (Kd.V_reads' HO_178001.out).2.1); rintro e w28 ⟨rfl, hb⟩; refine ⟨_, rfl, ?_⟩; have n0_ := Aside0.mk (Kd.R_below (by (with_reducible repeat (first | apply Kd.R_alloc | apply Kd.R_drewN | apply Kd.R_drew)); exact (Kd.R_mono (Kd.R_far (p := ⟨gb188, 2, none⟩) (Kd.R_far (p := ⟨gb188, 1, none⟩) (Kd.R_far (p := ⟨gb188, 0, none⟩) (Kd.R_types HO_10.out BK188.out (by decide)) (fun _ hk => hk.2) (.string ((rd_T57 l1_2 x12_1).f0))) (fun _ hk => hk.2) (.slice A187_1 ((rd_T57 l1_2 x12_1).f1).length c187_1)) (fun _ hk => hk.2) (.slice A187_2 ((rd_T57 l1_2 x12_1).f2).length c187_2)) (fun _ h_ => h_.1))) hb); have n1_ := Aside0.mk (Kd.R_below (by (with_reducible repeat (first | apply Kd.R_alloc | apply Kd.R_drewN | apply Kd.R_drew)); exact (Kd.R_mono (Kd.R_far (p := ⟨gb188, 2, none⟩) (Kd.R_far (p := ⟨gb188, 1, none⟩) (Kd.R_far (p := ⟨gb188, 0, none⟩) (Kd.R_types HO_11.out BK188.out (by decide)) (fun _ hk => hk.2) (.string ((rd_T57 l1_2 x12_1).f0))) (fun _ hk => hk.2) (.slice A187_1 ((rd_T57 l1_2 x12_1).f1).length c187_1)) (fun _ hk => hk.2) (.slice A187_2 ((rd_T57 l1_2 x12_1).f2).length c187_2)) (fun _ h_ => h_.1))) hb); have n2_ := Aside0.mk (Kd.V_below (by (with_reducible repeat (first | apply Kd.V_alloc | apply Kd.V_drewN | apply Kd.V_drew)); exact (Kd.V_mono (Kd.V_far (p := ⟨gb188, 2, none⟩) (Kd.V_far (p := ⟨gb188, 1, none⟩) (Kd.V_far (p := ⟨gb188, 0, none⟩) (Kd.V_mono HO_178001.out (fun k_ hk => (⟨hk, hk.2⟩ : _ ∧ k_ ≠ gb188))) (fun _ hk => hk.2) (.string ((rd_T57 l1_2 x12_1).f0))) (fun _ hk => hk.2) (.slice A187_1 ((rd_T57 l1_2 x12_1).f1).length c187_1)) (fun _ hk => hk.2) (.slice A187_2 ((rd_T57 l1_2 x12_1).f2).length c187_2)) (fun _ h_ => h_.1))) hb); have n3_ := Aside0.mk (blk_below (g := gb171) (o := .cells #[.bool a1_0, .string a1_1, .slice (some ad187) l1_2.length c1_2] 44 (0, 0)) (by (with_reducible repeat (first | refine blk_drewN ?_ _ | refine blk_drew ?_ | refine blk_alloc ?_ _)); refine blk_far ?_ NB171_188.out _; (with_reducible repeat (first | refine blk_drewN ?_ _ | refine blk_drew ?_ | refine blk_alloc ?_ _)); refine blk_far ?_ NB171_188.out _; (with_reducible repeat (first | refine blk_drewN ?_ _ | refine blk_drew ?_ | refine blk_alloc ?_ _)); refine blk_far ?_ NB171_188.out _; (with_reducible repeat (first | refine blk_drewN ?_ _ | refine blk_drew ?_ | refine blk_alloc ?_ _)); exact BK171.out) hb); have n4_ := Aside0.mk (blk_below (g := gb177) (o := .cells #[.string t172, .slice Ao13 t173.length co13] 30 (0, 0)) (by (with_reducible repeat (first | refine blk_drewN ?_ _ | refine blk_drew ?_ | refine blk_alloc ?_ _)); refine blk_far ?_ NB177_188.out _; (with_reducible repeat (first | refine blk_drewN ?_ _ | refine blk_drew ?_ | refine blk_alloc ?_ _)); refine blk_far ?_ NB177_188.out _; (with_reducible repeat (first | refine blk_drewN ?_ _ | refine blk_drew ?_ | refine blk_alloc ?_ _)); refine blk_far ?_ NB177_188.out _; (with_reducible repeat (first | refine blk_drewN ?_ _ | refine blk_drew ?_ | refine blk_alloc ?_ _)); exact BK177.out) hb); have n5_ := Aside0.mk (blk_below (g := gb188) (o := .cells #[.string ((rd_T57 l1_2 x12_1).f0), .slice A187_1 ((rd_T57 l1_2 x12_1).f1).length c187_1, .slice A187_2 ((rd_T57 l1_2 x12_1).f2).length c187_2] 57 (0, 0)) (by (with_reducible repeat (first | refine blk_drewN ?_ _ | refine blk_drew ?_ | refine blk_alloc ?_ _)); refine blk_put (cs := #[.string ((rd_T57 l1_2 x12_1).f0), .slice A187_1 ((rd_T57 l1_2 x12_1).f1).length c187_1, .slice none 0 0]) ?_ 2 _ rfl; (with_reducible repeat (first | refine blk_drewN ?_ _ | refine blk_drew ?_ | refine blk_alloc ?_ _)); refine blk_put (cs := #[.string ((rd_T57 l1_2 x12_1).f0), .slice none 0 0, .slice none 0 0]) ?_ 1 _ rfl; (with_reducible repeat (first | refine blk_drewN ?_ _ | refine blk_drew ?_ | refine blk_alloc ?_ _)); refine blk_put (cs := #[.string (⟨#[]⟩ : ByteArray), .slice none 0 0, .slice none 0 0]) ?_ 0 _ rfl; (with_reducible repeat (first | refine blk_drewN ?_ _ | refine blk_drew ?_ | refine blk_alloc ?_ _)); exact BK188.out) hb); have n6_ := Aside0.mk (below_step (by repeat (first | (with_reducible first | exact HB.out | apply below_alloc | apply pw_below_drewN | apply below_drew1 | refine below_set ?_ GE171.out | refine below_set ?_ GE177.out | refine below_set ?_ GE188.out) | exact HB.out)) hb); clear HO_10; clear HO_11; clear HO_178001; clear BK171; clear BK177; clear BK188; clear HB; have HO_10 := n0_; have HO_11 := n1_; have HO_178001 := n2_; have BK171 := n3_; have BK177 := n4_; have BK188 := n5_; have HB := n6_; clear n0_ n1_ n2_ n3_ n4_ n5_ n6_; (try clear hb); (try clear hb2); (try clear hk); (try clear hi); have hcz29_0 : w28.cell? ⟨gb188, 0, none⟩ = some (.string ((rd_T57 l1_2 x12_1).f0)) := (blk_cell BK188.out 0).trans rfl; have hcz29_1 : w28.cell? ⟨gb188, 1, none⟩ = some (.slice A187_1 ((rd_T57 l1_2 x12_1).f1).length c187_1) := (blk_cell BK188.out 1).trans rfl; have hcz29_2 : w28.cell? ⟨gb188, 2, none⟩ = some (.slice A187_2 ((rd_T57 l1_2 x12_1).f2).length c187_2) := (blk_cell BK188.out 2).trans rfl; have hfz29_0 := blk_frozen BK188.out 0; have hfz29_1 := blk_frozen BK188.out 1; have hfz29_2 := blk_frozen BK188.out 2; obtain ⟨Ao30, co30, eo30⟩ := Kd.R_slice HO_11.out; subst eo30) | ((with_reducible refine gate_callee (f := 28) rfl ?_); refine goesL_ (some 56) rfl rfl Try.func28 (by kernel_rfl) rfl #[.slice Ao30 x11_1.length co30, .string ((rd_T57 l1_2 x12_1).f0)] rfl (by (try simp only [List.map_toArray, List.map_cons, List.map_nil]); first | done | rfl | (simp only [List.length_drop, List.length_take]; rfl)) ?_; (with_reducible refine (intarsiaref17_In.calls k1 _ _ x11_1 ((rd_T57 l1_2 x12_1).f0) true _ ?side1 ?side2 A19.out).mono ?_); (case side1 => repeat (first | exact (Kd.R_reads' HO_11.out).2.2 | (with_reducible refine Kd.C_alloc ?_ _) | (with_reducible refine Kd.C_drewN ?_ _) | (with_reducible refine Kd.C_drew ?_))); (case side2 => exact (Kd.R_reads' HO_11.out).2.1); rintro e w' ⟨rfl, ⟨nd, rfl⟩⟩; refine ⟨_, rfl, ?_⟩))
                  go_ret2
                  exact ⟨_, by first | rfl | (simp [errW_none, errW_some] <;> rfl) | (simp [*, errW_none, errW_some] <;> rfl), by first | exact Kd.R_nil _ _ _ _ _ | exact Kd.N_nil _ _ _ _ _ | exact Kd.V_nil _ _ _ _ _ | exact Kd.Q_nil _ _ _ _ _ | exact Kd.S_nil _ _ _ _ _, by repeat (first | (with_reducible first | exact HB.out | apply below_alloc | apply pw_below_drewN | apply below_drew1 | refine below_set ?_ GE171.out | refine below_set ?_ GE177.out | refine below_set ?_ GE188.out) | exact HB.out)⟩
                · replace c20 := Bool.eq_false_iff.mpr c20
                  subst c20
                  have H1 : (if x11_1.length < 8796093022208 then (intarsiaref17_Cond.l1 k1 l2 x10_1 (x11_1 ++ [(rd_T57 l1_2 x12_1).f0]) x12_1 0 a1_0 a1_1 l1_2 t172 t173 ((rd_T57 l1_2 x12_1).f0) ((rd_T57 l1_2 x12_1).f1) ((rd_T57 l1_2 x12_1).f2)) else (none)) = some (r1, r2) := by rw [if_neg (show ¬ (false = true) by decide)] at H; exact H
                  clear H
                  have H := H1
                  clear H1
                  by_cases c31 : x11_1.length < 8796093022208
                  · rw [if_pos c31] at H
                    have LMc31 := Aside0.mk c31
                    clear c31
                    obtain ⟨y192, hy192⟩ : ∃ y_ : List ByteArray, y_ = (x11_1 ++ [(rd_T57 l1_2 x12_1).f0]) := ⟨_, rfl⟩
                    replace H : (intarsiaref17_Cond.l1 k1 l2 x10_1 y192 x12_1 0 a1_0 a1_1 l1_2 t172 t173 ((rd_T57 l1_2 x12_1).f0) ((rd_T57 l1_2 x12_1).f1) ((rd_T57 l1_2 x12_1).f2)) = some (r1, r2) := by first | (rw [hy192]; with_reducible exact H) | (have H2_ := (Option.bind_some _ _).symm.trans H; rw [hy192]; with_reducible exact H2_) | (have H2_ := (Option.bind_some _ _).symm.trans H; with_reducible exact H2_) | with_reducible exact H | (rw [hy192]; exact H) | exact H
                    have Ny192 := Aside0.mk hy192
                    clear hy192
                    have H' := Aside0.mk H
                    clear H
                    have hnb32 := NB171_177.out
                    have hnc32 := NB177_171.out
                    have hcz33_0 : wr.cell? ⟨gb171, 0, none⟩ = some (.bool a1_0) := (blk_cell BK171.out 0).trans rfl
                    have hcz33_1 : wr.cell? ⟨gb171, 1, none⟩ = some (.string a1_1) := (blk_cell BK171.out 1).trans rfl
                    have hcz33_2 : wr.cell? ⟨gb171, 2, none⟩ = some (.slice A1_2 l1_2.length c1_2) := (blk_cell BK171.out 2).trans rfl
                    have hfz33_0 := blk_frozen BK171.out 0
                    have hfz33_1 := blk_frozen BK171.out 1
                    have hfz33_2 := blk_frozen BK171.out 2
                    have p187 : 0 ≤ (x12_1 : Int) := of_decide_eq_true (by first | (with_reducible assumption) | assumption)
                    have q187 : x12_1 < (l1_2.length : Int) := of_decide_eq_true (by first | (with_reducible assumption) | assumption)
                    obtain ⟨ad187, A187_1, c187_1, A187_2, c187_2, e187, hx187_0, hx187_1, hx187_2, hl187_1, hi187_1, hl187_2, hi187_2⟩ := at_T57 HR1_2.out x12_1 p187 q187
                    cases e187
                    replace hx187_0 := (HB.out.cell (World.block_lt_of_cell? w _ hx187_0)).trans hx187_0
                    replace hx187_1 := (HB.out.cell (World.block_lt_of_cell? w _ hx187_1)).trans hx187_1
                    replace hx187_2 := (HB.out.cell (World.block_lt_of_cell? w _ hx187_2)).trans hx187_2
                    have HR187_1 := Aside0.mk hi187_1
                    have HC187_1 := Aside0.mk hl187_1
                    clear hi187_1 hl187_1
                    have HR187_2 := Aside0.mk hi187_2
                    have HC187_2 := Aside0.mk hl187_2
                    clear hi187_2 hl187_2
                    replace p187 := eq_true p187
                    replace q187 := eq_true q187
                    go_wp2_with (first | ((with_reducible refine gate_dst (N := 13) rfl ?_); refine box_event ?hg (N := 13) ?hd (cs := #[.string (⟨#[]⟩ : ByteArray), .slice none 0 0, .slice none 0 0]) (t := 57) ?hr ?_; (case hd => rfl); (case hg => rfl); (case hr => first | (go_simp; done) | (go_simp; rfl)); intro gb188 hg w34 hbox hb; have n0_ := Aside0.mk (Kd.R_below (by (with_reducible repeat (first | apply Kd.R_alloc | apply Kd.R_drewN | apply Kd.R_drew)); exact HO_10.out) hb); have n1_ := Aside0.mk (Kd.R_below (by (with_reducible repeat (first | apply Kd.R_alloc | apply Kd.R_drewN | apply Kd.R_drew)); exact HO_11.out) hb); have n2_ := Aside0.mk (Kd.V_below (Kd.V_elderB (by (with_reducible repeat (first | apply Kd.V_alloc | apply Kd.V_drewN | apply Kd.V_drew)); exact HO_178001.out) gb188 (Nat.le_of_eq hg.symm)) hb); have n3_ := Aside0.mk (blk_below (g := gb171) (o := .cells #[.bool a1_0, .string a1_1, .slice (some ad187) l1_2.length c1_2] 44 (0, 0)) (by (with_reducible repeat (first | refine blk_drewN ?_ _ | refine blk_drew ?_ | refine blk_alloc ?_ _)); exact BK171.out) hb); have n4_ := Aside0.mk (blk_below (g := gb177) (o := .cells #[.string t172, .slice Ao13 t173.length co13] 30 (0, 0)) (by (with_reducible repeat (first | refine blk_drewN ?_ _ | refine blk_drew ?_ | refine blk_alloc ?_ _)); exact BK177.out) hb); have n5_ := Aside0.mk (below_step (by repeat (first | (with_reducible first | exact HB.out | apply below_alloc | apply pw_below_drewN | apply below_drew1 | refine below_set ?_ GE171.out | refine below_set ?_ GE177.out) | exact HB.out)) hb); have n6_ := Aside0.mk (hbox); have n7_ := Aside0.mk ((by rw [hg]; exact (below_size (by repeat (first | (with_reducible first | exact HB.out | apply below_alloc | apply pw_below_drewN | apply below_drew1 | refine below_set ?_ GE171.out | refine below_set ?_ GE177.out) | exact HB.out))) : w.heap.size ≤ gb188)); have n8_ := Aside0.mk ((by rw [hg]; exact (below_size (by repeat (first | (with_reducible first | exact HB.out | apply below_alloc | apply pw_below_drewN | apply below_drew1 | refine below_set ?_ GE171.out | refine below_set ?_ GE177.out) | exact HB.out))) : w.heap.size ≤ gb188)); have n9_ := Aside0.mk ((by rw [hg]; exact Nat.ne_of_lt (blk_lt (g := gb171) (o := .cells #[.bool a1_0, .string a1_1, .slice (some ad187) l1_2.length c1_2] 44 (0, 0)) (by (with_reducible repeat (first | refine blk_drewN ?_ _ | refine blk_drew ?_ | refine blk_alloc ?_ _)); exact BK171.out)) : gb171 ≠ gb188)); have n10_ := Aside0.mk ((by rw [hg]; exact Nat.ne_of_gt (blk_lt (g := gb171) (o := .cells #[.bool a1_0, .string a1_1, .slice (some ad187) l1_2.length c1_2] 44 (0, 0)) (by (with_reducible repeat (first | refine blk_drewN ?_ _ | refine blk_drew ?_ | refine blk_alloc ?_ _)); exact BK171.out)) : gb188 ≠ gb171)); have n11_ := Aside0.mk ((by rw [hg]; exact Nat.ne_of_lt (blk_lt (g := gb177) (o := .cells #[.string t172, .slice Ao13 t173.length co13] 30 (0, 0)) (by (with_reducible repeat (first | refine blk_drewN ?_ _ | refine blk_drew ?_ | refine blk_alloc ?_ _)); exact BK177.out)) : gb177 ≠ gb188)); have n12_ := Aside0.mk ((by rw [hg]; exact Nat.ne_of_gt (blk_lt (g := gb177) (o := .cells #[.string t172, .slice Ao13 t173.length co13] 30 (0, 0)) (by (with_reducible repeat (first | refine blk_drewN ?_ _ | refine blk_drew ?_ | refine blk_alloc ?_ _)); exact BK177.out)) : gb188 ≠ gb177)); clear HO_10; clear HO_11; clear HO_178001; clear BK171; clear BK177; clear HB; have HO_10 := n0_; have HO_11 := n1_; have HO_178001 := n2_; have BK171 := n3_; have BK177 := n4_; have HB := n5_; have BK188 := n6_; have GW188 := n7_; have GE188 := n8_; have NB171_188 := n9_; have NB188_171 := n10_; have NB177_188 := n11_; have NB188_177 := n12_; clear n0_ n1_ n2_ n3_ n4_ n5_ n6_ n7_ n8_ n9_ n10_ n11_ n12_; clear hb hbox hg; have hnb35 := NB188_171.out; have hnc35 := NB171_188.out; have hnb36 := NB188_177.out; have hnc36 := NB177_188.out; have hcz37_0 : w34.cell? ⟨gb188, 0, none⟩ = some (.string (⟨#[]⟩ : ByteArray)) := (blk_cell BK188.out 0).trans rfl; have hcz37_1 : w34.cell? ⟨gb188, 1, none⟩ = some (.slice none 0 0) := (blk_cell BK188.out 1).trans rfl; have hcz37_2 : w34.cell? ⟨gb188, 2, none⟩ = some (.slice none 0 0) := (blk_cell BK188.out 2).trans rfl; have hfz37_0 := blk_frozen BK188.out 0; have hfz37_1 := blk_frozen BK188.out 1; have hfz37_2 := blk_frozen BK188.out 2; have hcz38_0 : w34.cell? ⟨gb177, 0, none⟩ = some (.string t172) := (blk_cell BK177.out 0).trans rfl; have hcz38_1 : w34.cell? ⟨gb177, 1, none⟩ = some (.slice Ao13 t173.length co13) := (blk_cell BK177.out 1).trans rfl; have hfz38_0 := blk_frozen BK177.out 0; have hfz38_1 := blk_frozen BK177.out 1) | ((with_reducible refine gate_callee (f := 12) rfl ?_); refine goesL_ (some 46) rfl rfl Try.func12 (by kernel_rfl) rfl #[.agg #[.string t172, .slice Ao13 t173.length co13], .string ((rd_T57 l1_2 x12_1).f0)] rfl (by (try simp only [List.map_toArray, List.map_cons, List.map_nil]); first | done | rfl | (simp only [List.length_drop, List.length_take]; rfl)) ?_; (with_reducible refine (intarsiaref17_Attr.calls k1 t172 _ _ t173 ((rd_T57 l1_2 x12_1).f0) t189 true _ ?side1 ?side2 A17.out).mono ?_); (case side1 => refine (Kd.V_reads' (e := 9) (base := w.heap.size) (ok := fun k_ => ((some k_ ≠ (u10 : Value).ownBlock ∧ (some k_ ≠ (u11 : Value).ownBlock ∧ (k_ ≠ gb171 ∧ k_ ≠ gb177))) ∧ k_ ≠ gb188)) (n := t173.length) (c := co13) ?_).2.2; exact (by (with_reducible repeat (first | apply Kd.V_alloc | apply Kd.V_drewN | apply Kd.V_drew)); exact (Kd.V_mono (Kd.V_far (p := ⟨gb188, 2, none⟩) (Kd.V_far (p := ⟨gb188, 1, none⟩) (Kd.V_far (p := ⟨gb188, 0, none⟩) (Kd.V_mono HO_178001.out (fun k_ hk => (⟨hk, hk.2⟩ : _ ∧ k_ ≠ gb188))) (fun _ hk => hk.2) (.string ((rd_T57 l1_2 x12_1).f0))) (fun _ hk => hk.2) (.slice A187_1 ((rd_T57 l1_2 x12_1).f1).length c187_1)) (fun _ hk => hk.2) (.slice A187_2 ((rd_T57 l1_2 x12_1).f2).length c187_2)) (fun _ h_ => h_.1)))); (case side2 => exact (Kd.V_reads' HO_178001.out).2.1); rintro e w39 ⟨rfl, hb⟩; refine ⟨_, rfl, ?_⟩; have n0_ := Aside0.mk (Kd.R_below (by (with_reducible repeat (first | apply Kd.R_alloc | apply Kd.R_drewN | apply Kd.R_drew)); exact (Kd.R_mono (Kd.R_far (p := ⟨gb188, 2, none⟩) (Kd.R_far (p := ⟨gb188, 1, none⟩) (Kd.R_far (p := ⟨gb188, 0, none⟩) (Kd.R_types HO_10.out BK188.out (by decide)) (fun _ hk => hk.2) (.string ((rd_T57 l1_2 x12_1).f0))) (fun _ hk => hk.2) (.slice A187_1 ((rd_T57 l1_2 x12_1).f1).length c187_1)) (fun _ hk => hk.2) (.slice A187_2 ((rd_T57 l1_2 x12_1).f2).length c187_2)) (fun _ h_ => h_.1))) hb); have n1_ := Aside0.mk (Kd.R_below (by (with_reducible repeat (first | apply Kd.R_alloc | apply Kd.R_drewN | apply Kd.R_drew)); exact (Kd.R_mono (Kd.R_far (p := ⟨gb188, 2, none⟩) (Kd.R_far (p := ⟨gb188, 1, none⟩) (Kd.R_far (p := ⟨gb188, 0, none⟩) (Kd.R_types HO_11.out BK188.out (by decide)) (fun _ hk => hk.2) (.string ((rd_T57 l1_2 x12_1).f0))) (fun _ hk => hk.2) (.slice A187_1 ((rd_T57 l1_2 x12_1).f1).length c187_1)) (fun _ hk => hk.2) (.slice A187_2 ((rd_T57 l1_2 x12_1).f2).length c187_2)) (fun _ h_ => h_.1))) hb); have n2_ := Aside0.mk (Kd.V_below (by (with_reducible repeat (first | apply Kd.V_alloc | apply Kd.V_drewN | apply Kd.V_drew)); exact (Kd.V_mono (Kd.V_far (p := ⟨gb188, 2, none⟩) (Kd.V_far (p := ⟨gb188, 1, none⟩) (Kd.V_far (p := ⟨gb188, 0, none⟩) (Kd.V_mono HO_178001.out (fun k_ hk => (⟨hk, hk.2⟩ : _ ∧ k_ ≠ gb188))) (fun _ hk => hk.2) (.string ((rd_T57 l1_2 x12_1).f0))) (fun _ hk => hk.2) (.slice A187_1 ((rd_T57 l1_2 x12_1).f1).length c187_1)) (fun _ hk => hk.2) (.slice A187_2 ((rd_T57 l1_2 x12_1).f2).length c187_2)) (fun _ h_ => h_.1))) hb); have n3_ := Aside0.mk (blk_below (g := gb171) (o := .cells #[.bool a1_0, .string a1_1, .slice (some ad187) l1_2.length c1_2] 44 (0, 0)) (by (with_reducible repeat (first | refine blk_drewN ?_ _ | refine blk_drew ?_ | refine blk_alloc ?_ _)); refine blk_far ?_ NB171_188.out _; (with_reducible repeat (first | refine blk_drewN ?_ _ | refine blk_drew ?_ | refine blk_alloc ?_ _)); refine blk_far ?_ NB171_188.out _; (with_reducible repeat (first | refine blk_drewN ?_ _ | refine blk_drew ?_ | refine blk_alloc ?_ _)); refine blk_far ?_ NB171_188.out _; (with_reducible repeat (first | refine blk_drewN ?_ _ | refine blk_drew ?_ | refine blk_alloc ?_ _)); exact BK171.out) hb); have n4_ := Aside0.mk (blk_below (g := gb177) (o := .cells #[.string t172, .slice Ao13 t173.length co13] 30 (0, 0)) (by (with_reducible repeat (first | refine blk_drewN ?_ _ | refine blk_drew ?_ | refine blk_alloc ?_ _)); refine blk_far ?_ NB177_188.out _; (with_reducible repeat (first | refine blk_drewN ?_ _ | refine blk_drew ?_ | refine blk_alloc ?_ _)); refine blk_far ?_ NB177_188.out _; (with_reducible repeat (first | refine blk_drewN ?_ _ | refine blk_drew ?_ | refine blk_alloc ?_ _)); refine blk_far ?_ NB177_188.out _; (with_reducible repeat (first | refine blk_drewN ?_ _ | refine blk_drew ?_ | refine blk_alloc ?_ _)); exact BK177.out) hb); have n5_ := Aside0.mk (blk_below (g := gb188) (o := .cells #[.string ((rd_T57 l1_2 x12_1).f0), .slice A187_1 ((rd_T57 l1_2 x12_1).f1).length c187_1, .slice A187_2 ((rd_T57 l1_2 x12_1).f2).length c187_2] 57 (0, 0)) (by (with_reducible repeat (first | refine blk_drewN ?_ _ | refine blk_drew ?_ | refine blk_alloc ?_ _)); refine blk_put (cs := #[.string ((rd_T57 l1_2 x12_1).f0), .slice A187_1 ((rd_T57 l1_2 x12_1).f1).length c187_1, .slice none 0 0]) ?_ 2 _ rfl; (with_reducible repeat (first | refine blk_drewN ?_ _ | refine blk_drew ?_ | refine blk_alloc ?_ _)); refine blk_put (cs := #[.string ((rd_T57 l1_2 x12_1).f0), .slice none 0 0, .slice none 0 0]) ?_ 1 _ rfl; (with_reducible repeat (first | refine blk_drewN ?_ _ | refine blk_drew ?_ | refine blk_alloc ?_ _)); refine blk_put (cs := #[.string (⟨#[]⟩ : ByteArray), .slice none 0 0, .slice none 0 0]) ?_ 0 _ rfl; (with_reducible repeat (first | refine blk_drewN ?_ _ | refine blk_drew ?_ | refine blk_alloc ?_ _)); exact BK188.out) hb); have n6_ := Aside0.mk (below_step (by repeat (first | (with_reducible first | exact HB.out | apply below_alloc | apply pw_below_drewN | apply below_drew1 | refine below_set ?_ GE171.out | refine below_set ?_ GE177.out | refine below_set ?_ GE188.out) | exact HB.out)) hb); clear HO_10; clear HO_11; clear HO_178001; clear BK171; clear BK177; clear BK188; clear HB; have HO_10 := n0_; have HO_11 := n1_; have HO_178001 := n2_; have BK171 := n3_; have BK177 := n4_; have BK188 := n5_; have HB := n6_; clear n0_ n1_ n2_ n3_ n4_ n5_ n6_; (try clear hb); (try clear hb2); (try clear hk); (try clear hi); have hcz40_0 : w39.cell? ⟨gb188, 0, none⟩ = some (.string ((rd_T57 l1_2 x12_1).f0)) := (blk_cell BK188.out 0).trans rfl; have hcz40_1 : w39.cell? ⟨gb188, 1, none⟩ = some (.slice A187_1 ((rd_T57 l1_2 x12_1).f1).length c187_1) := (blk_cell BK188.out 1).trans rfl; have hcz40_2 : w39.cell? ⟨gb188, 2, none⟩ = some (.slice A187_2 ((rd_T57 l1_2 x12_1).f2).length c187_2) := (blk_cell BK188.out 2).trans rfl; have hfz40_0 := blk_frozen BK188.out 0; have hfz40_1 := blk_frozen BK188.out 1; have hfz40_2 := blk_frozen BK188.out 2; obtain ⟨Ao41, co41, eo41⟩ := Kd.R_slice HO_11.out; subst eo41) | ((with_reducible refine gate_callee (f := 28) rfl ?_); refine goesL_ (some 56) rfl rfl Try.func28 (by kernel_rfl) rfl #[.slice Ao41 x11_1.length co41, .string ((rd_T57 l1_2 x12_1).f0)] rfl (by (try simp only [List.map_toArray, List.map_cons, List.map_nil]); first | done | rfl | (simp only [List.length_drop, List.length_take]; rfl)) ?_; (with_reducible refine (intarsiaref17_In.calls k1 _ _ x11_1 ((rd_T57 l1_2 x12_1).f0) false _ ?side1 ?side2 A19.out).mono ?_); (case side1 => repeat (first | exact (Kd.R_reads' HO_11.out).2.2 | (with_reducible refine Kd.C_alloc ?_ _) | (with_reducible refine Kd.C_drewN ?_ _) | (with_reducible refine Kd.C_drew ?_))); (case side2 => exact (Kd.R_reads' HO_11.out).2.1); rintro e w' ⟨rfl, ⟨nd, rfl⟩⟩; refine ⟨_, rfl, ?_⟩) | ((with_reducible refine gate_builtin (b := .append) (xs := #[.tmp 57, .tmp 60]) rfl ?_); at_builtin; refine Kd.R_append Kd.string (w0 := w) w.heap.size rfl (.tmp 57) (.tmp 60) 26 9 (.string ⟨#[]⟩) 16 rfl Try.underlying26 info9 rfl (by decide) (by omega) (.slice Ao41 x11_1.length co41) x11_1 ((rd_T57 l1_2 x12_1).f0) [.string ((rd_T57 l1_2 x12_1).f0)] (fun k_ => some k_ ≠ (u10 : Value).ownBlock) (fun _ => False) rfl rfl ?aP (fun _ hk => hk.elim) ?aF ?aO ?aB ?aS ?aL ?_; (case aP => exact rfl); (case aB => exact (by repeat (first | (with_reducible first | exact HB.out | apply below_alloc | apply pw_below_drewN | apply below_drew1 | refine below_set ?_ GE171.out | refine below_set ?_ GE177.out | refine below_set ?_ GE188.out) | exact HB.out))); (case aF => exact (fun k_ hk => Kd.fresh' (Kd.R_lt (by (with_reducible repeat (first | apply Kd.R_alloc | apply Kd.R_drewN | apply Kd.R_drew)); exact HO_10.out)) k_ hk)); (case aO => exact (by (with_reducible repeat (first | apply Kd.R_alloc | apply Kd.R_drewN | apply Kd.R_drew)); exact HO_11.out)); (case aS => exact (below_size (by repeat (first | (with_reducible first | exact HB.out | apply below_alloc | apply pw_below_drewN | apply below_drew1 | refine below_set ?_ GE171.out | refine below_set ?_ GE177.out | refine below_set ?_ GE188.out) | exact HB.out)))); (case aL => have := LMc31.out; omega); intro v193 w42 ho hb hg hat; rw [← Ny192.out] at ho; have n0_ := Aside0.mk (Kd.R_after (ok := (fun _ => True)) (by (with_reducible repeat (first | apply Kd.R_alloc | apply Kd.R_drewN | apply Kd.R_drew)); exact Kd.R_mono HO_10.out (fun _ hk => ⟨trivial, hk⟩)) hg hat); have n1_ := Aside0.mk (Kd.V_afterv (ok := (fun k_ => some k_ ≠ (u10 : Value).ownBlock ∧ k_ ≠ gb171 ∧ k_ ≠ gb177 ∧ k_ ≠ gb188)) (by (with_reducible repeat (first | apply Kd.V_alloc | apply Kd.V_drewN | apply Kd.V_drew)); exact Kd.V_mono HO_178001.out (fun _ hk => ⟨⟨hk.1.1, ⟨hk.1.2.2.1, ⟨hk.1.2.2.2, hk.2⟩⟩⟩, hk.1.2.1⟩)) hg hat); have n2_ := Aside0.mk (blk_grown (g := gb171) (o := .cells #[.bool a1_0, .string a1_1, .slice (some ad187) l1_2.length c1_2] 44 (0, 0)) (by (with_reducible repeat (first | refine blk_drewN ?_ _ | refine blk_drew ?_ | refine blk_alloc ?_ _)); exact BK171.out) hg (Kd.R_ne HO_11.out BK171.out (by decide))); have n3_ := Aside0.mk (blk_grown (g := gb177) (o := .cells #[.string t172, .slice Ao13 t173.length co13] 30 (0, 0)) (by (with_reducible repeat (first | refine blk_drewN ?_ _ | refine blk_drew ?_ | refine blk_alloc ?_ _)); exact BK177.out) hg (Kd.R_ne HO_11.out BK177.out (by decide))); have n4_ := Aside0.mk (blk_grown (g := gb188) (o := .cells #[.string ((rd_T57 l1_2 x12_1).f0), .slice A187_1 ((rd_T57 l1_2 x12_1).f1).length c187_1, .slice A187_2 ((rd_T57 l1_2 x12_1).f2).length c187_2] 57 (0, 0)) (by (with_reducible repeat (first | refine blk_drewN ?_ _ | refine blk_drew ?_ | refine blk_alloc ?_ _)); exact BK188.out) hg (Kd.R_ne HO_11.out BK188.out (by decide))); have n5_ := Aside0.mk (hb); have n6_ := Aside0.mk (ho); clear HO_10; clear HO_178001; clear BK171; clear BK177; clear BK188; clear HB; clear HO_11; have HO_10 := n0_; have HO_178001 := n1_; have BK171 := n2_; have BK177 := n3_; have BK188 := n4_; have HB := n5_; have HO194 := n6_; clear n0_ n1_ n2_ n3_ n4_ n5_ n6_; clear ho hb hg hat))
                    go_loopg [10, 16] k1 (fun kq v10 v16 w' => ∃ (x10_2 : List ByteArray) (x16_2 : Int), v16 = .int .i64 x16_2 ∧ Aside0 (intarsiaref17_Cond.l1 kq l2 x10_2 y192 x12_1 x16_2 a1_0 a1_1 l1_2 t172 t173 ((rd_T57 l1_2 x12_1).f0) ((rd_T57 l1_2 x12_1).f1) ((rd_T57 l1_2 x12_1).f2) = some (r1, r2)) ∧ Aside0 (kq ≤ k1) ∧ Aside0 (Kd.R Kd.string 9 w' w.heap.size (fun k_ => some k_ ≠ (v193 : Value).ownBlock) v10 x10_2) ∧ Aside0 (Kd.R Kd.string 9 w' w.heap.size (fun k_ => some k_ ≠ (v10 : Value).ownBlock) v193 y192) ∧ Aside0 (Kd.V Kd.string 9 w' w.heap.size (fun k_ => some k_ ≠ (v10 : Value).ownBlock ∧ some k_ ≠ (v193 : Value).ownBlock ∧ k_ ≠ gb171 ∧ k_ ≠ gb177 ∧ k_ ≠ gb188) (.slice Ao13 t173.length co13) t173) ∧ Aside0 (w'.heap[gb171]? = some (.cells #[.bool a1_0, .string a1_1, (.slice (some ad187) l1_2.length c1_2)] 44 (0, 0))) ∧ Aside0 (w'.heap[gb177]? = some (.cells #[.string t172, (.slice Ao13 t173.length co13)] 30 (0, 0))) ∧ Aside0 (w'.heap[gb188]? = some (.cells #[.string ((rd_T57 l1_2 x12_1).f0), (.slice A187_1 ((rd_T57 l1_2 x12_1).f1).length c187_1), (.slice A187_2 ((rd_T57 l1_2 x12_1).f2).length c187_2)] 57 (0, 0))) ∧ Aside0 (Below w.heap.size w w'))
                    case atStart => exact ⟨(x10_1), (0), (by first | rfl | (simp; done) | (simp [*]; done)), H', ⟨Nat.le_refl _⟩, ⟨by (with_reducible repeat (first | apply Kd.R_alloc | apply Kd.R_drewN | apply Kd.R_drew)); exact Kd.R_mono HO_10.out (fun _ hk => hk.2)⟩, ⟨by (with_reducible repeat (first | apply Kd.R_alloc | apply Kd.R_drewN | apply Kd.R_drew)); exact HO194.out⟩, ⟨by (with_reducible repeat (first | apply Kd.V_alloc | apply Kd.V_drewN | apply Kd.V_drew)); exact Kd.V_mono HO_178001.out (fun _ hk => ⟨hk.1.1, ⟨hk.2, ⟨hk.1.2.1, ⟨hk.1.2.2.1, hk.1.2.2.2⟩⟩⟩⟩)⟩, ⟨by (with_reducible repeat (first | refine blk_drewN ?_ _ | refine blk_drew ?_ | refine blk_alloc ?_ _)); exact BK171.out⟩, ⟨by (with_reducible repeat (first | refine blk_drewN ?_ _ | refine blk_drew ?_ | refine blk_alloc ?_ _)); exact BK177.out⟩, ⟨by (with_reducible repeat (first | refine blk_drewN ?_ _ | refine blk_drew ?_ | refine blk_alloc ?_ _)); exact BK188.out⟩, ⟨by repeat (first | (with_reducible first | exact HB.out | apply below_alloc | apply pw_below_drewN | apply below_drew1 | refine below_set ?_ GE171.out | refine below_set ?_ GE177.out | refine below_set ?_ GE188.out) | exact HB.out)⟩⟩
                    case round =>
                      clear H'
                      try clear c1
                      try clear p1
                      try clear q1
                      try clear hx1
                      try clear c2
                      try clear p2
                      try clear c3
                      try clear c5
                      try clear c6
                      try clear c10
                      try clear c11
                      try clear c12
                      try clear c14
                      try clear c15
                      try clear c15b0
                      try clear c16
                      try clear c16b0
                      try clear c18
                      try clear p18
                      try clear q18
                      try clear hx18
                      try clear c20
                      try clear c21
                      try clear c24
                      try clear c25
                      try clear c28
                      try clear c31
                      try clear c32
                      try clear c35
                      try clear c36
                      try clear hcz12_0
                      try clear hcz12_1
                      try clear hcz22_0
                      try clear hcz22_1
                      try clear hcz22_2
                      try clear hcz26_0
                      try clear hcz26_1
                      try clear hcz26_2
                      try clear hcz27_0
                      try clear hcz27_1
                      try clear hcz29_0
                      try clear hcz29_1
                      try clear hcz29_2
                      try clear hcz33_0
                      try clear hcz33_1
                      try clear hcz33_2
                      try clear hcz37_0
                      try clear hcz37_1
                      try clear hcz37_2
                      try clear hcz38_0
                      try clear hcz38_1
                      try clear hcz40_0
                      try clear hcz40_1
                      try clear hcz40_2
                      try clear hcz8_0
                      try clear hcz8_1
                      try clear hcz8_2
                      try clear hfz12_0
                      try clear hfz12_1
                      try clear hfz22_0
                      try clear hfz22_1
                      try clear hfz22_2
                      try clear hfz26_0
                      try clear hfz26_1
                      try clear hfz26_2
                      try clear hfz27_0
                      try clear hfz27_1
                      try clear hfz29_0
                      try clear hfz29_1
                      try clear hfz29_2
                      try clear hfz33_0
                      try clear hfz33_1
                      try clear hfz33_2
                      try clear hfz37_0
                      try clear hfz37_1
                      try clear hfz37_2
                      try clear hfz38_0
                      try clear hfz38_1
                      try clear hfz40_0
                      try clear hfz40_1
                      try clear hfz40_2
                      try clear hfz8_0
                      try clear hfz8_1
                      try clear hfz8_2
                      try clear hx187_0
                      try clear hx187_1
                      try clear hx187_2
                      try clear p187
                      try clear p2
                      try clear q187
                      obtain ⟨x10_2, x16_2, rfl, HA, HK2, HO_10, HO_11, HO_178001, BK171, BK177, BK188, HB⟩ := hrel
                      cases gk with
                      | zero => exact absurd HA.out (by simp [intarsiaref17_Cond.l1])
                      | succ k2 =>
                        have H := HA.out
                        clear HA
                        simp only [intarsiaref17_Cond.l1] at H
                        by_cases c43 : x16_2 < (((rd_T57 l1_2 x12_1).f2).length : Int)
                        · rw [if_pos c43] at H
                          have c43b0 : decide (x16_2 < (((rd_T57 l1_2 x12_1).f2).length : Int)) = true := decide_eq_true c43
                          clear c43
                          by_cases c44 : 0 ≤ x16_2
                          · rw [if_pos c44] at H
                            have c44b0 : decide (0 ≤ x16_2) = true := decide_eq_true c44
                            clear c44
                            have HC45 := Aside0.mk H
                            clear H
                            have hnb46 := NB188_171.out
                            have hnc46 := NB171_188.out
                            have hnb47 := NB188_177.out
                            have hnc47 := NB177_188.out
                            have hcz48_0 : wr.cell? ⟨gb188, 0, none⟩ = some (.string ((rd_T57 l1_2 x12_1).f0)) := (blk_cell BK188.out 0).trans rfl
                            have hcz48_1 : wr.cell? ⟨gb188, 1, none⟩ = some (.slice A187_1 ((rd_T57 l1_2 x12_1).f1).length c187_1) := (blk_cell BK188.out 1).trans rfl
                            have hcz48_2 : wr.cell? ⟨gb188, 2, none⟩ = some (.slice A187_2 ((rd_T57 l1_2 x12_1).f2).length c187_2) := (blk_cell BK188.out 2).trans rfl
                            have hfz48_0 := blk_frozen BK188.out 0
                            have hfz48_1 := blk_frozen BK188.out 1
                            have hfz48_2 := blk_frozen BK188.out 2
                            have p195 : 0 ≤ (x16_2 : Int) := of_decide_eq_true (by first | (with_reducible assumption) | assumption)
                            have q195 : x16_2 < (((rd_T57 l1_2 x12_1).f2).length : Int) := of_decide_eq_true (by first | (with_reducible assumption) | assumption)
                            obtain ⟨ad195, e195, hx195_0, hx195_1, hx195_2, hx195_3, hx195_4⟩ := at_T61 HR187_2.out x16_2 p195 q195
                            cases e195
                            replace hx195_0 := (HB.out.cell (World.block_lt_of_cell? w _ hx195_0)).trans hx195_0
                            replace hx195_1 := (HB.out.cell (World.block_lt_of_cell? w _ hx195_1)).trans hx195_1
                            replace hx195_2 := (HB.out.cell (World.block_lt_of_cell? w _ hx195_2)).trans hx195_2
                            replace hx195_3 := (HB.out.cell (World.block_lt_of_cell? w _ hx195_3)).trans hx195_3
                            replace hx195_4 := (HB.out.cell (World.block_lt_of_cell? w _ hx195_4)).trans hx195_4
                            replace p195 := eq_true p195
                            replace q195 := eq_true q195
                            go_upto_region 20 with (first | ((with_reducible refine gate_dst (N := 17) rfl ?_); refine box_event ?hg (N := 17) ?hd (cs := #[.int .u8 0, .string (⟨#[]⟩ : ByteArray), .int .u8 0, .int .i64 0, .string (⟨#[]⟩ : ByteArray)]) (t := 61) ?hr ?_; (case hd => rfl); (case hg => rfl); (case hr => first | (go_simp; done) | (go_simp; rfl)); intro gb196 hg w49 hbox hb; have n0_ := Aside0.mk (Kd.R_below (by (with_reducible repeat (first | apply Kd.R_alloc | apply Kd.R_drewN | apply Kd.R_drew)); exact HO_10.out) hb); have n1_ := Aside0.mk (Kd.R_below (by (with_reducible repeat (first | apply Kd.R_alloc | apply Kd.R_drewN | apply Kd.R_drew)); exact HO_11.out) hb); have n2_ := Aside0.mk (Kd.V_below (Kd.V_elderB (by (with_reducible repeat (first | apply Kd.V_alloc | apply Kd.V_drewN | apply Kd.V_drew)); exact HO_178001.out) gb196 (Nat.le_of_eq hg.symm)) hb); have n3_ := Aside0.mk (blk_below (g := gb171) (o := .cells #[.bool a1_0, .string a1_1, .slice (some ad187) l1_2.length c1_2] 44 (0, 0)) (by (with_reducible repeat (first | refine blk_drewN ?_ _ | refine blk_drew ?_ | refine blk_alloc ?_ _)); exact BK171.out) hb); have n4_ := Aside0.mk (blk_below (g := gb177) (o := .cells #[.string t172, .slice Ao13 t173.length co13] 30 (0, 0)) (by (with_reducible repeat (first | refine blk_drewN ?_ _ | refine blk_drew ?_ | refine blk_alloc ?_ _)); exact BK177.out) hb); have n5_ := Aside0.mk (blk_below (g := gb188) (o := .cells #[.string ((rd_T57 l1_2 x12_1).f0), .slice A187_1 ((rd_T57 l1_2 x12_1).f1).length c187_1, .slice (some ad195) ((rd_T57 l1_2 x12_1).f2).length c187_2] 57 (0, 0)) (by (with_reducible repeat (first | refine blk_drewN ?_ _ | refine blk_drew ?_ | refine blk_alloc ?_ _)); exact BK188.out) hb); have n6_ := Aside0.mk (below_step (by repeat (first | (with_reducible first | exact HB.out | apply below_alloc | apply pw_below_drewN | apply below_drew1 | refine below_set ?_ GE171.out | refine below_set ?_ GE177.out | refine below_set ?_ GE188.out) | exact HB.out)) hb); have n7_ := Aside0.mk (hbox); have n8_ := Aside0.mk ((by rw [hg]; exact (below_size (by repeat (first | (with_reducible first | exact HB.out | apply below_alloc | apply pw_below_drewN | apply below_drew1 | refine below_set ?_ GE171.out | refine below_set ?_ GE177.out | refine below_set ?_ GE188.out) | exact HB.out))) : w.heap.size ≤ gb196)); have n9_ := Aside0.mk ((by rw [hg]; exact (below_size (by repeat (first | (with_reducible first | exact HB.out | apply below_alloc | apply pw_below_drewN | apply below_drew1 | refine below_set ?_ GE171.out | refine below_set ?_ GE177.out | refine below_set ?_ GE188.out) | exact HB.out))) : w.heap.size ≤ gb196)); have n10_ := Aside0.mk ((by rw [hg]; exact Nat.ne_of_lt (blk_lt (g := gb171) (o := .cells #[.bool a1_0, .string a1_1, .slice (some ad187) l1_2.length c1_2] 44 (0, 0)) (by (with_reducible repeat (first | refine blk_drewN ?_ _ | refine blk_drew ?_ | refine blk_alloc ?_ _)); exact BK171.out)) : gb171 ≠ gb196)); have n11_ := Aside0.mk ((by rw [hg]; exact Nat.ne_of_gt (blk_lt (g := gb171) (o := .cells #[.bool a1_0, .string a1_1, .slice (some ad187) l1_2.length c1_2] 44 (0, 0)) (by (with_reducible repeat (first | refine blk_drewN ?_ _ | refine blk_drew ?_ | refine blk_alloc ?_ _)); exact BK171.out)) : gb196 ≠ gb171)); have n12_ := Aside0.mk ((by rw [hg]; exact Nat.ne_of_lt (blk_lt (g := gb177) (o := .cells #[.string t172, .slice Ao13 t173.length co13] 30 (0, 0)) (by (with_reducible repeat (first | refine blk_drewN ?_ _ | refine blk_drew ?_ | refine blk_alloc ?_ _)); exact BK177.out)) : gb177 ≠ gb196)); have n13_ := Aside0.mk ((by rw [hg]; exact Nat.ne_of_gt (blk_lt (g := gb177) (o := .cells #[.string t172, .slice Ao13 t173.length co13] 30 (0, 0)) (by (with_reducible repeat (first | refine blk_drewN ?_ _ | refine blk_drew ?_ | refine blk_alloc ?_ _)); exact BK177.out)) : gb196 ≠ gb177)); have n14_ := Aside0.mk ((by rw [hg]; exact Nat.ne_of_lt (blk_lt (g := gb188) (o := .cells #[.string ((rd_T57 l1_2 x12_1).f0), .slice A187_1 ((rd_T57 l1_2 x12_1).f1).length c187_1, .slice (some ad195) ((rd_T57 l1_2 x12_1).f2).length c187_2] 57 (0, 0)) (by (with_reducible repeat (first | refine blk_drewN ?_ _ | refine blk_drew ?_ | refine blk_alloc ?_ _)); exact BK188.out)) : gb188 ≠ gb196)); have n15_ := Aside0.mk ((by rw [hg]; exact Nat.ne_of_gt (blk_lt (g := gb188) (o := .cells #[.string ((rd_T57 l1_2 x12_1).f0), .slice A187_1 ((rd_T57 l1_2 x12_1).f1).length c187_1, .slice (some ad195) ((rd_T57 l1_2 x12_1).f2).length c187_2] 57 (0, 0)) (by (with_reducible repeat (first | refine blk_drewN ?_ _ | refine blk_drew ?_ | refine blk_alloc ?_ _)); exact BK188.out)) : gb196 ≠ gb188)); clear HO_10; clear HO_11; clear HO_178001; clear BK171; clear BK177; clear BK188; clear HB; have HO_10 := n0_; have HO_11 := n1_; have HO_178001 := n2_; have BK171 := n3_; have BK177 := n4_; have BK188 := n5_; have HB := n6_; have BK196 := n7_; have GW196 := n8_; have GE196 := n9_; have NB171_196 := n10_; have NB196_171 := n11_; have NB177_196 := n12_; have NB196_177 := n13_; have NB188_196 := n14_; have NB196_188 := n15_; clear n0_ n1_ n2_ n3_ n4_ n5_ n6_ n7_ n8_ n9_ n10_ n11_ n12_ n13_ n14_ n15_; clear hb hbox hg; have hnb50 := NB196_171.out; have hnc50 := NB171_196.out; have hnb51 := NB196_177.out; have hnc51 := NB177_196.out; have hnb52 := NB196_188.out; have hnc52 := NB188_196.out; have hcz53_0 : w49.cell? ⟨gb196, 0, none⟩ = some (.int .u8 0) := (blk_cell BK196.out 0).trans rfl; have hcz53_1 : w49.cell? ⟨gb196, 1, none⟩ = some (.string (⟨#[]⟩ : ByteArray)) := (blk_cell BK196.out 1).trans rfl; have hcz53_2 : w49.cell? ⟨gb196, 2, none⟩ = some (.int .u8 0) := (blk_cell BK196.out 2).trans rfl; have hcz53_3 : w49.cell? ⟨gb196, 3, none⟩ = some (.int .i64 0) := (blk_cell BK196.out 3).trans rfl; have hcz53_4 : w49.cell? ⟨gb196, 4, none⟩ = some (.string (⟨#[]⟩ : ByteArray)) := (blk_cell BK196.out 4).trans rfl; have hfz53_0 := blk_frozen BK196.out 0; have hfz53_1 := blk_frozen BK196.out 1; have hfz53_2 := blk_frozen BK196.out 2; have hfz53_3 := blk_frozen BK196.out 3; have hfz53_4 := blk_frozen BK196.out 4))
                            (try simp only [Act.put, List.setIfInBounds_toArray, List.set_cons_zero, List.set_cons_succ])
                            go_cut [74] (fun v74 wc => ∃ (kq : Nat) (x74_44 : Bool), v74 = .bool x74_44 ∧ Aside0 (intarsiaref17_Cond.j2 kq l2 x10_2 y192 x12_1 x16_2 x74_44 a1_0 a1_1 l1_2 t172 t173 ((rd_T57 l1_2 x12_1).f0) ((rd_T57 l1_2 x12_1).f1) ((rd_T57 l1_2 x12_1).f2) ((rd_T61 ((rd_T57 l1_2 x12_1).f2) x16_2).f0) ((rd_T61 ((rd_T57 l1_2 x12_1).f2) x16_2).f1) ((rd_T61 ((rd_T57 l1_2 x12_1).f2) x16_2).f2.f0) ((rd_T61 ((rd_T57 l1_2 x12_1).f2) x16_2).f2.f1) ((rd_T61 ((rd_T57 l1_2 x12_1).f2) x16_2).f2.f2) = some (r1, r2)) ∧ Aside0 (kq ≤ k2) ∧ Aside0 (Kd.R Kd.string 9 wc w.heap.size (fun k_ => some k_ ≠ (v193 : Value).ownBlock) u10 x10_2) ∧ Aside0 (Kd.R Kd.string 9 wc w.heap.size (fun k_ => some k_ ≠ (u10 : Value).ownBlock) v193 y192) ∧ Aside0 (Kd.V Kd.string 9 wc w.heap.size (fun k_ => some k_ ≠ (u10 : Value).ownBlock ∧ some k_ ≠ (v193 : Value).ownBlock ∧ k_ ≠ gb171 ∧ k_ ≠ gb177 ∧ k_ ≠ gb188 ∧ k_ ≠ gb196) (.slice Ao13 t173.length co13) t173) ∧ Aside0 (wc.heap[gb171]? = some (.cells #[.bool a1_0, .string a1_1, (.slice (some ad187) l1_2.length c1_2)] 44 (0, 0))) ∧ Aside0 (wc.heap[gb177]? = some (.cells #[.string t172, (.slice Ao13 t173.length co13)] 30 (0, 0))) ∧ Aside0 (wc.heap[gb188]? = some (.cells #[.string ((rd_T57 l1_2 x12_1).f0), (.slice A187_1 ((rd_T57 l1_2 x12_1).f1).length c187_1), (.slice (some ad195) ((rd_T57 l1_2 x12_1).f2).length c187_2)] 57 (0, 0))) ∧ Aside0 (wc.heap[gb196]? = some (.cells #[.int .u8 ((rd_T61 ((rd_T57 l1_2 x12_1).f2) x16_2).f0), .string ((rd_T61 ((rd_T57 l1_2 x12_1).f2) x16_2).f1), .int .u8 ((rd_T61 ((rd_T57 l1_2 x12_1).f2) x16_2).f2.f0), .int .i64 ((rd_T61 ((rd_T57 l1_2 x12_1).f2) x16_2).f2.f1), .string ((rd_T61 ((rd_T57 l1_2 x12_1).f2) x16_2).f2.f2)] 61 (0, 0))) ∧ Aside0 (Below w.heap.size w wc))
                            case first =>
                              have H := HC45.out
                              clear HC45
                              by_cases c54 : ((rd_T61 ((rd_T57 l1_2 x12_1).f2) x16_2).f1).toList = ([] : List UInt8)
                              · rw [if_pos c54] at H
                                have c54b0 : (((rd_T61 ((rd_T57 l1_2 x12_1).f2) x16_2).f1).toList == ([] : List UInt8)) = true := beq_iff_eq.mpr c54
                                have c54b1 : (((rd_T61 ((rd_T57 l1_2 x12_1).f2) x16_2).f1).toList != ([] : List UInt8)) = false := bne_eq_false_iff_eq.mpr c54
                                clear c54
                                (first | rw [c54b0] | (simp only [i64_w, i32_w]; rw [c54b0]) | skip)
                                have H' := Aside0.mk H
                                clear H
                                have hnb55 := NB196_171.out
                                have hnc55 := NB171_196.out
                                have hnb56 := NB196_177.out
                                have hnc56 := NB177_196.out
                                have hnb57 := NB196_188.out
                                have hnc57 := NB188_196.out
                                have hcz58_0 : w49.cell? ⟨gb196, 0, none⟩ = some (.int .u8 0) := (blk_cell BK196.out 0).trans rfl
                                have hcz58_1 : w49.cell? ⟨gb196, 1, none⟩ = some (.string (⟨#[]⟩ : ByteArray)) := (blk_cell BK196.out 1).trans rfl
                                have hcz58_2 : w49.cell? ⟨gb196, 2, none⟩ = some (.int .u8 0) := (blk_cell BK196.out 2).trans rfl
                                have hcz58_3 : w49.cell? ⟨gb196, 3, none⟩ = some (.int .i64 0) := (blk_cell BK196.out 3).trans rfl
                                have hcz58_4 : w49.cell? ⟨gb196, 4, none⟩ = some (.string (⟨#[]⟩ : ByteArray)) := (blk_cell BK196.out 4).trans rfl
                                have hfz58_0 := blk_frozen BK196.out 0
                                have hfz58_1 := blk_frozen BK196.out 1
                                have hfz58_2 := blk_frozen BK196.out 2
                                have hfz58_3 := blk_frozen BK196.out 3
                                have hfz58_4 := blk_frozen BK196.out 4
                                go_wp2
                                go_meet
                                case rel => exact ⟨_, (true), (by first | rfl | (simp; done) | (simp [*]; done)), H', ⟨by have := HK1.out; have := HK2.out; first | omega | exact Nat.le_refl _⟩, ⟨by (with_reducible repeat (first | apply Kd.R_alloc | apply Kd.R_drewN | apply Kd.R_drew)); exact Kd.R_mono (Kd.R_far (p := ⟨gb196, 4, none⟩) (Kd.R_far (p := ⟨gb196, 3, none⟩) (Kd.R_far (p := ⟨gb196, 2, none⟩) (Kd.R_far (p := ⟨gb196, 1, none⟩) (Kd.R_far (p := ⟨gb196, 0, none⟩) (Kd.R_types HO_10.out BK196.out (by decide)) (fun _ hk => hk.2) (.int .u8 ((rd_T61 ((rd_T57 l1_2 x12_1).f2) x16_2).f0))) (fun _ hk => hk.2) (.string ((rd_T61 ((rd_T57 l1_2 x12_1).f2) x16_2).f1))) (fun _ hk => hk.2) (.int .u8 ((rd_T61 ((rd_T57 l1_2 x12_1).f2) x16_2).f2.f0))) (fun _ hk => hk.2) (.int .i64 ((rd_T61 ((rd_T57 l1_2 x12_1).f2) x16_2).f2.f1))) (fun _ hk => hk.2) (.string ((rd_T61 ((rd_T57 l1_2 x12_1).f2) x16_2).f2.f2))) (fun _ hk => hk.1)⟩, ⟨by (with_reducible repeat (first | apply Kd.R_alloc | apply Kd.R_drewN | apply Kd.R_drew)); exact Kd.R_mono (Kd.R_far (p := ⟨gb196, 4, none⟩) (Kd.R_far (p := ⟨gb196, 3, none⟩) (Kd.R_far (p := ⟨gb196, 2, none⟩) (Kd.R_far (p := ⟨gb196, 1, none⟩) (Kd.R_far (p := ⟨gb196, 0, none⟩) (Kd.R_types HO_11.out BK196.out (by decide)) (fun _ hk => hk.2) (.int .u8 ((rd_T61 ((rd_T57 l1_2 x12_1).f2) x16_2).f0))) (fun _ hk => hk.2) (.string ((rd_T61 ((rd_T57 l1_2 x12_1).f2) x16_2).f1))) (fun _ hk => hk.2) (.int .u8 ((rd_T61 ((rd_T57 l1_2 x12_1).f2) x16_2).f2.f0))) (fun _ hk => hk.2) (.int .i64 ((rd_T61 ((rd_T57 l1_2 x12_1).f2) x16_2).f2.f1))) (fun _ hk => hk.2) (.string ((rd_T61 ((rd_T57 l1_2 x12_1).f2) x16_2).f2.f2))) (fun _ hk => hk.1)⟩, ⟨by (with_reducible repeat (first | apply Kd.V_alloc | apply Kd.V_drewN | apply Kd.V_drew)); exact Kd.V_mono (Kd.V_far (p := ⟨gb196, 4, none⟩) (Kd.V_far (p := ⟨gb196, 3, none⟩) (Kd.V_far (p := ⟨gb196, 2, none⟩) (Kd.V_far (p := ⟨gb196, 1, none⟩) (Kd.V_far (p := ⟨gb196, 0, none⟩) (Kd.V_mono HO_178001.out (fun k_ hk => (⟨hk, hk.2⟩ : _ ∧ k_ ≠ gb196))) (fun _ hk => hk.2) (.int .u8 ((rd_T61 ((rd_T57 l1_2 x12_1).f2) x16_2).f0))) (fun _ hk => hk.2) (.string ((rd_T61 ((rd_T57 l1_2 x12_1).f2) x16_2).f1))) (fun _ hk => hk.2) (.int .u8 ((rd_T61 ((rd_T57 l1_2 x12_1).f2) x16_2).f2.f0))) (fun _ hk => hk.2) (.int .i64 ((rd_T61 ((rd_T57 l1_2 x12_1).f2) x16_2).f2.f1))) (fun _ hk => hk.2) (.string ((rd_T61 ((rd_T57 l1_2 x12_1).f2) x16_2).f2.f2))) (fun _ hk => ⟨hk.1.1.1, ⟨hk.1.1.2.1, ⟨hk.1.1.2.2.1, ⟨hk.1.1.2.2.2.1, ⟨hk.1.1.2.2.2.2, hk.1.2⟩⟩⟩⟩⟩)⟩, ⟨by (with_reducible repeat (first | refine blk_drewN ?_ _ | refine blk_drew ?_ | refine blk_alloc ?_ _)); refine blk_far ?_ NB171_196.out _; (with_reducible repeat (first | refine blk_drewN ?_ _ | refine blk_drew ?_ | refine blk_alloc ?_ _)); refine blk_far ?_ NB171_196.out _; (with_reducible repeat (first | refine blk_drewN ?_ _ | refine blk_drew ?_ | refine blk_alloc ?_ _)); refine blk_far ?_ NB171_196.out _; (with_reducible repeat (first | refine blk_drewN ?_ _ | refine blk_drew ?_ | refine blk_alloc ?_ _)); refine blk_far ?_ NB171_196.out _; (with_reducible repeat (first | refine blk_drewN ?_ _ | refine blk_drew ?_ | refine blk_alloc ?_ _)); refine blk_far ?_ NB171_196.out _; (with_reducible repeat (first | refine blk_drewN ?_ _ | refine blk_drew ?_ | refine blk_alloc ?_ _)); exact BK171.out⟩, ⟨by (with_reducible repeat (first | refine blk_drewN ?_ _ | refine blk_drew ?_ | refine blk_alloc ?_ _)); refine blk_far ?_ NB177_196.out _; (with_reducible repeat (first | refine blk_drewN ?_ _ | refine blk_drew ?_ | refine blk_alloc ?_ _)); refine blk_far ?_ NB177_196.out _; (with_reducible repeat (first | refine blk_drewN ?_ _ | refine blk_drew ?_ | refine blk_alloc ?_ _)); refine blk_far ?_ NB177_196.out _; (with_reducible repeat (first | refine blk_drewN ?_ _ | refine blk_drew ?_ | refine blk_alloc ?_ _)); refine blk_far ?_ NB177_196.out _; (with_reducible repeat (first | refine blk_drewN ?_ _ | refine blk_drew ?_ | refine blk_alloc ?_ _)); refine blk_far ?_ NB177_196.out _; (with_reducible repeat (first | refine blk_drewN ?_ _ | refine blk_drew ?_ | refine blk_alloc ?_ _)); exact BK177.out⟩, ⟨by (with_reducible repeat (first | refine blk_drewN ?_ _ | refine blk_drew ?_ | refine blk_alloc ?_ _)); refine blk_far ?_ NB188_196.out _; (with_reducible repeat (first | refine blk_drewN ?_ _ | refine blk_drew ?_ | refine blk_alloc ?_ _)); refine blk_far ?_ NB188_196.out _; (with_reducible repeat (first | refine blk_drewN ?_ _ | refine blk_drew ?_ | refine blk_alloc ?_ _)); refine blk_far ?_ NB188_196.out _; (with_reducible repeat (first | refine blk_drewN ?_ _ | refine blk_drew ?_ | refine blk_alloc ?_ _)); refine blk_far ?_ NB188_196.out _; (with_reducible repeat (first | refine blk_drewN ?_ _ | refine blk_drew ?_ | refine blk_alloc ?_ _)); refine blk_far ?_ NB188_196.out _; (with_reducible repeat (first | refine blk_drewN ?_ _ | refine blk_drew ?_ | refine blk_alloc ?_ _)); exact BK188.out⟩, ⟨by (with_reducible repeat (first | refine blk_drewN ?_ _ | refine blk_drew ?_ | refine blk_alloc ?_ _)); refine blk_put (cs := #[.int .u8 ((rd_T61 ((rd_T57 l1_2 x12_1).f2) x16_2).f0), .string ((rd_T61 ((rd_T57 l1_2 x12_1).f2) x16_2).f1), .int .u8 ((rd_T61 ((rd_T57 l1_2 x12_1).f2) x16_2).f2.f0), .int .i64 ((rd_T61 ((rd_T57 l1_2 x12_1).f2) x16_2).f2.f1), .string (⟨#[]⟩ : ByteArray)]) ?_ 4 _ rfl; (with_reducible repeat (first | refine blk_drewN ?_ _ | refine blk_drew ?_ | refine blk_alloc ?_ _)); refine blk_put (cs := #[.int .u8 ((rd_T61 ((rd_T57 l1_2 x12_1).f2) x16_2).f0), .string ((rd_T61 ((rd_T57 l1_2 x12_1).f2) x16_2).f1), .int .u8 ((rd_T61 ((rd_T57 l1_2 x12_1).f2) x16_2).f2.f0), .int .i64 0, .string (⟨#[]⟩ : ByteArray)]) ?_ 3 _ rfl; (with_reducible repeat (first | refine blk_drewN ?_ _ | refine blk_drew ?_ | refine blk_alloc ?_ _)); refine blk_put (cs := #[.int .u8 ((rd_T61 ((rd_T57 l1_2 x12_1).f2) x16_2).f0), .string ((rd_T61 ((rd_T57 l1_2 x12_1).f2) x16_2).f1), .int .u8 0, .int .i64 0, .string (⟨#[]⟩ : ByteArray)]) ?_ 2 _ rfl; (with_reducible repeat (first | refine blk_drewN ?_ _ | refine blk_drew ?_ | refine blk_alloc ?_ _)); refine blk_put (cs := #[.int .u8 ((rd_T61 ((rd_T57 l1_2 x12_1).f2) x16_2).f0), .string (⟨#[]⟩ : ByteArray), .int .u8 0, .int .i64 0, .string (⟨#[]⟩ : ByteArray)]) ?_ 1 _ rfl; (with_reducible repeat (first | refine blk_drewN ?_ _ | refine blk_drew ?_ | refine blk_alloc ?_ _)); refine blk_put (cs := #[.int .u8 0, .string (⟨#[]⟩ : ByteArray), .int .u8 0, .int .i64 0, .string (⟨#[]⟩ : ByteArray)]) ?_ 0 _ rfl; (with_reducible repeat (first | refine blk_drewN ?_ _ | refine blk_drew ?_ | refine blk_alloc ?_ _)); exact BK196.out⟩, ⟨by repeat (first | (with_reducible first | exact HB.out | apply below_alloc | apply pw_below_drewN | apply below_drew1 | refine below_set ?_ GE171.out | refine below_set ?_ GE177.out | refine below_set ?_ GE188.out | refine below_set ?_ GE196.out) | exact HB.out)⟩⟩
                              · rw [if_neg c54] at H
                                have c54b0 : (((rd_T61 ((rd_T57 l1_2 x12_1).f2) x16_2).f1).toList == ([] : List UInt8)) = false := beq_eq_false_iff_ne.mpr c54
                                have c54b1 : (((rd_T61 ((rd_T57 l1_2 x12_1).f2) x16_2).f1).toList != ([] : List UInt8)) = true := bne_iff_ne.mpr c54
                                (first | rw [c54b0] | (simp only [i64_w, i32_w]; rw [c54b0]) | skip)
                                replace H := Option.bind_eq_some_iff.mp H
                                obtain ⟨t197, A590, H⟩ := H
                                replace H : (intarsiaref17_Cond.j2 k2 l2 x10_2 y192 x12_1 x16_2 t197 a1_0 a1_1 l1_2 t172 t173 ((rd_T57 l1_2 x12_1).f0) ((rd_T57 l1_2 x12_1).f1) ((rd_T57 l1_2 x12_1).f2) ((rd_T61 ((rd_T57 l1_2 x12_1).f2) x16_2).f0) ((rd_T61 ((rd_T57 l1_2 x12_1).f2) x16_2).f1) ((rd_T61 ((rd_T57 l1_2 x12_1).f2) x16_2).f2.f0) ((rd_T61 ((rd_T57 l1_2 x12_1).f2) x16_2).f2.f1) ((rd_T61 ((rd_T57 l1_2 x12_1).f2) x16_2).f2.f2)) = some (r1, r2) := H
                                have A59 := Aside0.mk A590
                                clear A590
                                have H' := Aside0.mk H
                                clear H
                                have hnb60 := NB196_171.out
                                have hnc60 := NB171_196.out
                                have hnb61 := NB196_177.out
                                have hnc61 := NB177_196.out
                                have hnb62 := NB196_188.out
                                have hnc62 := NB188_196.out
                                have hcz63_0 : w49.cell? ⟨gb196, 0, none⟩ = some (.int .u8 0) := (blk_cell BK196.out 0).trans rfl
                                have hcz63_1 : w49.cell? ⟨gb196, 1, none⟩ = some (.string (⟨#[]⟩ : ByteArray)) := (blk_cell BK196.out 1).trans rfl
                                have hcz63_2 : w49.cell? ⟨gb196, 2, none⟩ = some (.int .u8 0) := (blk_cell BK196.out 2).trans rfl
                                have hcz63_3 : w49.cell? ⟨gb196, 3, none⟩ = some (.int .i64 0) := (blk_cell BK196.out 3).trans rfl
                                have hcz63_4 : w49.cell? ⟨gb196, 4, none⟩ = some (.string (⟨#[]⟩ : ByteArray)) := (blk_cell BK196.out 4).trans rfl
                                have hfz63_0 := blk_frozen BK196.out 0
                                have hfz63_1 := blk_frozen BK196.out 1
                                have hfz63_2 := blk_frozen BK196.out 2
                                have hfz63_3 := blk_frozen BK196.out 3
                                have hfz63_4 := blk_frozen BK196.out 4
                                obtain ⟨Ao64, co64, eo64⟩ := Kd.R_slice HO_10.out
                                subst eo64
                                go_wp2_with (first | (go_at_call 28; (with_reducible refine (intarsiaref17_In.calls k2 _ _ x10_2 ((rd_T61 ((rd_T57 l1_2 x12_1).f2) x16_2).f1) t197 _ ?side1 ?side2 A59.out).mono ?_); (case side1 => refine (Kd.R_reads' (e := 9) (base := w.heap.size) (ok := fun k_ => some k_ ≠ (v193 : Value).ownBlock) (n := x10_2.length) (c := co64) ?_).2.2; exact (by (with_reducible repeat (first | apply Kd.R_alloc | apply Kd.R_drewN | apply Kd.R_drew)); exact (Kd.R_mono (Kd.R_far (p := ⟨gb196, 4, none⟩) (Kd.R_far (p := ⟨gb196, 3, none⟩) (Kd.R_far (p := ⟨gb196, 2, none⟩) (Kd.R_far (p := ⟨gb196, 1, none⟩) (Kd.R_far (p := ⟨gb196, 0, none⟩) (Kd.R_types HO_10.out BK196.out (by decide)) (fun _ hk => hk.2) (.int .u8 ((rd_T61 ((rd_T57 l1_2 x12_1).f2) x16_2).f0))) (fun _ hk => hk.2) (.string ((rd_T61 ((rd_T57 l1_2 x12_1).f2) x16_2).f1))) (fun _ hk => hk.2) (.int .u8 ((rd_T61 ((rd_T57 l1_2 x12_1).f2) x16_2).f2.f0))) (fun _ hk => hk.2) (.int .i64 ((rd_T61 ((rd_T57 l1_2 x12_1).f2) x16_2).f2.f1))) (fun _ hk => hk.2) (.string ((rd_T61 ((rd_T57 l1_2 x12_1).f2) x16_2).f2.f2))) (fun _ h_ => h_.1)))); (case side2 => exact (Kd.R_reads' HO_10.out).2.1); rintro e w' ⟨rfl, ⟨nd, rfl⟩⟩))
                                go_meet
                                case rel => exact ⟨_, (t197), (by first | rfl | (simp; done) | (simp [*]; done)), H', ⟨by have := HK1.out; have := HK2.out; first | omega | exact Nat.le_refl _⟩, ⟨by (with_reducible repeat (first | apply Kd.R_alloc | apply Kd.R_drewN | apply Kd.R_drew)); exact Kd.R_mono (Kd.R_far (p := ⟨gb196, 4, none⟩) (Kd.R_far (p := ⟨gb196, 3, none⟩) (Kd.R_far (p := ⟨gb196, 2, none⟩) (Kd.R_far (p := ⟨gb196, 1, none⟩) (Kd.R_far (p := ⟨gb196, 0, none⟩) (Kd.R_types HO_10.out BK196.out (by decide)) (fun _ hk => hk.2) (.int .u8 ((rd_T61 ((rd_T57 l1_2 x12_1).f2) x16_2).f0))) (fun _ hk => hk.2) (.string ((rd_T61 ((rd_T57 l1_2 x12_1).f2) x16_2).f1))) (fun _ hk => hk.2) (.int .u8 ((rd_T61 ((rd_T57 l1_2 x12_1).f2) x16_2).f2.f0))) (fun _ hk => hk.2) (.int .i64 ((rd_T61 ((rd_T57 l1_2 x12_1).f2) x16_2).f2.f1))) (fun _ hk => hk.2) (.string ((rd_T61 ((rd_T57 l1_2 x12_1).f2) x16_2).f2.f2))) (fun _ hk => hk.1)⟩, ⟨by (with_reducible repeat (first | apply Kd.R_alloc | apply Kd.R_drewN | apply Kd.R_drew)); exact Kd.R_mono (Kd.R_far (p := ⟨gb196, 4, none⟩) (Kd.R_far (p := ⟨gb196, 3, none⟩) (Kd.R_far (p := ⟨gb196, 2, none⟩) (Kd.R_far (p := ⟨gb196, 1, none⟩) (Kd.R_far (p := ⟨gb196, 0, none⟩) (Kd.R_types HO_11.out BK196.out (by decide)) (fun _ hk => hk.2) (.int .u8 ((rd_T61 ((rd_T57 l1_2 x12_1).f2) x16_2).f0))) (fun _ hk => hk.2) (.string ((rd_T61 ((rd_T57 l1_2 x12_1).f2) x16_2).f1))) (fun _ hk => hk.2) (.int .u8 ((rd_T61 ((rd_T57 l1_2 x12_1).f2) x16_2).f2.f0))) (fun _ hk => hk.2) (.int .i64 ((rd_T61 ((rd_T57 l1_2 x12_1).f2) x16_2).f2.f1))) (fun _ hk => hk.2) (.string ((rd_T61 ((rd_T57 l1_2 x12_1).f2) x16_2).f2.f2))) (fun _ hk => hk.1)⟩, ⟨by (with_reducible repeat (first | apply Kd.V_alloc | apply Kd.V_drewN | apply Kd.V_drew)); exact Kd.V_mono (Kd.V_far (p := ⟨gb196, 4, none⟩) (Kd.V_far (p := ⟨gb196, 3, none⟩) (Kd.V_far (p := ⟨gb196, 2, none⟩) (Kd.V_far (p := ⟨gb196, 1, none⟩) (Kd.V_far (p := ⟨gb196, 0, none⟩) (Kd.V_mono HO_178001.out (fun k_ hk => (⟨hk, hk.2⟩ : _ ∧ k_ ≠ gb196))) (fun _ hk => hk.2) (.int .u8 ((rd_T61 ((rd_T57 l1_2 x12_1).f2) x16_2).f0))) (fun _ hk => hk.2) (.string ((rd_T61 ((rd_T57 l1_2 x12_1).f2) x16_2).f1))) (fun _ hk => hk.2) (.int .u8 ((rd_T61 ((rd_T57 l1_2 x12_1).f2) x16_2).f2.f0))) (fun _ hk => hk.2) (.int .i64 ((rd_T61 ((rd_T57 l1_2 x12_1).f2) x16_2).f2.f1))) (fun _ hk => hk.2) (.string ((rd_T61 ((rd_T57 l1_2 x12_1).f2) x16_2).f2.f2))) (fun _ hk => ⟨hk.1.1.1, ⟨hk.1.1.2.1, ⟨hk.1.1.2.2.1, ⟨hk.1.1.2.2.2.1, ⟨hk.1.1.2.2.2.2, hk.1.2⟩⟩⟩⟩⟩)⟩, ⟨by (with_reducible repeat (first | refine blk_drewN ?_ _ | refine blk_drew ?_ | refine blk_alloc ?_ _)); refine blk_far ?_ NB171_196.out _; (with_reducible repeat (first | refine blk_drewN ?_ _ | refine blk_drew ?_ | refine blk_alloc ?_ _)); refine blk_far ?_ NB171_196.out _; (with_reducible repeat (first | refine blk_drewN ?_ _ | refine blk_drew ?_ | refine blk_alloc ?_ _)); refine blk_far ?_ NB171_196.out _; (with_reducible repeat (first | refine blk_drewN ?_ _ | refine blk_drew ?_ | refine blk_alloc ?_ _)); refine blk_far ?_ NB171_196.out _; (with_reducible repeat (first | refine blk_drewN ?_ _ | refine blk_drew ?_ | refine blk_alloc ?_ _)); refine blk_far ?_ NB171_196.out _; (with_reducible repeat (first | refine blk_drewN ?_ _ | refine blk_drew ?_ | refine blk_alloc ?_ _)); exact BK171.out⟩, ⟨by (with_reducible repeat (first | refine blk_drewN ?_ _ | refine blk_drew ?_ | refine blk_alloc ?_ _)); refine blk_far ?_ NB177_196.out _; (with_reducible repeat (first | refine blk_drewN ?_ _ | refine blk_drew ?_ | refine blk_alloc ?_ _)); refine blk_far ?_ NB177_196.out _; (with_reducible repeat (first | refine blk_drewN ?_ _ | refine blk_drew ?_ | refine blk_alloc ?_ _)); refine blk_far ?_ NB177_196.out _; (with_reducible repeat (first | refine blk_drewN ?_ _ | refine blk_drew ?_ | refine blk_alloc ?_ _)); refine blk_far ?_ NB177_196.out _; (with_reducible repeat (first | refine blk_drewN ?_ _ | refine blk_drew ?_ | refine blk_alloc ?_ _)); refine blk_far ?_ NB177_196.out _; (with_reducible repeat (first | refine blk_drewN ?_ _ | refine blk_drew ?_ | refine blk_alloc ?_ _)); exact BK177.out⟩, ⟨by (with_reducible repeat (first | refine blk_drewN ?_ _ | refine blk_drew ?_ | refine blk_alloc ?_ _)); refine blk_far ?_ NB188_196.out _; (with_reducible repeat (first | refine blk_drewN ?_ _ | refine blk_drew ?_ | refine blk_alloc ?_ _)); refine blk_far ?_ NB188_196.out _; (with_reducible repeat (first | refine blk_drewN ?_ _ | refine blk_drew ?_ | refine blk_alloc ?_ _)); refine blk_far ?_ NB188_196.out _; (with_reducible repeat (first | refine blk_drewN ?_ _ | refine blk_drew ?_ | refine blk_alloc ?_ _)); refine blk_far ?_ NB188_196.out _; (with_reducible repeat (first | refine blk_drewN ?_ _ | refine blk_drew ?_ | refine blk_alloc ?_ _)); refine blk_far ?_ NB188_196.out _; (with_reducible repeat (first | refine blk_drewN ?_ _ | refine blk_drew ?_ | refine blk_alloc ?_ _)); exact BK188.out⟩, ⟨by (with_reducible repeat (first | refine blk_drewN ?_ _ | refine blk_drew ?_ | refine blk_alloc ?_ _)); refine blk_put (cs := #[.int .u8 ((rd_T61 ((rd_T57 l1_2 x12_1).f2) x16_2).f0), .string ((rd_T61 ((rd_T57 l1_2 x12_1).f2) x16_2).f1), .int .u8 ((rd_T61 ((rd_T57 l1_2 x12_1).f2) x16_2).f2.f0), .int .i64 ((rd_T61 ((rd_T57 l1_2 x12_1).f2) x16_2).f2.f1), .string (⟨#[]⟩ : ByteArray)]) ?_ 4 _ rfl; (with_reducible repeat (first | refine blk_drewN ?_ _ | refine blk_drew ?_ | refine blk_alloc ?_ _)); refine blk_put (cs := #[.int .u8 ((rd_T61 ((rd_T57 l1_2 x12_1).f2) x16_2).f0), .string ((rd_T61 ((rd_T57 l1_2 x12_1).f2) x16_2).f1), .int .u8 ((rd_T61 ((rd_T57 l1_2 x12_1).f2) x16_2).f2.f0), .int .i64 0, .string (⟨#[]⟩ : ByteArray)]) ?_ 3 _ rfl; (with_reducible repeat (first | refine blk_drewN ?_ _ | refine blk_drew ?_ | refine blk_alloc ?_ _)); refine blk_put (cs := #[.int .u8 ((rd_T61 ((rd_T57 l1_2 x12_1).f2) x16_2).f0), .string ((rd_T61 ((rd_T57 l1_2 x12_1).f2) x16_2).f1), .int .u8 0, .int .i64 0, .string (⟨#[]⟩ : ByteArray)]) ?_ 2 _ rfl; (with_reducible repeat (first | refine blk_drewN ?_ _ | refine blk_drew ?_ | refine blk_alloc ?_ _)); refine blk_put (cs := #[.int .u8 ((rd_T61 ((rd_T57 l1_2 x12_1).f2) x16_2).f0), .string (⟨#[]⟩ : ByteArray), .int .u8 0, .int .i64 0, .string (⟨#[]⟩ : ByteArray)]) ?_ 1 _ rfl; (with_reducible repeat (first | refine blk_drewN ?_ _ | refine blk_drew ?_ | refine blk_alloc ?_ _)); refine blk_put (cs := #[.int .u8 0, .string (⟨#[]⟩ : ByteArray), .int .u8 0, .int .i64 0, .string (⟨#[]⟩ : ByteArray)]) ?_ 0 _ rfl; (with_reducible repeat (first | refine blk_drewN ?_ _ | refine blk_drew ?_ | refine blk_alloc ?_ _)); exact BK196.out⟩, ⟨by repeat (first | (with_reducible first | exact HB.out | apply below_alloc | apply pw_below_drewN | apply below_drew1 | refine below_set ?_ GE171.out | refine below_set ?_ GE177.out | refine below_set ?_ GE188.out | refine below_set ?_ GE196.out) | exact HB.out)⟩⟩
                            case rest =>
                              clear HC45
                              try clear c1
                              try clear p1
                              try clear q1
                              try clear hx1
                              try clear c2
                              try clear p2
                              try clear c3
                              try clear c4
                              try clear c5
                              try clear c6
                              try clear c10
                              try clear c11
                              try clear c12
                              try clear c14
                              try clear c15
                              try clear c15b0
                              try clear c16
                              try clear c16b0
                              try clear c18
                              try clear p18
                              try clear q18
                              try clear hx18
                              try clear p19
                              try clear q19
                              try clear hx19
                              try clear c20
                              try clear c21
                              try clear c24
                              try clear c25
                              try clear c28
                              try clear c31
                              try clear c32
                              try clear c35
                              try clear c36
                              try clear c43
                              try clear c43b0
                              try clear c44
                              try clear c44b0
                              try clear c46
                              try clear c47
                              try clear c50
                              try clear c51
                              try clear c52
                              try clear c54
                              try clear c54b0
                              try clear c54b1
                              try clear c55
                              try clear c56
                              try clear c57
                              try clear c60
                              try clear c61
                              try clear c62
                              try clear hcz12_0
                              try clear hcz12_1
                              try clear hcz22_0
                              try clear hcz22_1
                              try clear hcz22_2
                              try clear hcz26_0
                              try clear hcz26_1
                              try clear hcz26_2
                              try clear hcz27_0
                              try clear hcz27_1
                              try clear hcz29_0
                              try clear hcz29_1
                              try clear hcz29_2
                              try clear hcz33_0
                              try clear hcz33_1
                              try clear hcz33_2
                              try clear hcz37_0
                              try clear hcz37_1
                              try clear hcz37_2
                              try clear hcz38_0
                              try clear hcz38_1
                              try clear hcz40_0
                              try clear hcz40_1
                              try clear hcz40_2
                              try clear hcz48_0
                              try clear hcz48_1
                              try clear hcz48_2
                              try clear hcz53_0
                              try clear hcz53_1
                              try clear hcz53_2
                              try clear hcz53_3
                              try clear hcz53_4
                              try clear hcz58_0
                              try clear hcz58_1
                              try clear hcz58_2
                              try clear hcz58_3
                              try clear hcz58_4
                              try clear hcz63_0
                              try clear hcz63_1
                              try clear hcz63_2
                              try clear hcz63_3
                              try clear hcz63_4
                              try clear hcz8_0
                              try clear hcz8_1
                              try clear hcz8_2
                              try clear hfz12_0
                              try clear hfz12_1
                              try clear hfz22_0
                              try clear hfz22_1
                              try clear hfz22_2
                              try clear hfz26_0
                              try clear hfz26_1
                              try clear hfz26_2
                              try clear hfz27_0
                              try clear hfz27_1
                              try clear hfz29_0
                              try clear hfz29_1
                              try clear hfz29_2
                              try clear hfz33_0
                              try clear hfz33_1
                              try clear hfz33_2
                              try clear hfz37_0
                              try clear hfz37_1
                              try clear hfz37_2
                              try clear hfz38_0
                              try clear hfz38_1
                              try clear hfz40_0
                              try clear hfz40_1
                              try clear hfz40_2
                              try clear hfz48_0
                              try clear hfz48_1
                              try clear hfz48_2
                              try clear hfz53_0
                              try clear hfz53_1
                              try clear hfz53_2
                              try clear hfz53_3
                              try clear hfz53_4
                              try clear hfz58_0
                              try clear hfz58_1
                              try clear hfz58_2
                              try clear hfz58_3
                              try clear hfz58_4
                              try clear hfz63_0
                              try clear hfz63_1
                              try clear hfz63_2
                              try clear hfz63_3
                              try clear hfz63_4
                              try clear hfz8_0
                              try clear hfz8_1
                              try clear hfz8_2
                              try clear hx187_0
                              try clear hx187_1
                              try clear hx187_2
                              try clear hx195_0
                              try clear hx195_1
                              try clear hx195_2
                              try clear hx195_3
                              try clear hx195_4
                              try clear p1
                              try clear p18
                              try clear p187
                              try clear p195
                              try clear p2
                              try clear q1
                              try clear q18
                              try clear q187
                              try clear q195
                              obtain ⟨kq, x74_44, rfl, HA, HJ44, HO_10, HO_11, HO_178001, BK171, BK177, BK188, BK196, HB⟩ := hcut
                              cases kq with
                              | zero => exact absurd HA.out (by simp [intarsiaref17_Cond.j2])
                              | succ kj44 =>
                                have H := HA.out
                                clear HA
                                simp only [intarsiaref17_Cond.j2] at H
                                by_cases c65 : x74_44 = true
                                · subst c65
                                  have H1 : (intarsiaref17_Cond.l1 kj44 l2 x10_2 y192 x12_1 (wrap64 (x16_2 + 1)) a1_0 a1_1 l1_2 t172 t173 ((rd_T57 l1_2 x12_1).f0) ((rd_T57 l1_2 x12_1).f1) ((rd_T57 l1_2 x12_1).f2)) = some (r1, r2) := by rw [if_pos rfl] at H; exact H
                                  clear H
                                  have H := H1
                                  clear H1
                                  have H' := Aside0.mk H
                                  clear H
                                  go_wp2
                                  go_roundg kj44
                                  case measure => have := HK1.out; have := HK2.out; have := HJ44.out; omega
                                  case rel => exact ⟨(x10_2), (wrap64 (x16_2 + 1)), (by first | rfl | (simp; done) | (simp [*]; done)), H', ⟨by have := HK1.out; have := HK2.out; have := HJ44.out; omega⟩, ⟨by (with_reducible repeat (first | apply Kd.R_alloc | apply Kd.R_drewN | apply Kd.R_drew)); exact HO_10.out⟩, ⟨by (with_reducible repeat (first | apply Kd.R_alloc | apply Kd.R_drewN | apply Kd.R_drew)); exact HO_11.out⟩, ⟨by (with_reducible repeat (first | apply Kd.V_alloc | apply Kd.V_drewN | apply Kd.V_drew)); exact Kd.V_mono HO_178001.out (fun _ hk => ⟨hk.1, ⟨hk.2.1, ⟨hk.2.2.1, ⟨hk.2.2.2.1, hk.2.2.2.2.1⟩⟩⟩⟩)⟩, ⟨by (with_reducible repeat (first | refine blk_drewN ?_ _ | refine blk_drew ?_ | refine blk_alloc ?_ _)); exact BK171.out⟩, ⟨by (with_reducible repeat (first | refine blk_drewN ?_ _ | refine blk_drew ?_ | refine blk_alloc ?_ _)); exact BK177.out⟩, ⟨by (with_reducible repeat (first | refine blk_drewN ?_ _ | refine blk_drew ?_ | refine blk_alloc ?_ _)); exact BK188.out⟩, ⟨by repeat (first | (with_reducible first | exact HB.out | apply below_alloc | apply pw_below_drewN | apply below_drew1 | refine below_set ?_ GE171.out | refine below_set ?_ GE177.out | refine below_set ?_ GE188.out | refine below_set ?_ GE196.out) | exact HB.out)⟩⟩
                                · replace c65 := Bool.eq_false_iff.mpr c65
                                  subst c65
                                  have H1 : (if ((rd_T61 ((rd_T57 l1_2 x12_1).f2) x16_2).f0) = 0 then (if x10_2.length < 8796093022208 then (intarsiaref17_Cond.l1 kj44 l2 (x10_2 ++ [((rd_T61 ((rd_T57 l1_2 x12_1).f2) x16_2).f1)]) y192 x12_1 (wrap64 (x16_2 + 1)) a1_0 a1_1 l1_2 t172 t173 ((rd_T57 l1_2 x12_1).f0) ((rd_T57 l1_2 x12_1).f1) ((rd_T57 l1_2 x12_1).f2)) else (none)) else (some (([] : List ByteArray), 20))) = some (r1, r2) := by rw [if_neg (show ¬ (false = true) by decide)] at H; exact H
                                  clear H
                                  have H := H1
                                  clear H1
                                  by_cases c66 : ((rd_T61 ((rd_T57 l1_2 x12_1).f2) x16_2).f0) = 0
                                  · rw [if_pos c66] at H
                                    have c66b0 : (((rd_T61 ((rd_T57 l1_2 x12_1).f2) x16_2).f0) == 0) = true := beq_iff_eq.mpr c66
                                    have c66b1 : (((rd_T61 ((rd_T57 l1_2 x12_1).f2) x16_2).f0) != 0) = false := bne_eq_false_iff_eq.mpr c66
                                    clear c66
                                    by_cases c67 : x10_2.length < 8796093022208
                                    · rw [if_pos c67] at H
                                      have LMc67 := Aside0.mk c67
                                      clear c67
                                      obtain ⟨y198, hy198⟩ : ∃ y_ : List ByteArray, y_ = (x10_2 ++ [((rd_T61 ((rd_T57 l1_2 x12_1).f2) x16_2).f1)]) := ⟨_, rfl⟩
                                      replace H : (intarsiaref17_Cond.l1 kj44 l2 y198 y192 x12_1 (wrap64 (x16_2 + 1)) a1_0 a1_1 l1_2 t172 t173 ((rd_T57 l1_2 x12_1).f0) ((rd_T57 l1_2 x12_1).f1) ((rd_T57 l1_2 x12_1).f2)) = some (r1, r2) := by first | (rw [hy198]; with_reducible exact H) | (have H2_ := (Option.bind_some _ _).symm.trans H; rw [hy198]; with_reducible exact H2_) | (have H2_ := (Option.bind_some _ _).symm.trans H; with_reducible exact H2_) | with_reducible exact H | (rw [hy198]; exact H) | exact H
                                      have Ny198 := Aside0.mk hy198
                                      clear hy198
                                      have H' := Aside0.mk H
                                      clear H
                                      have hnb68 := NB196_171.out
                                      have hnc68 := NB171_196.out
                                      have hnb69 := NB196_177.out
                                      have hnc69 := NB177_196.out
                                      have hnb70 := NB196_188.out
                                      have hnc70 := NB188_196.out
                                      have hcz71_0 : wc.cell? ⟨gb196, 0, none⟩ = some (.int .u8 ((rd_T61 ((rd_T57 l1_2 x12_1).f2) x16_2).f0)) := (blk_cell BK196.out 0).trans rfl
                                      have hcz71_1 : wc.cell? ⟨gb196, 1, none⟩ = some (.string ((rd_T61 ((rd_T57 l1_2 x12_1).f2) x16_2).f1)) := (blk_cell BK196.out 1).trans rfl
                                      have hcz71_2 : wc.cell? ⟨gb196, 2, none⟩ = some (.int .u8 ((rd_T61 ((rd_T57 l1_2 x12_1).f2) x16_2).f2.f0)) := (blk_cell BK196.out 2).trans rfl
                                      have hcz71_3 : wc.cell? ⟨gb196, 3, none⟩ = some (.int .i64 ((rd_T61 ((rd_T57 l1_2 x12_1).f2) x16_2).f2.f1)) := (blk_cell BK196.out 3).trans rfl
                                      have hcz71_4 : wc.cell? ⟨gb196, 4, none⟩ = some (.string ((rd_T61 ((rd_T57 l1_2 x12_1).f2) x16_2).f2.f2)) := (blk_cell BK196.out 4).trans rfl
                                      have hfz71_0 := blk_frozen BK196.out 0
                                      have hfz71_1 := blk_frozen BK196.out 1
                                      have hfz71_2 := blk_frozen BK196.out 2
                                      have hfz71_3 := blk_frozen BK196.out 3
                                      have hfz71_4 := blk_frozen BK196.out 4
                                      go_wp2_with (first | ((with_reducible refine gate_builtin (b := .append) (xs := #[.tmp 88, .tmp 91]) rfl ?_); at_builtin; refine Kd.R_append Kd.string (w0 := w) w.heap.size rfl (.tmp 88) (.tmp 91) 26 9 (.string ⟨#[]⟩) 16 rfl Try.underlying26 info9 rfl (by decide) (by omega) u10 x10_2 ((rd_T61 ((rd_T57 l1_2 x12_1).f2) x16_2).f1) [.string ((rd_T61 ((rd_T57 l1_2 x12_1).f2) x16_2).f1)] (fun k_ => some k_ ≠ (v193 : Value).ownBlock) (fun _ => False) rfl rfl ?aP (fun _ hk => hk.elim) ?aF ?aO ?aB ?aS ?aL ?_; (case aP => exact rfl); (case aB => exact (by repeat (first | (with_reducible first | exact HB.out | apply below_alloc | apply pw_below_drewN | apply below_drew1 | refine below_set ?_ GE171.out | refine below_set ?_ GE177.out | refine below_set ?_ GE188.out | refine below_set ?_ GE196.out) | exact HB.out))); (case aF => exact (fun k_ hk => Kd.fresh' (Kd.R_lt (by (with_reducible repeat (first | apply Kd.R_alloc | apply Kd.R_drewN | apply Kd.R_drew)); exact HO_11.out)) k_ hk)); (case aO => exact (by (with_reducible repeat (first | apply Kd.R_alloc | apply Kd.R_drewN | apply Kd.R_drew)); exact HO_10.out)); (case aS => exact (below_size (by repeat (first | (with_reducible first | exact HB.out | apply below_alloc | apply pw_below_drewN | apply below_drew1 | refine below_set ?_ GE171.out | refine below_set ?_ GE177.out | refine below_set ?_ GE188.out | refine below_set ?_ GE196.out) | exact HB.out)))); (case aL => have := LMc67.out; omega); intro v199 w72 ho hb hg hat; rw [← Ny198.out] at ho; have n0_ := Aside0.mk (Kd.R_after (ok := (fun _ => True)) (by (with_reducible repeat (first | apply Kd.R_alloc | apply Kd.R_drewN | apply Kd.R_drew)); exact Kd.R_mono HO_11.out (fun _ hk => ⟨trivial, hk⟩)) hg hat); have n1_ := Aside0.mk (Kd.V_afterv (ok := (fun k_ => some k_ ≠ (v193 : Value).ownBlock ∧ k_ ≠ gb171 ∧ k_ ≠ gb177 ∧ k_ ≠ gb188 ∧ k_ ≠ gb196)) (by (with_reducible repeat (first | apply Kd.V_alloc | apply Kd.V_drewN | apply Kd.V_drew)); exact Kd.V_mono HO_178001.out (fun _ hk => ⟨⟨hk.2.1, ⟨hk.2.2.1, ⟨hk.2.2.2.1, ⟨hk.2.2.2.2.1, hk.2.2.2.2.2⟩⟩⟩⟩, hk.1⟩)) hg hat); have n2_ := Aside0.mk (blk_grown (g := gb171) (o := .cells #[.bool a1_0, .string a1_1, .slice (some ad187) l1_2.length c1_2] 44 (0, 0)) (by (with_reducible repeat (first | refine blk_drewN ?_ _ | refine blk_drew ?_ | refine blk_alloc ?_ _)); exact BK171.out) hg (Kd.R_ne HO_10.out BK171.out (by decide))); have n3_ := Aside0.mk (blk_grown (g := gb177) (o := .cells #[.string t172, .slice Ao13 t173.length co13] 30 (0, 0)) (by (with_reducible repeat (first | refine blk_drewN ?_ _ | refine blk_drew ?_ | refine blk_alloc ?_ _)); exact BK177.out) hg (Kd.R_ne HO_10.out BK177.out (by decide))); have n4_ := Aside0.mk (blk_grown (g := gb188) (o := .cells #[.string ((rd_T57 l1_2 x12_1).f0), .slice A187_1 ((rd_T57 l1_2 x12_1).f1).length c187_1, .slice (some ad195) ((rd_T57 l1_2 x12_1).f2).length c187_2] 57 (0, 0)) (by (with_reducible repeat (first | refine blk_drewN ?_ _ | refine blk_drew ?_ | refine blk_alloc ?_ _)); exact BK188.out) hg (Kd.R_ne HO_10.out BK188.out (by decide))); have n5_ := Aside0.mk (blk_grown (g := gb196) (o := .cells #[.int .u8 ((rd_T61 ((rd_T57 l1_2 x12_1).f2) x16_2).f0), .string ((rd_T61 ((rd_T57 l1_2 x12_1).f2) x16_2).f1), .int .u8 ((rd_T61 ((rd_T57 l1_2 x12_1).f2) x16_2).f2.f0), .int .i64 ((rd_T61 ((rd_T57 l1_2 x12_1).f2) x16_2).f2.f1), .string ((rd_T61 ((rd_T57 l1_2 x12_1).f2) x16_2).f2.f2)] 61 (0, 0)) (by (with_reducible repeat (first | refine blk_drewN ?_ _ | refine blk_drew ?_ | refine blk_alloc ?_ _)); exact BK196.out) hg (Kd.R_ne HO_10.out BK196.out (by decide))); have n6_ := Aside0.mk (hb); have n7_ := Aside0.mk (ho); clear HO_11; clear HO_178001; clear BK171; clear BK177; clear BK188; clear BK196; clear HB; clear HO_10; have HO_11 := n0_; have HO_178001 := n1_; have BK171 := n2_; have BK177 := n3_; have BK188 := n4_; have BK196 := n5_; have HB := n6_; have HO200 := n7_; clear n0_ n1_ n2_ n3_ n4_ n5_ n6_ n7_; clear ho hb hg hat))
                                      go_roundg kj44
                                      case measure => have := HK1.out; have := HK2.out; have := HJ44.out; omega
                                      case rel => exact ⟨(y198), (wrap64 (x16_2 + 1)), (by first | rfl | (simp; done) | (simp [*]; done)), H', ⟨by have := HK1.out; have := HK2.out; have := HJ44.out; omega⟩, ⟨by (with_reducible repeat (first | apply Kd.R_alloc | apply Kd.R_drewN | apply Kd.R_drew)); exact HO200.out⟩, ⟨by (with_reducible repeat (first | apply Kd.R_alloc | apply Kd.R_drewN | apply Kd.R_drew)); exact Kd.R_mono HO_11.out (fun _ hk => hk.2)⟩, ⟨by (with_reducible repeat (first | apply Kd.V_alloc | apply Kd.V_drewN | apply Kd.V_drew)); exact Kd.V_mono HO_178001.out (fun _ hk => ⟨hk.2, ⟨hk.1.1, ⟨hk.1.2.1, ⟨hk.1.2.2.1, hk.1.2.2.2.1⟩⟩⟩⟩)⟩, ⟨by (with_reducible repeat (first | refine blk_drewN ?_ _ | refine blk_drew ?_ | refine blk_alloc ?_ _)); exact BK171.out⟩, ⟨by (with_reducible repeat (first | refine blk_drewN ?_ _ | refine blk_drew ?_ | refine blk_alloc ?_ _)); exact BK177.out⟩, ⟨by (with_reducible repeat (first | refine blk_drewN ?_ _ | refine blk_drew ?_ | refine blk_alloc ?_ _)); exact BK188.out⟩, ⟨by repeat (first | (with_reducible first | exact HB.out | apply below_alloc | apply pw_below_drewN | apply below_drew1 | refine below_set ?_ GE171.out | refine below_set ?_ GE177.out | refine below_set ?_ GE188.out | refine below_set ?_ GE196.out) | exact HB.out)⟩⟩
                                    · rw [if_neg c67] at H
                                      exact absurd H (by simp)
                                  · rw [if_neg c66] at H
                                    have c66b0 : (((rd_T61 ((rd_T57 l1_2 x12_1).f2) x16_2).f0) == 0) = false := beq_eq_false_iff_ne.mpr c66
                                    have c66b1 : (((rd_T61 ((rd_T57 l1_2 x12_1).f2) x16_2).f0) != 0) = true := bne_iff_ne.mpr c66
                                    simp only [Option.some.injEq, Prod.mk.injEq] at H
                                    obtain ⟨rfl, rfl⟩ := H
                                    have hnb73 := NB196_171.out
                                    have hnc73 := NB171_196.out
                                    have hnb74 := NB196_177.out
                                    have hnc74 := NB177_196.out
                                    have hnb75 := NB196_188.out
                                    have hnc75 := NB188_196.out
                                    have hcz76_0 : wc.cell? ⟨gb196, 0, none⟩ = some (.int .u8 ((rd_T61 ((rd_T57 l1_2 x12_1).f2) x16_2).f0)) := (blk_cell BK196.out 0).trans rfl
                                    have hcz76_1 : wc.cell? ⟨gb196, 1, none⟩ = some (.string ((rd_T61 ((rd_T57 l1_2 x12_1).f2) x16_2).f1)) := (blk_cell BK196.out 1).trans rfl
                                    have hcz76_2 : wc.cell? ⟨gb196, 2, none⟩ = some (.int .u8 ((rd_T61 ((rd_T57 l1_2 x12_1).f2) x16_2).f2.f0)) := (blk_cell BK196.out 2).trans rfl
                                    have hcz76_3 : wc.cell? ⟨gb196, 3, none⟩ = some (.int .i64 ((rd_T61 ((rd_T57 l1_2 x12_1).f2) x16_2).f2.f1)) := (blk_cell BK196.out 3).trans rfl
                                    have hcz76_4 : wc.cell? ⟨gb196, 4, none⟩ = some (.string ((rd_T61 ((rd_T57 l1_2 x12_1).f2) x16_2).f2.f2)) := (blk_cell BK196.out 4).trans rfl
                                    have hfz76_0 := blk_frozen BK196.out 0
                                    have hfz76_1 := blk_frozen BK196.out 1
                                    have hfz76_2 := blk_frozen BK196.out 2
                                    have hfz76_3 := blk_frozen BK196.out 3
                                    have hfz76_4 := blk_frozen BK196.out 4
                                    go_wp2
                                    go_ret2
                                    exact ⟨_, by first | rfl | (simp [errW_none, errW_some] <;> rfl) | (simp [*, errW_none, errW_some] <;> rfl), by first | exact Kd.R_nil _ _ _ _ _ | exact Kd.N_nil _ _ _ _ _ | exact Kd.V_nil _ _ _ _ _ | exact Kd.Q_nil _ _ _ _ _ | exact Kd.S_nil _ _ _ _ _, by repeat (first | (with_reducible first | exact HB.out | apply below_alloc | apply pw_below_drewN | apply below_drew1 | refine below_set ?_ GE171.out | refine below_set ?_ GE177.out | refine below_set ?_ GE188.out | refine below_set ?_ GE196.out) | exact HB.out)⟩
                          · rw [if_neg c44] at H
                            exact absurd H (by simp)
                        · rw [if_neg c43] at H
                          have c43b0 : decide (x16_2 < (((rd_T57 l1_2 x12_1).f2).length : Int)) = false := decide_eq_false c43
                          clear c43
                          have H' := Aside0.mk H
                          clear H
                          have hnb77 := NB188_171.out
                          have hnc77 := NB171_188.out
                          have hnb78 := NB188_177.out
                          have hnc78 := NB177_188.out
                          have hcz79_0 : wr.cell? ⟨gb188, 0, none⟩ = some (.string ((rd_T57 l1_2 x12_1).f0)) := (blk_cell BK188.out 0).trans rfl
                          have hcz79_1 : wr.cell? ⟨gb188, 1, none⟩ = some (.slice A187_1 ((rd_T57 l1_2 x12_1).f1).length c187_1) := (blk_cell BK188.out 1).trans rfl
                          have hcz79_2 : wr.cell? ⟨gb188, 2, none⟩ = some (.slice A187_2 ((rd_T57 l1_2 x12_1).f2).length c187_2) := (blk_cell BK188.out 2).trans rfl
                          have hfz79_0 := blk_frozen BK188.out 0
                          have hfz79_1 := blk_frozen BK188.out 1
                          have hfz79_2 := blk_frozen BK188.out 2
                          go_wp2
                          go_roundg k2
                          case measure => have := HK1.out; have := HK2.out; omega
                          case rel => exact ⟨(x10_2), (y192), (wrap64 (x12_1 + 1)), (by first | rfl | (simp; done) | (simp [*]; done)), H', ⟨by have := HK1.out; have := HK2.out; omega⟩, ⟨by (with_reducible repeat (first | apply Kd.R_alloc | apply Kd.R_drewN | apply Kd.R_drew)); exact HO_10.out⟩, ⟨by (with_reducible repeat (first | apply Kd.R_alloc | apply Kd.R_drewN | apply Kd.R_drew)); exact HO_11.out⟩, ⟨by (with_reducible repeat (first | apply Kd.V_alloc | apply Kd.V_drewN | apply Kd.V_drew)); exact Kd.V_mono HO_178001.out (fun _ hk => ⟨hk.1, ⟨hk.2.1, ⟨hk.2.2.1, hk.2.2.2.1⟩⟩⟩)⟩, ⟨by (with_reducible repeat (first | refine blk_drewN ?_ _ | refine blk_drew ?_ | refine blk_alloc ?_ _)); exact BK171.out⟩, ⟨by (with_reducible repeat (first | refine blk_drewN ?_ _ | refine blk_drew ?_ | refine blk_alloc ?_ _)); exact BK177.out⟩, ⟨by repeat (first | (with_reducible first | exact HB.out | apply below_alloc | apply pw_below_drewN | apply below_drew1 | refine below_set ?_ GE171.out | refine below_set ?_ GE177.out | refine below_set ?_ GE188.out) | exact HB.out)⟩⟩
                  · rw [if_neg c31] at H
                    exact absurd H (by simp)
              · replace c18 := Bool.eq_false_iff.mpr c18
                subst c18
                have H1 : (some (([] : List ByteArray), 19)) = some (r1, r2) := by rw [if_neg (show ¬ (false = true) by decide)] at H; exact H
                clear H
                have H := H1
                clear H1
                simp only [Option.some.injEq, Prod.mk.injEq] at H
                obtain ⟨rfl, rfl⟩ := H
                have hnb80 := NB171_177.out
                have hnc80 := NB177_171.out
                have hcz81_0 : wr.cell? ⟨gb171, 0, none⟩ = some (.bool a1_0) := (blk_cell BK171.out 0).trans rfl
                have hcz81_1 : wr.cell? ⟨gb171, 1, none⟩ = some (.string a1_1) := (blk_cell BK171.out 1).trans rfl
                have hcz81_2 : wr.cell? ⟨gb171, 2, none⟩ = some (.slice A1_2 l1_2.length c1_2) := (blk_cell BK171.out 2).trans rfl
                have hfz81_0 := blk_frozen BK171.out 0
                have hfz81_1 := blk_frozen BK171.out 1
                have hfz81_2 := blk_frozen BK171.out 2
                have p187 : 0 ≤ (x12_1 : Int) := of_decide_eq_true (by first | (with_reducible assumption) | assumption)
                have q187 : x12_1 < (l1_2.length : Int) := of_decide_eq_true (by first | (with_reducible assumption) | assumption)
                obtain ⟨ad187, A187_1, c187_1, A187_2, c187_2, e187, hx187_0, hx187_1, hx187_2, hl187_1, hi187_1, hl187_2, hi187_2⟩ := at_T57 HR1_2.out x12_1 p187 q187
                cases e187
                replace hx187_0 := (HB.out.cell (World.block_lt_of_cell? w _ hx187_0)).trans hx187_0
                replace hx187_1 := (HB.out.cell (World.block_lt_of_cell? w _ hx187_1)).trans hx187_1
                replace hx187_2 := (HB.out.cell (World.block_lt_of_cell? w _ hx187_2)).trans hx187_2
                have HR187_1 := Aside0.mk hi187_1
                have HC187_1 := Aside0.mk hl187_1
                clear hi187_1 hl187_1
                have HR187_2 := Aside0.mk hi187_2
                have HC187_2 := Aside0.mk hl187_2
                clear hi187_2 hl187_2
                replace p187 := eq_true p187
                replace q187 := eq_true q187
                go_wp2_with (first | ((with_reducible refine gate_dst (N := 13) rfl ?_); refine box_event ?hg (N := 13) ?hd (cs := #[.string (⟨#[]⟩ : ByteArray), .slice none 0 0, .slice none 0 0]) (t := 57) ?hr ?_; (case hd => rfl); (case hg => rfl); (case hr => first | (go_simp; done) | (go_simp; rfl)); intro gb188 hg w82 hbox hb; have n0_ := Aside0.mk (Kd.R_below (by (with_reducible repeat (first | apply Kd.R_alloc | apply Kd.R_drewN | apply Kd.R_drew)); exact HO_10.out) hb); have n1_ := Aside0.mk (Kd.R_below (by (with_reducible repeat (first | apply Kd.R_alloc | apply Kd.R_drewN | apply Kd.R_drew)); exact HO_11.out) hb); have n2_ := Aside0.mk (Kd.V_below (Kd.V_elderB (by (with_reducible repeat (first | apply Kd.V_alloc | apply Kd.V_drewN | apply Kd.V_drew)); exact HO_178001.out) gb188 (Nat.le_of_eq hg.symm)) hb); have n3_ := Aside0.mk (blk_below (g := gb171) (o := .cells #[.bool a1_0, .string a1_1, .slice (some ad187) l1_2.length c1_2] 44 (0, 0)) (by (with_reducible repeat (first | refine blk_drewN ?_ _ | refine blk_drew ?_ | refine blk_alloc ?_ _)); exact BK171.out) hb); have n4_ := Aside0.mk (blk_below (g := gb177) (o := .cells #[.string t172, .slice Ao13 t173.length co13] 30 (0, 0)) (by (with_reducible repeat (first | refine blk_drewN ?_ _ | refine blk_drew ?_ | refine blk_alloc ?_ _)); exact BK177.out) hb); have n5_ := Aside0.mk (below_step (by repeat (first | (with_reducible first | exact HB.out | apply below_alloc | apply pw_below_drewN | apply below_drew1 | refine below_set ?_ GE171.out | refine below_set ?_ GE177.out) | exact HB.out)) hb); have n6_ := Aside0.mk (hbox); have n7_ := Aside0.mk ((by rw [hg]; exact (below_size (by repeat (first | (with_reducible first | exact HB.out | apply below_alloc | apply pw_below_drewN | apply below_drew1 | refine below_set ?_ GE171.out | refine below_set ?_ GE177.out) | exact HB.out))) : w.heap.size ≤ gb188)); have n8_ := Aside0.mk ((by rw [hg]; exact (below_size (by repeat (first | (with_reducible first | exact HB.out | apply below_alloc | apply pw_below_drewN | apply below_drew1 | refine below_set ?_ GE171.out | refine below_set ?_ GE177.out) | exact HB.out))) : w.heap.size ≤ gb188)); have n9_ := Aside0.mk ((by rw [hg]; exact Nat.ne_of_lt (blk_lt (g := gb171) (o := .cells #[.bool a1_0, .string a1_1, .slice (some ad187) l1_2.length c1_2] 44 (0, 0)) (by (with_reducible repeat (first | refine blk_drewN ?_ _ | refine blk_drew ?_ | refine blk_alloc ?_ _)); exact BK171.out)) : gb171 ≠ gb188)); have n10_ := Aside0.mk ((by rw [hg]; exact Nat.ne_of_gt (blk_lt (g := gb171) (o := .cells #[.bool a1_0, .string a1_1, .slice (some ad187) l1_2.length c1_2] 44 (0, 0)) (by (with_reducible repeat (first | refine blk_drewN ?_ _ | refine blk_drew ?_ | refine blk_alloc ?_ _)); exact BK171.out)) : gb188 ≠ gb171)); have n11_ := Aside0.mk ((by rw [hg]; exact Nat.ne_of_lt (blk_lt (g := gb177) (o := .cells #[.string t172, .slice Ao13 t173.length co13] 30 (0, 0)) (by (with_reducible repeat (first | refine blk_drewN ?_ _ | refine blk_drew ?_ | refine blk_alloc ?_ _)); exact BK177.out)) : gb177 ≠ gb188)); have n12_ := Aside0.mk ((by rw [hg]; exact Nat.ne_of_gt (blk_lt (g := gb177) (o := .cells #[.string t172, .slice Ao13 t173.length co13] 30 (0, 0)) (by (with_reducible repeat (first | refine blk_drewN ?_ _ | refine blk_drew ?_ | refine blk_alloc ?_ _)); exact BK177.out)) : gb188 ≠ gb177)); clear HO_10; clear HO_11; clear HO_178001; clear BK171; clear BK177; clear HB; have HO_10 := n0_; have HO_11 := n1_; have HO_178001 := n2_; have BK171 := n3_; have BK177 := n4_; have HB := n5_; have BK188 := n6_; have GW188 := n7_; have GE188 := n8_; have NB171_188 := n9_; have NB188_171 := n10_; have NB177_188 := n11_; have NB188_177 := n12_; clear n0_ n1_ n2_ n3_ n4_ n5_ n6_ n7_ n8_ n9_ n10_ n11_ n12_; clear hb hbox hg; have hnb83 := NB188_171.out; have hnc83 := NB171_188.out; have hnb84 := NB188_177.out; have hnc84 := NB177_188.out; have hcz85_0 : w82.cell? ⟨gb188, 0, none⟩ = some (.string (⟨#[]⟩ : ByteArray)) := (blk_cell BK188.out 0).trans rfl; have hcz85_1 : w82.cell? ⟨gb188, 1, none⟩ = some (.slice none 0 0) := (blk_cell BK188.out 1).trans rfl; have hcz85_2 : w82.cell? ⟨gb188, 2, none⟩ = some (.slice none 0 0) := (blk_cell BK188.out 2).trans rfl; have hfz85_0 := blk_frozen BK188.out 0; have hfz85_1 := blk_frozen BK188.out 1; have hfz85_2 := blk_frozen BK188.out 2; have hcz86_0 : w82.cell? ⟨gb177, 0, none⟩ = some (.string t172) := (blk_cell BK177.out 0).trans rfl; have hcz86_1 : w82.cell? ⟨gb177, 1, none⟩ = some (.slice Ao13 t173.length co13) := (blk_cell BK177.out 1).trans rfl; have hfz86_0 := blk_frozen BK177.out 0; have hfz86_1 := blk_frozen BK177.out 1) | ((with_reducible refine gate_callee (f := 12) rfl ?_); refine goesL_ (some 46) rfl rfl Try.func12 (by kernel_rfl) rfl #[.agg #[.string t172, .slice Ao13 t173.length co13], .string ((rd_T57 l1_2 x12_1).f0)] rfl (by (try simp only [List.map_toArray, List.map_cons, List.map_nil]); first | done | rfl | (simp only [List.length_drop, List.length_take]; rfl)) ?_; (with_reducible refine (intarsiaref17_Attr.calls k1 t172 _ _ t173 ((rd_T57 l1_2 x12_1).f0) t189 false _ ?side1 ?side2 A17.out).mono ?_); (case side1 => refine (Kd.V_reads' (e := 9) (base := w.heap.size) (ok := fun k_ => ((some k_ ≠ (u10 : Value).ownBlock ∧ (some k_ ≠ (u11 : Value).ownBlock ∧ (k_ ≠ gb171 ∧ k_ ≠ gb177))) ∧ k_ ≠ gb188)) (n := t173.length) (c := co13) ?_).2.2; exact (by (with_reducible repeat (first | apply Kd.V_alloc | apply Kd.V_drewN | apply Kd.V_drew)); exact (Kd.V_mono (Kd.V_far (p := ⟨gb188, 2, none⟩) (Kd.V_far (p := ⟨gb188, 1, none⟩) (Kd.V_far (p := ⟨gb188, 0, none⟩) (Kd.V_mono HO_178001.out (fun k_ hk => (⟨hk, hk.2⟩ : _ ∧ k_ ≠ gb188))) (fun _ hk => hk.2) (.string ((rd_T57 l1_2 x12_1).f0))) (fun _ hk => hk.2) (.slice A187_1 ((rd_T57 l1_2 x12_1).f1).length c187_1)) (fun _ hk => hk.2) (.slice A187_2 ((rd_T57 l1_2 x12_1).f2).length c187_2)) (fun _ h_ => h_.1)))); (case side2 => exact (Kd.V_reads' HO_178001.out).2.1); rintro e w87 ⟨rfl, hb⟩; refine ⟨_, rfl, ?_⟩; have n0_ := Aside0.mk (Kd.R_below (by (with_reducible repeat (first | apply Kd.R_alloc | apply Kd.R_drewN | apply Kd.R_drew)); exact (Kd.R_mono (Kd.R_far (p := ⟨gb188, 2, none⟩) (Kd.R_far (p := ⟨gb188, 1, none⟩) (Kd.R_far (p := ⟨gb188, 0, none⟩) (Kd.R_types HO_10.out BK188.out (by decide)) (fun _ hk => hk.2) (.string ((rd_T57 l1_2 x12_1).f0))) (fun _ hk => hk.2) (.slice A187_1 ((rd_T57 l1_2 x12_1).f1).length c187_1)) (fun _ hk => hk.2) (.slice A187_2 ((rd_T57 l1_2 x12_1).f2).length c187_2)) (fun _ h_ => h_.1))) hb); have n1_ := Aside0.mk (Kd.R_below (by (with_reducible repeat (first | apply Kd.R_alloc | apply Kd.R_drewN | apply Kd.R_drew)); exact (Kd.R_mono (Kd.R_far (p := ⟨gb188, 2, none⟩) (Kd.R_far (p := ⟨gb188, 1, none⟩) (Kd.R_far (p := ⟨gb188, 0, none⟩) (Kd.R_types HO_11.out BK188.out (by decide)) (fun _ hk => hk.2) (.string ((rd_T57 l1_2 x12_1).f0))) (fun _ hk => hk.2) (.slice A187_1 ((rd_T57 l1_2 x12_1).f1).length c187_1)) (fun _ hk => hk.2) (.slice A187_2 ((rd_T57 l1_2 x12_1).f2).length c187_2)) (fun _ h_ => h_.1))) hb); have n2_ := Aside0.mk (Kd.V_below (by (with_reducible repeat (first | apply Kd.V_alloc | apply Kd.V_drewN | apply Kd.V_drew)); exact (Kd.V_mono (Kd.V_far (p := ⟨gb188, 2, none⟩) (Kd.V_far (p := ⟨gb188, 1, none⟩) (Kd.V_far (p := ⟨gb188, 0, none⟩) (Kd.V_mono HO_178001.out (fun k_ hk => (⟨hk, hk.2⟩ : _ ∧ k_ ≠ gb188))) (fun _ hk => hk.2) (.string ((rd_T57 l1_2 x12_1).f0))) (fun _ hk => hk.2) (.slice A187_1 ((rd_T57 l1_2 x12_1).f1).length c187_1)) (fun _ hk => hk.2) (.slice A187_2 ((rd_T57 l1_2 x12_1).f2).length c187_2)) (fun _ h_ => h_.1))) hb); have n3_ := Aside0.mk (blk_below (g := gb171) (o := .cells #[.bool a1_0, .string a1_1, .slice (some ad187) l1_2.length c1_2] 44 (0, 0)) (by (with_reducible repeat (first | refine blk_drewN ?_ _ | refine blk_drew ?_ | refine blk_alloc ?_ _)); refine blk_far ?_ NB171_188.out _; (with_reducible repeat (first | refine blk_drewN ?_ _ | refine blk_drew ?_ | refine blk_alloc ?_ _)); refine blk_far ?_ NB171_188.out _; (with_reducible repeat (first | refine blk_drewN ?_ _ | refine blk_drew ?_ | refine blk_alloc ?_ _)); refine blk_far ?_ NB171_188.out _; (with_reducible repeat (first | refine blk_drewN ?_ _ | refine blk_drew ?_ | refine blk_alloc ?_ _)); exact BK171.out) hb); have n4_ := Aside0.mk (blk_below (g := gb177) (o := .cells #[.string t172, .slice Ao13 t173.length co13] 30 (0, 0)) (by (with_reducible repeat (first | refine blk_drewN ?_ _ | refine blk_drew ?_ | refine blk_alloc ?_ _)); refine blk_far ?_ NB177_188.out _; (with_reducible repeat (first | refine blk_drewN ?_ _ | refine blk_drew ?_ | refine blk_alloc ?_ _)); refine blk_far ?_ NB177_188.out _; (with_reducible repeat (first | refine blk_drewN ?_ _ | refine blk_drew ?_ | refine blk_alloc ?_ _)); refine blk_far ?_ NB177_188.out _; (with_reducible repeat (first | refine blk_drewN ?_ _ | refine blk_drew ?_ | refine blk_alloc ?_ _)); exact BK177.out) hb); have n5_ := Aside0.mk (blk_below (g := gb188) (o := .cells #[.string ((rd_T57 l1_2 x12_1).f0), .slice A187_1 ((rd_T57 l1_2 x12_1).f1).length c187_1, .slice A187_2 ((rd_T57 l1_2 x12_1).f2).length c187_2] 57 (0, 0)) (by (with_reducible repeat (first | refine blk_drewN ?_ _ | refine blk_drew ?_ | refine blk_alloc ?_ _)); refine blk_put (cs := #[.string ((rd_T57 l1_2 x12_1).f0), .slice A187_1 ((rd_T57 l1_2 x12_1).f1).length c187_1, .slice none 0 0]) ?_ 2 _ rfl; (with_reducible repeat (first | refine blk_drewN ?_ _ | refine blk_drew ?_ | refine blk_alloc ?_ _)); refine blk_put (cs := #[.string ((rd_T57 l1_2 x12_1).f0), .slice none 0 0, .slice none 0 0]) ?_ 1 _ rfl; (with_reducible repeat (first | refine blk_drewN ?_ _ | refine blk_drew ?_ | refine blk_alloc ?_ _)); refine blk_put (cs := #[.string (⟨#[]⟩ : ByteArray), .slice none 0 0, .slice none 0 0]) ?_ 0 _ rfl; (with_reducible repeat (first | refine blk_drewN ?_ _ | refine blk_drew ?_ | refine blk_alloc ?_ _)); exact BK188.out) hb); have n6_ := Aside0.mk (below_step (by repeat (first | (with_reducible first | exact HB.out | apply below_alloc | apply pw_below_drewN | apply below_drew1 | refine below_set ?_ GE171.out | refine below_set ?_ GE177.out | refine below_set ?_ GE188.out) | exact HB.out)) hb); clear HO_10; clear HO_11; clear HO_178001; clear BK171; clear BK177; clear BK188; clear HB; have HO_10 := n0_; have HO_11 := n1_; have HO_178001 := n2_; have BK171 := n3_; have BK177 := n4_; have BK188 := n5_; have HB := n6_; clear n0_ n1_ n2_ n3_ n4_ n5_ n6_; (try clear hb); (try clear hb2); (try clear hk); (try clear hi)))
                go_ret2
                exact ⟨_, by first | rfl | (simp [errW_none, errW_some] <;> rfl) | (simp [*, errW_none, errW_some] <;> rfl), by first | exact Kd.R_nil _ _ _ _ _ | exact Kd.N_nil _ _ _ _ _ | exact Kd.V_nil _ _ _ _ _ | exact Kd.Q_nil _ _ _ _ _ | exact Kd.S_nil _ _ _ _ _, by repeat (first | (with_reducible first | exact HB.out | apply below_alloc | apply pw_below_drewN | apply below_drew1 | refine below_set ?_ GE171.out | refine below_set ?_ GE177.out | refine below_set ?_ GE188.out) | exact HB.out)⟩
            · rw [if_neg c16] at H
              exact absurd H (by simp)
          · rw [if_neg c15] at H
            have c15b0 : decide (x12_1 < (l1_2.length : Int)) = false := decide_eq_false c15
            clear c15
            by_cases c88 : a1_0 = true
            · subst c88
              have H1 : ((some (([] : List ByteArray) : List ByteArray)).bind fun y181 => (if y181.length + l2.length < 8796093022208 then (some ((y181 ++ l2), 0)) else (none))) = some (r1, r2) := by rw [if_pos rfl] at H; exact H
              clear H
              have H := H1
              clear H1
              obtain ⟨y181, hy181⟩ : ∃ y_ : List ByteArray, y_ = (([] : List ByteArray)) := ⟨_, rfl⟩
              replace H : (if y181.length + l2.length < 8796093022208 then (some ((y181 ++ l2), 0)) else (none)) = some (r1, r2) := by first | (rw [hy181]; with_reducible exact H) | (have H2_ := (Option.bind_some _ _).symm.trans H; rw [hy181]; with_reducible exact H2_) | (have H2_ := (Option.bind_some _ _).symm.trans H; with_reducible exact H2_) | with_reducible exact H | (rw [hy181]; exact H) | exact H
              have Ny181 := Aside0.mk hy181
              clear hy181
              by_cases c89 : y181.length + l2.length < 8796093022208
              · rw [if_pos c89] at H
                have LMc89 := Aside0.mk c89
                clear c89
                obtain ⟨y184, hy184⟩ : ∃ y_ : List ByteArray, y_ = (y181 ++ l2) := ⟨_, rfl⟩
                replace H : (some (y184, 0)) = some (r1, r2) := by first | (rw [hy184]; with_reducible exact H) | (have H2_ := (Option.bind_some _ _).symm.trans H; rw [hy184]; with_reducible exact H2_) | (have H2_ := (Option.bind_some _ _).symm.trans H; with_reducible exact H2_) | with_reducible exact H | (rw [hy184]; exact H) | exact H
                have Ny184 := Aside0.mk hy184
                clear hy184
                simp only [Option.some.injEq, Prod.mk.injEq] at H
                obtain ⟨rfl, rfl⟩ := H
                have hnb90 := NB171_177.out
                have hnc90 := NB177_171.out
                have hcz91_0 : wr.cell? ⟨gb171, 0, none⟩ = some (.bool true) := (blk_cell BK171.out 0).trans rfl
                have hcz91_1 : wr.cell? ⟨gb171, 1, none⟩ = some (.string a1_1) := (blk_cell BK171.out 1).trans rfl
                have hcz91_2 : wr.cell? ⟨gb171, 2, none⟩ = some (.slice A1_2 l1_2.length c1_2) := (blk_cell BK171.out 2).trans rfl
                have hfz91_0 := blk_frozen BK171.out 0
                have hfz91_1 := blk_frozen BK171.out 1
                have hfz91_2 := blk_frozen BK171.out 2
                go_wp2_with (first | ((with_reducible refine gate_dst (N := 95) rfl ?_); refine Kd.R_lit Kd.string _ 9 ?hg (N := 95) ?hd (xs := ([] : List ByteArray)) (inner := []) (ok := fun _ => True) (okp := fun _ => True) ?hr ?hp (fun _ hk => hk) trivial (Below.refl _ _) (Nat.le_refl _) (by simp) ?_; (case hd => rfl); (case hg => rfl); (case hr => first | (go_simp; done) | (go_simp; rfl)); (case hp => exact (Reps.none _ _)); intro v182 w92 ho93 hb hg_ hnew_; clear hg_ hnew_; (first | rw [← Ny181.out] at ho93 | (simp only [Int.reduceToNat] at ho93; rw [← Ny181.out] at ho93)); have n0_ := Aside0.mk (Kd.R_elder' (by (with_reducible repeat (first | apply Kd.R_alloc | apply Kd.R_drewN | apply Kd.R_drew)); exact HO_10.out) (Kd.R_base ho93) hb); have n1_ := Aside0.mk (Kd.R_elder' (by (with_reducible repeat (first | apply Kd.R_alloc | apply Kd.R_drewN | apply Kd.R_drew)); exact HO_11.out) (Kd.R_base ho93) hb); have n2_ := Aside0.mk (Kd.V_elder' (by (with_reducible repeat (first | apply Kd.V_alloc | apply Kd.V_drewN | apply Kd.V_drew)); exact HO_178001.out) (Kd.R_base ho93) hb); have n3_ := Aside0.mk (Kd.R_lower (Kd.R_new' (Kd.R_new' ho93 (Kd.R_lt (by (with_reducible repeat (first | apply Kd.R_alloc | apply Kd.R_drewN | apply Kd.R_drew)); exact HO_10.out))) (Kd.R_lt (by (with_reducible repeat (first | apply Kd.R_alloc | apply Kd.R_drewN | apply Kd.R_drew)); exact HO_11.out))) (below_size (by repeat (first | (with_reducible first | exact HB.out | apply below_alloc | apply pw_below_drewN | apply below_drew1 | refine below_set ?_ GE171.out | refine below_set ?_ GE177.out) | exact HB.out)))); have n4_ := Aside0.mk (blk_below (g := gb171) (o := .cells #[.bool true, .string a1_1, .slice A1_2 l1_2.length c1_2] 44 (0, 0)) (by (with_reducible repeat (first | refine blk_drewN ?_ _ | refine blk_drew ?_ | refine blk_alloc ?_ _)); exact BK171.out) hb); have n5_ := Aside0.mk (blk_below (g := gb177) (o := .cells #[.string t172, .slice Ao13 t173.length co13] 30 (0, 0)) (by (with_reducible repeat (first | refine blk_drewN ?_ _ | refine blk_drew ?_ | refine blk_alloc ?_ _)); exact BK177.out) hb); have n6_ := Aside0.mk (below_step (by repeat (first | (with_reducible first | exact HB.out | apply below_alloc | apply pw_below_drewN | apply below_drew1 | refine below_set ?_ GE171.out | refine below_set ?_ GE177.out) | exact HB.out)) hb); clear HO_10; clear HO_11; clear HO_178001; clear BK171; clear BK177; clear HB; have HO_10 := n0_; have HO_11 := n1_; have HO_178001 := n2_; have HO183 := n3_; have BK171 := n4_; have BK177 := n5_; have HB := n6_; clear n0_ n1_ n2_ n3_ n4_ n5_ n6_; clear hb ho93) | ((with_reducible refine gate_builtin (b := .append) (xs := #[.tmp 95, .tmp 96]) rfl ?_); at_builtin; refine Kd.R_append_rows Kd.string (w0 := w) w.heap.size rfl (.tmp 95) (.tmp 96) 26 9 (.string ⟨#[]⟩) 16 rfl Try.underlying26 info9 rfl (by decide) (by omega) v182 y181 l2 _ _ _ (fun k_ => some k_ ≠ (u10 : Value).ownBlock ∧ some k_ ≠ (u11 : Value).ownBlock) (fun _ => False) rfl rfl ?aO ?aR (fun _ _ h => h) (fun _ h => h.elim) ?aF ?aB ?aS ?aL ?_; (case aR => repeat (first | exact (Kd.C_below HR2.out HB.out) | (with_reducible refine Kd.C_alloc ?_ _) | (with_reducible refine Kd.C_drewN ?_ _) | (with_reducible refine Kd.C_drew ?_))); (case aB => exact (by repeat (first | (with_reducible first | exact HB.out | apply below_alloc | apply pw_below_drewN | apply below_drew1 | refine below_set ?_ GE171.out | refine below_set ?_ GE177.out) | exact HB.out))); (case aF => exact (fun k_ hk => ⟨Kd.fresh' (Kd.R_lt (by (with_reducible repeat (first | apply Kd.R_alloc | apply Kd.R_drewN | apply Kd.R_drew)); exact HO_10.out)) k_ hk, Kd.fresh' (Kd.R_lt (by (with_reducible repeat (first | apply Kd.R_alloc | apply Kd.R_drewN | apply Kd.R_drew)); exact HO_11.out)) k_ hk⟩)); (case aO => exact (by (with_reducible repeat (first | apply Kd.R_alloc | apply Kd.R_drewN | apply Kd.R_drew)); exact Kd.R_mono HO183.out (fun _ hk => ⟨hk.1.2, hk.2⟩))); (case aS => exact (below_size (by repeat (first | (with_reducible first | exact HB.out | apply below_alloc | apply pw_below_drewN | apply below_drew1 | refine below_set ?_ GE171.out | refine below_set ?_ GE177.out) | exact HB.out)))); (case aL => have := LMc89.out; omega); intro v185 w94 ho hb hg hat; rw [← Ny184.out] at ho; have n0_ := Aside0.mk (Kd.R_after (ok := (fun k_ => some k_ ≠ (u11 : Value).ownBlock)) (by (with_reducible repeat (first | apply Kd.R_alloc | apply Kd.R_drewN | apply Kd.R_drew)); exact HO_10.out) hg hat); have n1_ := Aside0.mk (Kd.R_after (ok := (fun k_ => some k_ ≠ (u10 : Value).ownBlock)) (by (with_reducible repeat (first | apply Kd.R_alloc | apply Kd.R_drewN | apply Kd.R_drew)); exact HO_11.out) hg hat); have n2_ := Aside0.mk (Kd.V_afterv (ok := (fun k_ => some k_ ≠ (u10 : Value).ownBlock ∧ some k_ ≠ (u11 : Value).ownBlock ∧ k_ ≠ gb171 ∧ k_ ≠ gb177)) (by (with_reducible repeat (first | apply Kd.V_alloc | apply Kd.V_drewN | apply Kd.V_drew)); exact HO_178001.out) hg hat); have n3_ := Aside0.mk (blk_grown (g := gb171) (o := .cells #[.bool true, .string a1_1, .slice A1_2 l1_2.length c1_2] 44 (0, 0)) (by (with_reducible repeat (first | refine blk_drewN ?_ _ | refine blk_drew ?_ | refine blk_alloc ?_ _)); exact BK171.out) hg (Kd.R_ne HO183.out BK171.out (by decide))); have n4_ := Aside0.mk (blk_grown (g := gb177) (o := .cells #[.string t172, .slice Ao13 t173.length co13] 30 (0, 0)) (by (with_reducible repeat (first | refine blk_drewN ?_ _ | refine blk_drew ?_ | refine blk_alloc ?_ _)); exact BK177.out) hg (Kd.R_ne HO183.out BK177.out (by decide))); have n5_ := Aside0.mk (hb); have n6_ := Aside0.mk (ho); clear HO_10; clear HO_11; clear HO_178001; clear BK171; clear BK177; clear HB; clear HO183; have HO_10 := n0_; have HO_11 := n1_; have HO_178001 := n2_; have BK171 := n3_; have BK177 := n4_; have HB := n5_; have HO186 := n6_; clear n0_ n1_ n2_ n3_ n4_ n5_ n6_; clear ho hb hg hat))
                go_ret2
                exact ⟨_, by first | rfl | (simp [errW_none, errW_some] <;> rfl) | (simp [*, errW_none, errW_some] <;> rfl), by (with_reducible repeat (first | apply Kd.R_alloc | apply Kd.R_drewN | apply Kd.R_drew)); exact Kd.R_mono HO186.out (fun _ hk => trivial), by repeat (first | (with_reducible first | exact HB.out | apply below_alloc | apply pw_below_drewN | apply below_drew1 | refine below_set ?_ GE171.out | refine below_set ?_ GE177.out) | exact HB.out)⟩
              · rw [if_neg c89] at H
                exact absurd H (by simp)
            · replace c88 := Bool.eq_false_iff.mpr c88
              subst c88
              have H1 : (some (x10_1, 0)) = some (r1, r2) := by rw [if_neg (show ¬ (false = true) by decide)] at H; exact H
              clear H
              have H := H1
              clear H1
              simp only [Option.some.injEq, Prod.mk.injEq] at H
              obtain ⟨rfl, rfl⟩ := H
              have hnb95 := NB171_177.out
              have hnc95 := NB177_171.out
              have hcz96_0 : wr.cell? ⟨gb171, 0, none⟩ = some (.bool false) := (blk_cell BK171.out 0).trans rfl
              have hcz96_1 : wr.cell? ⟨gb171, 1, none⟩ = some (.string a1_1) := (blk_cell BK171.out 1).trans rfl
              have hcz96_2 : wr.cell? ⟨gb171, 2, none⟩ = some (.slice A1_2 l1_2.length c1_2) := (blk_cell BK171.out 2).trans rfl
              have hfz96_0 := blk_frozen BK171.out 0
              have hfz96_1 := blk_frozen BK171.out 1
              have hfz96_2 := blk_frozen BK171.out 2
              go_wp2
              go_ret2
              exact ⟨_, by first | rfl | (simp [errW_none, errW_some] <;> rfl) | (simp [*, errW_none, errW_some] <;> rfl), by (with_reducible repeat (first | apply Kd.R_alloc | apply Kd.R_drewN | apply Kd.R_drew)); exact Kd.R_mono HO_10.out (fun _ hk => trivial), by repeat (first | (with_reducible first | exact HB.out | apply below_alloc | apply pw_below_drewN | apply below_drew1 | refine below_set ?_ GE171.out | refine below_set ?_ GE177.out) | exact HB.out)⟩
    · rw [if_neg c6] at H
      exact absurd H (by simp)
  · replace c5 := Bool.eq_false_iff.mpr c5
    subst c5
    have H1 : (some (([] : List ByteArray), 18)) = some (r1, r2) := by rw [if_neg (show ¬ (false = true) by decide)] at H; exact H
    clear H
    have H := H1
    clear H1
    simp only [Option.some.injEq, Prod.mk.injEq] at H
    obtain ⟨rfl, rfl⟩ := H
    go_enter Try.func14, Try.ntmps14
    go_wp2_with (first | ((with_reducible refine gate_dst (N := 4) rfl ?_); refine box_event ?hg (N := 4) ?hd (cs := #[.bool a1_0, .string a1_1, .slice A1_2 l1_2.length c1_2]) (t := 44) ?hr ?_; (case hd => rfl); (case hg => rfl); (case hr => first | (go_simp; done) | (go_simp; rfl)); intro gb171 hg w97 hbox hb; have n0_ := Aside0.mk (below_step (by repeat (first | (with_reducible first | exact HB.out | apply below_alloc | apply pw_below_drewN | apply below_drew1) | exact HB.out)) hb); have n1_ := Aside0.mk (hbox); have n2_ := Aside0.mk ((by rw [hg]; exact (below_size (by repeat (first | (with_reducible first | exact HB.out | apply below_alloc | apply pw_below_drewN | apply below_drew1) | exact HB.out))) : w.heap.size ≤ gb171)); have n3_ := Aside0.mk ((by rw [hg]; exact (below_size (by repeat (first | (with_reducible first | exact HB.out | apply below_alloc | apply pw_below_drewN | apply below_drew1) | exact HB.out))) : w.heap.size ≤ gb171)); clear HB; have HB := n0_; have BK171 := n1_; have GW171 := n2_; have GE171 := n3_; clear n0_ n1_ n2_ n3_; clear hb hbox hg; have hcz98_0 : w97.cell? ⟨gb171, 0, none⟩ = some (.bool a1_0) := (blk_cell BK171.out 0).trans rfl; have hcz98_1 : w97.cell? ⟨gb171, 1, none⟩ = some (.string a1_1) := (blk_cell BK171.out 1).trans rfl; have hcz98_2 : w97.cell? ⟨gb171, 2, none⟩ = some (.slice A1_2 l1_2.length c1_2) := (blk_cell BK171.out 2).trans rfl; have hfz98_0 := blk_frozen BK171.out 0; have hfz98_1 := blk_frozen BK171.out 1; have hfz98_2 := blk_frozen BK171.out 2) | ((with_reducible refine gate_callee (f := 10) rfl ?_); refine goesL_ (some 22) rfl rfl Try.func10 (by kernel_rfl) rfl #[.slice A0 l0.length c0, .string a1_1] rfl (by (try simp only [List.map_toArray, List.map_cons, List.map_nil]); first | done | rfl | (simp only [List.length_drop, List.length_take]; rfl)) ?_; (with_reducible refine (intarsiaref17_Find.calls k (fun k_ => k_ < w.heap.size) _ _ l0 a1_1 t172 t173 false _ ?side1 A4.out).mono ?_); (case side1 => exact Kd.V_mk HC0.out (Kd.F_below (Kd.C_F k30_heap HR0.out) (by repeat (first | (with_reducible first | exact HB.out | apply below_alloc | apply pw_below_drewN | apply below_drew1 | refine below_set ?_ GE171.out) | exact HB.out)))); rintro e w99 ⟨v174, rfl, ho0, hb⟩; refine ⟨_, rfl, ?_⟩; have n0_ := Aside0.mk (Kd.V_lower (Kd.V_mono (ok' := fun k_ => k_ ≠ gb171) ho0 (fun k_ hk_ => Or.elim hk_ (fun hs_ => fun e_ => Nat.not_le.2 hs_ (by rw [e_]; exact GW171.out)) (fun hn_ => (Kd.freshB (g := gb171) (o := .cells #[.bool a1_0, .string a1_1, .slice A1_2 l1_2.length c1_2] 44 (0, 0)) (by (with_reducible repeat (first | refine blk_drewN ?_ _ | refine blk_drew ?_ | refine blk_alloc ?_ _)); exact BK171.out) k_ hn_)))) (below_size (by repeat (first | (with_reducible first | exact HB.out | apply below_alloc | apply pw_below_drewN | apply below_drew1 | refine below_set ?_ GE171.out) | exact HB.out)))); have n1_ := Aside0.mk (blk_below (g := gb171) (o := .cells #[.bool a1_0, .string a1_1, .slice A1_2 l1_2.length c1_2] 44 (0, 0)) (by (with_reducible repeat (first | refine blk_drewN ?_ _ | refine blk_drew ?_ | refine blk_alloc ?_ _)); exact BK171.out) hb); have n2_ := Aside0.mk (below_step (by repeat (first | (with_reducible first | exact HB.out | apply below_alloc | apply pw_below_drewN | apply below_drew1 | refine below_set ?_ GE171.out) | exact HB.out)) hb); clear BK171; clear HB; have HO175 := n0_; have BK171 := n1_; have HB := n2_; clear n0_ n1_ n2_; (try clear hb); (try clear hb2); (try clear hk); (try clear hi); (try clear ho0)) | ((with_reducible refine gate_dst (N := 8) rfl ?_); refine box_event ?hg (N := 8) ?hd (cs := #[.string (⟨#[]⟩ : ByteArray), .slice none 0 0]) (t := 30) ?hr ?_; (case hd => rfl); (case hg => rfl); (case hr => first | (go_simp; done) | (go_simp; rfl)); intro gb177 hg w100 hbox hb; have n0_ := Aside0.mk (Kd.V_below (Kd.V_elderB (by (with_reducible repeat (first | apply Kd.V_alloc | apply Kd.V_drewN | apply Kd.V_drew)); exact HO175.out) gb177 (Nat.le_of_eq hg.symm)) hb); have n1_ := Aside0.mk (blk_below (g := gb171) (o := .cells #[.bool a1_0, .string a1_1, .slice A1_2 l1_2.length c1_2] 44 (0, 0)) (by (with_reducible repeat (first | refine blk_drewN ?_ _ | refine blk_drew ?_ | refine blk_alloc ?_ _)); exact BK171.out) hb); have n2_ := Aside0.mk (below_step (by repeat (first | (with_reducible first | exact HB.out | apply below_alloc | apply pw_below_drewN | apply below_drew1 | refine below_set ?_ GE171.out) | exact HB.out)) hb); have n3_ := Aside0.mk (hbox); have n4_ := Aside0.mk ((by rw [hg]; exact (below_size (by repeat (first | (with_reducible first | exact HB.out | apply below_alloc | apply pw_below_drewN | apply below_drew1 | refine below_set ?_ GE171.out) | exact HB.out))) : w.heap.size ≤ gb177)); have n5_ := Aside0.mk ((by rw [hg]; exact (below_size (by repeat (first | (with_reducible first | exact HB.out | apply below_alloc | apply pw_below_drewN | apply below_drew1 | refine below_set ?_ GE171.out) | exact HB.out))) : w.heap.size ≤ gb177)); have n6_ := Aside0.mk ((by rw [hg]; exact Nat.ne_of_lt (blk_lt (g := gb171) (o := .cells #[.bool a1_0, .string a1_1, .slice A1_2 l1_2.length c1_2] 44 (0, 0)) (by (with_reducible repeat (first | refine blk_drewN ?_ _ | refine blk_drew ?_ | refine blk_alloc ?_ _)); exact BK171.out)) : gb171 ≠ gb177)); have n7_ := Aside0.mk ((by rw [hg]; exact Nat.ne_of_gt (blk_lt (g := gb171) (o := .cells #[.bool a1_0, .string a1_1, .slice A1_2 l1_2.length c1_2] 44 (0, 0)) (by (with_reducible repeat (first | refine blk_drewN ?_ _ | refine blk_drew ?_ | refine blk_alloc ?_ _)); exact BK171.out)) : gb177 ≠ gb171)); clear HO175; clear BK171; clear HB; have HO175 := n0_; have BK171 := n1_; have HB := n2_; have BK177 := n3_; have GW177 := n4_; have GE177 := n5_; have NB171_177 := n6_; have NB177_171 := n7_; clear n0_ n1_ n2_ n3_ n4_ n5_ n6_ n7_; clear hb hbox hg; have hnb101 := NB177_171.out; have hnc101 := NB171_177.out; have hcz102_0 : w100.cell? ⟨gb177, 0, none⟩ = some (.string (⟨#[]⟩ : ByteArray)) := (blk_cell BK177.out 0).trans rfl; have hcz102_1 : w100.cell? ⟨gb177, 1, none⟩ = some (.slice none 0 0) := (blk_cell BK177.out 1).trans rfl; have hfz102_0 := blk_frozen BK177.out 0; have hfz102_1 := blk_frozen BK177.out 1; obtain ⟨Ao103, co103, eo103⟩ := Kd.V_slice HO175.out; subst eo103))
    go_ret2
    exact ⟨_, by first | rfl | (simp [errW_none, errW_some] <;> rfl) | (simp [*, errW_none, errW_some] <;> rfl), by first | exact Kd.R_nil _ _ _ _ _ | exact Kd.N_nil _ _ _ _ _ | exact Kd.V_nil _ _ _ _ _ | exact Kd.Q_nil _ _ _ _ _ | exact Kd.S_nil _ _ _ _ _, by repeat (first | (with_reducible first | exact HB.out | apply below_alloc | apply pw_below_drewN | apply below_drew1 | refine below_set ?_ GE171.out | refine below_set ?_ GE177.out) | exact HB.out)⟩

end Go.Proofs.Ytlbcnkmojoinfaa.MCk
