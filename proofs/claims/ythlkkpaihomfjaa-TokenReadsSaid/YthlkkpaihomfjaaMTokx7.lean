/- Written by a program of this session (wip/tools/myprint.py), over the kit's print: the functions that Tok reaches, and their contracts. -/
import Derived.Test.YthlkkpaihomfjaaMTokx0
import Derived.Test.YthlkkpaihomfjaaMTokx1
import Derived.Test.YthlkkpaihomfjaaMTokx2
import Derived.Test.YthlkkpaihomfjaaMTokx3
import Derived.Test.YthlkkpaihomfjaaMTokx4
import Derived.Test.YthlkkpaihomfjaaMTokx5
import Derived.Test.YthlkkpaihomfjaaMTokx6
namespace Go.Proofs.Ythlkkpaihomfjaa.MTok
open Go.RowKit Go.Proofs.Ythlkkpaihomfjaa.Hand Go.Proofs.YthlkkpaihomfjaaW.PrintWords Go.Proofs.YthlkkpaihomfjaaW.PrintLast Go.Proofs.YthlkkpaihomfjaaW.PrintMore
attribute [local go_sem] max2_int min2_int max_two min_two max_three min_three max_four min_four   -- for this text's walks alone
set_option linter.unusedVariables false
set_option linter.unusedSimpArgs false

/-! ### intarsialaw23_TokenLays: function 4 -/
mutual
def intarsialaw23_TokenLays.j0 : Nat → Int → Int → List Int → Bool → Int → List Int → Bool → Option (Bool)
  | 0, _, _, _, _, _, _, _ => none
  | k + 1, x0, x1, x7, x62, x237000, x237001, x237002 => if x62 = true then (some false) else ((token_Left.f k x7 x1).bind fun bt246 => ((intarsiaref23_Left.f k x7 x1).bind fun bt248 => ((token_Use.f k x0 x1 x7).bind fun bt250 => ((intarsiaref23_Use.f k x0 x1 x7).bind fun bt252 => (if bt246.1.toList = bt248.1.toList then (if bt246.2 = bt248.2 then (if bt250.1.toList = bt252.1.toList then (intarsialaw23_TokenLays.j1 k (bt250.2 != bt252.2) x237000 x237001 x237002) else (intarsialaw23_TokenLays.j1 k true x237000 x237001 x237002)) else (intarsialaw23_TokenLays.j1 k true x237000 x237001 x237002)) else (intarsialaw23_TokenLays.j1 k true x237000 x237001 x237002))))))
def intarsialaw23_TokenLays.j1 : Nat → Bool → Int → List Int → Bool → Option (Bool)
  | 0, _, _, _, _ => none
  | k + 1, x106, x237000, x237001, x237002 => if x106 = true then (some false) else ((token_Entry.f k x237000 x237001 x237002).bind fun bt254 => ((intarsiaref23_Entry.f k x237000 x237001 x237002).bind fun bt256 => (if bt254.1.toList = bt256.1.toList then (if bt254.2 = bt256.2 then ((intarsialaw23_awake.f k).bind fun t258 => (some t258)) else (some false)) else (some false))))
end
def intarsialaw23_TokenLays.f (k : Nat) (a0 : Int) (a1 : Int) (a2_0 : Int) (l2_1 : List Int) (a2_2 : Bool) : Option (Bool) := if (l2_1.length : Int) > 20 then ((intarsialaw23_awake.f k).bind fun t237 => (some t237)) else ((token_Tags.f l2_1).bind fun bt238 => ((intarsiaref23_Tags.f k l2_1).bind fun bt240 => ((token_Node.f k a0 a1).bind fun bt242 => ((intarsiaref23_Node.f a0 a1).bind fun bt244 => (if bt238.1.toList = bt240.1.toList then (if bt238.2 = bt240.2 then (if bt242.1.toList = bt244.1.toList then (intarsialaw23_TokenLays.j0 k a0 a1 l2_1 (bt242.2 != bt244.2) a2_0 l2_1 a2_2) else (intarsialaw23_TokenLays.j0 k a0 a1 l2_1 true a2_0 l2_1 a2_2)) else (intarsialaw23_TokenLays.j0 k a0 a1 l2_1 true a2_0 l2_1 a2_2)) else (intarsialaw23_TokenLays.j0 k a0 a1 l2_1 true a2_0 l2_1 a2_2))))))
theorem intarsialaw23_TokenLays.mono_l : ∀ k, (∀ y0 y1 y2 y3 y4 y5 y6, LeO (intarsialaw23_TokenLays.j0 k y0 y1 y2 y3 y4 y5 y6) (intarsialaw23_TokenLays.j0 (k + 1) y0 y1 y2 y3 y4 y5 y6)) ∧ (∀ y0 y1 y2 y3, LeO (intarsialaw23_TokenLays.j1 k y0 y1 y2 y3) (intarsialaw23_TokenLays.j1 (k + 1) y0 y1 y2 y3))
  | 0 => ⟨fun _ _ _ _ _ _ _ r h => by simp [intarsialaw23_TokenLays.j0] at h, fun _ _ _ _ r h => by simp [intarsialaw23_TokenLays.j1] at h⟩
  | k + 1 => by
    obtain ⟨ih0, ih1⟩ := intarsialaw23_TokenLays.mono_l k
    refine ⟨?_, ?_⟩
    · intro y0 y1 y2 y3 y4 y5 y6
      unfold intarsialaw23_TokenLays.j0
      repeat' first
      | (with_reducible exact ih0 _ _ _ _ _ _ _)
      | (with_reducible exact ih1 _ _ _ _)
      | (with_reducible exact intarsialaw23_awake.mono _)
      | (with_reducible exact intarsiaref23_Entry.mono _ _ _ _)
      | (with_reducible exact intarsiaref23_Left.mono _ _ _)
      | (with_reducible exact intarsiaref23_Tags.mono _ _)
      | (with_reducible exact intarsiaref23_Use.mono _ _ _ _)
      | (with_reducible exact token_Entry.mono _ _ _ _)
      | (with_reducible exact token_Left.mono _ _ _)
      | (with_reducible exact token_Node.mono _ _ _)
      | (with_reducible exact token_Use.mono _ _ _ _)
      | (with_reducible exact LeO.refl _)
      | (with_reducible exact LeO.none _)
      | (with_reducible refine LeO.ite ?_ ?_)
      | (with_reducible refine LeO.bind ?_ (fun _ => ?_))
      | exact ih0 _ _ _ _ _ _ _
      | exact ih1 _ _ _ _
      | exact intarsialaw23_awake.mono _
      | exact intarsiaref23_Entry.mono _ _ _ _
      | exact intarsiaref23_Left.mono _ _ _
      | exact intarsiaref23_Tags.mono _ _
      | exact intarsiaref23_Use.mono _ _ _ _
      | exact token_Entry.mono _ _ _ _
      | exact token_Left.mono _ _ _
      | exact token_Node.mono _ _ _
      | exact token_Use.mono _ _ _ _
      | exact LeO.none _
      | refine LeO.ite ?_ ?_
      | refine LeO.bind ?_ (fun _ => ?_)
    · intro y0 y1 y2 y3
      unfold intarsialaw23_TokenLays.j1
      repeat' first
      | (with_reducible exact ih0 _ _ _ _ _ _ _)
      | (with_reducible exact ih1 _ _ _ _)
      | (with_reducible exact intarsialaw23_awake.mono _)
      | (with_reducible exact intarsiaref23_Entry.mono _ _ _ _)
      | (with_reducible exact intarsiaref23_Left.mono _ _ _)
      | (with_reducible exact intarsiaref23_Tags.mono _ _)
      | (with_reducible exact intarsiaref23_Use.mono _ _ _ _)
      | (with_reducible exact token_Entry.mono _ _ _ _)
      | (with_reducible exact token_Left.mono _ _ _)
      | (with_reducible exact token_Node.mono _ _ _)
      | (with_reducible exact token_Use.mono _ _ _ _)
      | (with_reducible exact LeO.refl _)
      | (with_reducible exact LeO.none _)
      | (with_reducible refine LeO.ite ?_ ?_)
      | (with_reducible refine LeO.bind ?_ (fun _ => ?_))
      | exact ih0 _ _ _ _ _ _ _
      | exact ih1 _ _ _ _
      | exact intarsialaw23_awake.mono _
      | exact intarsiaref23_Entry.mono _ _ _ _
      | exact intarsiaref23_Left.mono _ _ _
      | exact intarsiaref23_Tags.mono _ _
      | exact intarsiaref23_Use.mono _ _ _ _
      | exact token_Entry.mono _ _ _ _
      | exact token_Left.mono _ _ _
      | exact token_Node.mono _ _ _
      | exact token_Use.mono _ _ _ _
      | exact LeO.none _
      | refine LeO.ite ?_ ?_
      | refine LeO.bind ?_ (fun _ => ?_)
theorem intarsialaw23_TokenLays.mono : ∀ a0 a1 a2 a3 a4 k, LeO (intarsialaw23_TokenLays.f k a0 a1 a2 a3 a4) (intarsialaw23_TokenLays.f (k + 1) a0 a1 a2 a3 a4) := by
  intro a0 a1 a2 a3 a4 k
  obtain ⟨ih0, ih1⟩ := intarsialaw23_TokenLays.mono_l k
  unfold intarsialaw23_TokenLays.f
  repeat' first
      | (with_reducible exact ih0 _ _ _ _ _ _ _)
      | (with_reducible exact ih1 _ _ _ _)
      | (with_reducible exact intarsialaw23_awake.mono _)
      | (with_reducible exact intarsiaref23_Entry.mono _ _ _ _)
      | (with_reducible exact intarsiaref23_Left.mono _ _ _)
      | (with_reducible exact intarsiaref23_Tags.mono _ _)
      | (with_reducible exact intarsiaref23_Use.mono _ _ _ _)
      | (with_reducible exact token_Entry.mono _ _ _ _)
      | (with_reducible exact token_Left.mono _ _ _)
      | (with_reducible exact token_Node.mono _ _ _)
      | (with_reducible exact token_Use.mono _ _ _ _)
      | (with_reducible exact LeO.refl _)
      | (with_reducible exact LeO.none _)
      | (with_reducible refine LeO.ite ?_ ?_)
      | (with_reducible refine LeO.bind ?_ (fun _ => ?_))
      | exact ih0 _ _ _ _ _ _ _
      | exact ih1 _ _ _ _
      | exact intarsialaw23_awake.mono _
      | exact intarsiaref23_Entry.mono _ _ _ _
      | exact intarsiaref23_Left.mono _ _ _
      | exact intarsiaref23_Tags.mono _ _
      | exact intarsiaref23_Use.mono _ _ _ _
      | exact token_Entry.mono _ _ _ _
      | exact token_Left.mono _ _ _
      | exact token_Node.mono _ _ _
      | exact token_Use.mono _ _ _ _
      | exact LeO.none _
      | refine LeO.ite ?_ ?_
      | refine LeO.bind ?_ (fun _ => ?_)
set_option maxHeartbeats 8000000 in
set_option maxRecDepth 100000 in
theorem intarsialaw23_TokenLays.calls (k : Nat) (a0 : Int) (a1 : Int) (a2_0 : Int) (A2_1 : Option Addr) (c2_1 : Nat) (l2_1 : List Int) (a2_2 : Bool) (r : Bool) (w : World) (hr2_1 : Kd.C (Kd.int .i64) w A2_1 l2_1.length l2_1) (hc2_1 : l2_1.length ≤ c2_1) (h : intarsialaw23_TokenLays.f k a0 a1 a2_0 l2_1 a2_2 = some r) :
    Calls Try.prog 4 #[.int .u8 a0, .int .i64 a1, .agg #[.int .i64 a2_0, .slice A2_1 l2_1.length c2_1, .bool a2_2]] w fun e w' => e = .returned (.bool r) ∧ Below w.heap.size w w' := by
  have hu31 := Try.underlying31
  have HR2_1 := Aside0.mk hr2_1
  have HC2_1 := Aside0.mk hc2_1
  clear hr2_1 hc2_1
  have HB := Aside0.mk (Below.refl w.heap.size w)
  have H : (if (l2_1.length : Int) > 20 then ((intarsialaw23_awake.f k).bind fun t237 => (some t237)) else ((token_Tags.f l2_1).bind fun bt238 => ((intarsiaref23_Tags.f k l2_1).bind fun bt240 => ((token_Node.f k a0 a1).bind fun bt242 => ((intarsiaref23_Node.f a0 a1).bind fun bt244 => (if bt238.1.toList = bt240.1.toList then (if bt238.2 = bt240.2 then (if bt242.1.toList = bt244.1.toList then (intarsialaw23_TokenLays.j0 k a0 a1 l2_1 (bt242.2 != bt244.2) a2_0 l2_1 a2_2) else (intarsialaw23_TokenLays.j0 k a0 a1 l2_1 true a2_0 l2_1 a2_2)) else (intarsialaw23_TokenLays.j0 k a0 a1 l2_1 true a2_0 l2_1 a2_2)) else (intarsialaw23_TokenLays.j0 k a0 a1 l2_1 true a2_0 l2_1 a2_2))))))) = some r := h
  clear h
  by_cases c4 : (l2_1.length : Int) > 20
  · rw [if_pos c4] at H
    have c4b0 : decide (20 < (l2_1.length : Int)) = true := decide_eq_true c4
    have c4b1 : decide (20 < l2_1.length) = true := decide_eq_true (by omega)
    clear c4
    replace H := Option.bind_eq_some_iff.mp H
    obtain ⟨t237, A50, H⟩ := H
    replace H : (some t237) = some r := H
    have A5 := Aside0.mk A50
    clear A50
    obtain rfl := Option.some.inj H
    go_enter Try.func4, Try.ntmps4
    go_wp2_with (first | ((with_reducible refine gate_dst (N := 5) rfl ?_); refine box_event ?hg (N := 5) ?hd (cs := #[.int .i64 a2_0, .slice A2_1 l2_1.length c2_1, .bool a2_2]) (t := 31) ?hr ?_; (case hd => rfl); (case hg => rfl); (case hr => first | (go_simp; done) | (go_simp; rfl)); intro gb236 hg w6 hbox hb; have n0_ := Aside0.mk (below_step (by repeat (first | (with_reducible first | exact HB.out | apply below_alloc | apply pw_below_drewN | apply below_drew1) | exact HB.out)) hb); have n1_ := Aside0.mk (hbox); have n2_ := Aside0.mk ((by rw [hg]; exact (below_size (by repeat (first | (with_reducible first | exact HB.out | apply below_alloc | apply pw_below_drewN | apply below_drew1) | exact HB.out))) : w.heap.size ≤ gb236)); have n3_ := Aside0.mk ((by rw [hg]; exact (below_size (by repeat (first | (with_reducible first | exact HB.out | apply below_alloc | apply pw_below_drewN | apply below_drew1) | exact HB.out))) : w.heap.size ≤ gb236)); clear HB; have HB := n0_; have BK236 := n1_; have GW236 := n2_; have GE236 := n3_; clear n0_ n1_ n2_ n3_; clear hb hbox hg; have hcz7_0 : w6.cell? ⟨gb236, 0, none⟩ = some (.int .i64 a2_0) := (blk_cell BK236.out 0).trans rfl; have hcz7_1 : w6.cell? ⟨gb236, 1, none⟩ = some (.slice A2_1 l2_1.length c2_1) := (blk_cell BK236.out 1).trans rfl; have hcz7_2 : w6.cell? ⟨gb236, 2, none⟩ = some (.bool a2_2) := (blk_cell BK236.out 2).trans rfl; have hfz7_0 := blk_frozen BK236.out 0; have hfz7_1 := blk_frozen BK236.out 1; have hfz7_2 := blk_frozen BK236.out 2) | ((with_reducible refine gate_callee (f := 7) rfl ?_); refine goesL_ (some 22) rfl rfl Try.func7 (by kernel_rfl) rfl #[] rfl (by (try simp only [List.map_toArray, List.map_cons, List.map_nil]); first | done | rfl | (simp only [List.length_drop, List.length_take]; rfl)) ?_; (with_reducible refine (intarsialaw23_awake.calls k  t237 _ A5.out).mono ?_); rintro e w8 ⟨rfl, hb⟩; refine ⟨_, rfl, ?_⟩; have n0_ := Aside0.mk (blk_below (g := gb236) (o := .cells #[.int .i64 a2_0, .slice A2_1 l2_1.length c2_1, .bool a2_2] 31 (0, 0)) (by (with_reducible repeat (first | refine blk_drewN ?_ _ | refine blk_drew ?_ | refine blk_alloc ?_ _)); exact BK236.out) hb); have n1_ := Aside0.mk (below_step (by repeat (first | (with_reducible first | exact HB.out | apply below_alloc | apply pw_below_drewN | apply below_drew1 | refine below_set ?_ GE236.out) | exact HB.out)) hb); clear BK236; clear HB; have BK236 := n0_; have HB := n1_; clear n0_ n1_; (try clear hb); (try clear hb2); (try clear hk); (try clear hi)))
    go_ret
    exact ⟨by first | rfl | (simp [errW_none, errW_some] <;> rfl) | (simp [*, errW_none, errW_some] <;> rfl), by repeat (first | (with_reducible first | exact HB.out | apply below_alloc | apply pw_below_drewN | apply below_drew1 | refine below_set ?_ GE236.out) | exact HB.out)⟩
  · rw [if_neg c4] at H
    have c4b0 : decide (20 < (l2_1.length : Int)) = false := decide_eq_false c4
    have c4b1 : decide (20 < l2_1.length) = false := decide_eq_false (by omega)
    clear c4
    replace H := Option.bind_eq_some_iff.mp H
    obtain ⟨⟨t238, t239⟩, A90, H⟩ := H
    replace H : ((intarsiaref23_Tags.f k l2_1).bind fun bt240 => ((token_Node.f k a0 a1).bind fun bt242 => ((intarsiaref23_Node.f a0 a1).bind fun bt244 => (if t238.toList = bt240.1.toList then (if t239 = bt240.2 then (if bt242.1.toList = bt244.1.toList then (intarsialaw23_TokenLays.j0 k a0 a1 l2_1 (bt242.2 != bt244.2) a2_0 l2_1 a2_2) else (intarsialaw23_TokenLays.j0 k a0 a1 l2_1 true a2_0 l2_1 a2_2)) else (intarsialaw23_TokenLays.j0 k a0 a1 l2_1 true a2_0 l2_1 a2_2)) else (intarsialaw23_TokenLays.j0 k a0 a1 l2_1 true a2_0 l2_1 a2_2))))) = some r := H
    have A9 := Aside0.mk A90
    clear A90
    replace H := Option.bind_eq_some_iff.mp H
    obtain ⟨⟨t240, t241⟩, A100, H⟩ := H
    replace H : ((token_Node.f k a0 a1).bind fun bt242 => ((intarsiaref23_Node.f a0 a1).bind fun bt244 => (if t238.toList = t240.toList then (if t239 = t241 then (if bt242.1.toList = bt244.1.toList then (intarsialaw23_TokenLays.j0 k a0 a1 l2_1 (bt242.2 != bt244.2) a2_0 l2_1 a2_2) else (intarsialaw23_TokenLays.j0 k a0 a1 l2_1 true a2_0 l2_1 a2_2)) else (intarsialaw23_TokenLays.j0 k a0 a1 l2_1 true a2_0 l2_1 a2_2)) else (intarsialaw23_TokenLays.j0 k a0 a1 l2_1 true a2_0 l2_1 a2_2)))) = some r := H
    have A10 := Aside0.mk A100
    clear A100
    replace H := Option.bind_eq_some_iff.mp H
    obtain ⟨⟨t242, t243⟩, A110, H⟩ := H
    replace H : ((intarsiaref23_Node.f a0 a1).bind fun bt244 => (if t238.toList = t240.toList then (if t239 = t241 then (if t242.toList = bt244.1.toList then (intarsialaw23_TokenLays.j0 k a0 a1 l2_1 (t243 != bt244.2) a2_0 l2_1 a2_2) else (intarsialaw23_TokenLays.j0 k a0 a1 l2_1 true a2_0 l2_1 a2_2)) else (intarsialaw23_TokenLays.j0 k a0 a1 l2_1 true a2_0 l2_1 a2_2)) else (intarsialaw23_TokenLays.j0 k a0 a1 l2_1 true a2_0 l2_1 a2_2))) = some r := H
    have A11 := Aside0.mk A110
    clear A110
    replace H := Option.bind_eq_some_iff.mp H
    obtain ⟨⟨t244, t245⟩, A120, H⟩ := H
    replace H : (if t238.toList = t240.toList then (if t239 = t241 then (if t242.toList = t244.toList then (intarsialaw23_TokenLays.j0 k a0 a1 l2_1 (t243 != t245) a2_0 l2_1 a2_2) else (intarsialaw23_TokenLays.j0 k a0 a1 l2_1 true a2_0 l2_1 a2_2)) else (intarsialaw23_TokenLays.j0 k a0 a1 l2_1 true a2_0 l2_1 a2_2)) else (intarsialaw23_TokenLays.j0 k a0 a1 l2_1 true a2_0 l2_1 a2_2)) = some r := H
    have A12 := Aside0.mk A120
    clear A120
    have HC13 := Aside0.mk H
    clear H
    go_enter Try.func4, Try.ntmps4
    go_upto_region 8 with (first | ((with_reducible refine gate_dst (N := 5) rfl ?_); refine box_event ?hg (N := 5) ?hd (cs := #[.int .i64 a2_0, .slice A2_1 l2_1.length c2_1, .bool a2_2]) (t := 31) ?hr ?_; (case hd => rfl); (case hg => rfl); (case hr => first | (go_simp; done) | (go_simp; rfl)); intro gb236 hg w14 hbox hb; have n0_ := Aside0.mk (below_step (by repeat (first | (with_reducible first | exact HB.out | apply below_alloc | apply pw_below_drewN | apply below_drew1) | exact HB.out)) hb); have n1_ := Aside0.mk (hbox); have n2_ := Aside0.mk ((by rw [hg]; exact (below_size (by repeat (first | (with_reducible first | exact HB.out | apply below_alloc | apply pw_below_drewN | apply below_drew1) | exact HB.out))) : w.heap.size ≤ gb236)); have n3_ := Aside0.mk ((by rw [hg]; exact (below_size (by repeat (first | (with_reducible first | exact HB.out | apply below_alloc | apply pw_below_drewN | apply below_drew1) | exact HB.out))) : w.heap.size ≤ gb236)); clear HB; have HB := n0_; have BK236 := n1_; have GW236 := n2_; have GE236 := n3_; clear n0_ n1_ n2_ n3_; clear hb hbox hg; have hcz15_0 : w14.cell? ⟨gb236, 0, none⟩ = some (.int .i64 a2_0) := (blk_cell BK236.out 0).trans rfl; have hcz15_1 : w14.cell? ⟨gb236, 1, none⟩ = some (.slice A2_1 l2_1.length c2_1) := (blk_cell BK236.out 1).trans rfl; have hcz15_2 : w14.cell? ⟨gb236, 2, none⟩ = some (.bool a2_2) := (blk_cell BK236.out 2).trans rfl; have hfz15_0 := blk_frozen BK236.out 0; have hfz15_1 := blk_frozen BK236.out 1; have hfz15_2 := blk_frozen BK236.out 2) | ((with_reducible refine gate_callee (f := 8) rfl ?_); refine goesL_ (some 25) rfl rfl Try.func8 (by kernel_rfl) rfl #[.slice A2_1 l2_1.length c2_1] rfl (by (try simp only [List.map_toArray, List.map_cons, List.map_nil]); first | done | rfl | (simp only [List.length_drop, List.length_take]; rfl)) ?_; (with_reducible refine (token_Tags.calls _ _ l2_1 t238 t239 _ ?side1 ?side2 A9.out).mono ?_); (case side1 => repeat (first | exact (Kd.C_below HR2_1.out HB.out) | (with_reducible refine Kd.C_alloc ?_ _) | (with_reducible refine Kd.C_drewN ?_ _) | (with_reducible refine Kd.C_drew ?_))); (case side2 => exact HC2_1.out); rintro e w16 ⟨rfl, hb⟩; refine ⟨_, rfl, ?_⟩; have n0_ := Aside0.mk (blk_below (g := gb236) (o := .cells #[.int .i64 a2_0, .slice A2_1 l2_1.length c2_1, .bool a2_2] 31 (0, 0)) (by (with_reducible repeat (first | refine blk_drewN ?_ _ | refine blk_drew ?_ | refine blk_alloc ?_ _)); exact BK236.out) hb); have n1_ := Aside0.mk (below_step (by repeat (first | (with_reducible first | exact HB.out | apply below_alloc | apply pw_below_drewN | apply below_drew1 | refine below_set ?_ GE236.out) | exact HB.out)) hb); clear BK236; clear HB; have BK236 := n0_; have HB := n1_; clear n0_ n1_; (try clear hb); (try clear hb2); (try clear hk); (try clear hi)) | ((with_reducible refine gate_callee (f := 11) rfl ?_); refine goesL_ (some 30) rfl rfl Try.func11 (by kernel_rfl) rfl #[.slice A2_1 l2_1.length c2_1] rfl (by (try simp only [List.map_toArray, List.map_cons, List.map_nil]); first | done | rfl | (simp only [List.length_drop, List.length_take]; rfl)) ?_; (with_reducible refine (intarsiaref23_Tags.calls k _ _ l2_1 t240 t241 _ ?side1 ?side2 A10.out).mono ?_); (case side1 => repeat (first | exact (Kd.C_below HR2_1.out HB.out) | (with_reducible refine Kd.C_alloc ?_ _) | (with_reducible refine Kd.C_drewN ?_ _) | (with_reducible refine Kd.C_drew ?_))); (case side2 => exact HC2_1.out); rintro e w17 ⟨rfl, hb⟩; refine ⟨_, rfl, ?_⟩; have n0_ := Aside0.mk (blk_below (g := gb236) (o := .cells #[.int .i64 a2_0, .slice A2_1 l2_1.length c2_1, .bool a2_2] 31 (0, 0)) (by (with_reducible repeat (first | refine blk_drewN ?_ _ | refine blk_drew ?_ | refine blk_alloc ?_ _)); exact BK236.out) hb); have n1_ := Aside0.mk (below_step (by repeat (first | (with_reducible first | exact HB.out | apply below_alloc | apply pw_below_drewN | apply below_drew1 | refine below_set ?_ GE236.out) | exact HB.out)) hb); clear BK236; clear HB; have BK236 := n0_; have HB := n1_; clear n0_ n1_; (try clear hb); (try clear hb2); (try clear hk); (try clear hi)) | ((with_reducible refine gate_callee (f := 12) rfl ?_); refine goesL_ (some 36) rfl rfl Try.func12 (by kernel_rfl) rfl #[.int .u8 a0, .int .i64 a1] rfl (by (try simp only [List.map_toArray, List.map_cons, List.map_nil]); first | done | rfl | (simp only [List.length_drop, List.length_take]; rfl)) ?_; (with_reducible refine (token_Node.calls k a0 a1 t242 t243 _ A11.out).mono ?_); rintro e w18 ⟨rfl, hb⟩; refine ⟨_, rfl, ?_⟩; have n0_ := Aside0.mk (blk_below (g := gb236) (o := .cells #[.int .i64 a2_0, .slice A2_1 l2_1.length c2_1, .bool a2_2] 31 (0, 0)) (by (with_reducible repeat (first | refine blk_drewN ?_ _ | refine blk_drew ?_ | refine blk_alloc ?_ _)); exact BK236.out) hb); have n1_ := Aside0.mk (below_step (by repeat (first | (with_reducible first | exact HB.out | apply below_alloc | apply pw_below_drewN | apply below_drew1 | refine below_set ?_ GE236.out) | exact HB.out)) hb); clear BK236; clear HB; have BK236 := n0_; have HB := n1_; clear n0_ n1_; (try clear hb); (try clear hb2); (try clear hk); (try clear hi)) | ((with_reducible refine gate_callee (f := 13) rfl ?_); refine goesL_ (some 42) rfl rfl Try.func13 (by kernel_rfl) rfl #[.int .u8 a0, .int .i64 a1] rfl (by (try simp only [List.map_toArray, List.map_cons, List.map_nil]); first | done | rfl | (simp only [List.length_drop, List.length_take]; rfl)) ?_; (with_reducible refine (intarsiaref23_Node.calls a0 a1 t244 t245 _ A12.out).mono ?_); rintro e w19 ⟨rfl, hb⟩; refine ⟨_, rfl, ?_⟩; have n0_ := Aside0.mk (blk_below (g := gb236) (o := .cells #[.int .i64 a2_0, .slice A2_1 l2_1.length c2_1, .bool a2_2] 31 (0, 0)) (by (with_reducible repeat (first | refine blk_drewN ?_ _ | refine blk_drew ?_ | refine blk_alloc ?_ _)); exact BK236.out) hb); have n1_ := Aside0.mk (below_step (by repeat (first | (with_reducible first | exact HB.out | apply below_alloc | apply pw_below_drewN | apply below_drew1 | refine below_set ?_ GE236.out) | exact HB.out)) hb); clear BK236; clear HB; have BK236 := n0_; have HB := n1_; clear n0_ n1_; (try clear hb); (try clear hb2); (try clear hk); (try clear hi)))
    (try simp only [Act.put, List.setIfInBounds_toArray, List.set_cons_zero, List.set_cons_succ])
    go_cut [62] (fun v62 wc => ∃ (kq : Nat) (x62_12 : Bool), v62 = .bool x62_12 ∧ Aside0 (intarsialaw23_TokenLays.j0 kq a0 a1 l2_1 x62_12 a2_0 l2_1 a2_2 = some r) ∧ Aside0 (kq ≤ k) ∧ Aside0 (wc.heap[gb236]? = some (.cells #[.int .i64 a2_0, (.slice A2_1 l2_1.length c2_1), .bool a2_2] 31 (0, 0))) ∧ Aside0 (Below w.heap.size w wc))
    case first =>
      have H := HC13.out
      clear HC13
      by_cases c20 : t238.toList = t240.toList
      · rw [if_pos c20] at H
        have c20b0 : (t238.toList == t240.toList) = true := beq_iff_eq.mpr c20
        have c20b1 : (t238.toList != t240.toList) = false := bne_eq_false_iff_eq.mpr c20
        clear c20
        (first | rw [c20b0] | (simp only [i64_w, i32_w]; rw [c20b0]) | skip)
        by_cases c21 : t239 = t241
        · rw [if_pos c21] at H
          have c21b0 : (t239 == t241) = true := beq_iff_eq.mpr c21
          have c21b1 : (t239 != t241) = false := bne_eq_false_iff_eq.mpr c21
          clear c21
          by_cases c22 : t242.toList = t244.toList
          · rw [if_pos c22] at H
            have c22b0 : (t242.toList == t244.toList) = true := beq_iff_eq.mpr c22
            have c22b1 : (t242.toList != t244.toList) = false := bne_eq_false_iff_eq.mpr c22
            clear c22
            have H' := Aside0.mk H
            clear H
            go_wp2
            go_meet
            case rel => exact ⟨_, ((t243 != t245)), (by first | rfl | (simp; done) | (simp [*]; done)), H', ⟨by first | omega | exact Nat.le_refl _⟩, ⟨by (with_reducible repeat (first | refine blk_drewN ?_ _ | refine blk_drew ?_ | refine blk_alloc ?_ _)); exact BK236.out⟩, ⟨by repeat (first | (with_reducible first | exact HB.out | apply below_alloc | apply pw_below_drewN | apply below_drew1 | refine below_set ?_ GE236.out) | exact HB.out)⟩⟩
          · rw [if_neg c22] at H
            have c22b0 : (t242.toList == t244.toList) = false := beq_eq_false_iff_ne.mpr c22
            have c22b1 : (t242.toList != t244.toList) = true := bne_iff_ne.mpr c22
            have H' := Aside0.mk H
            clear H
            go_wp2
            go_meet
            case rel => exact ⟨_, (true), (by first | rfl | (simp; done) | (simp [*]; done)), H', ⟨by first | omega | exact Nat.le_refl _⟩, ⟨by (with_reducible repeat (first | refine blk_drewN ?_ _ | refine blk_drew ?_ | refine blk_alloc ?_ _)); exact BK236.out⟩, ⟨by repeat (first | (with_reducible first | exact HB.out | apply below_alloc | apply pw_below_drewN | apply below_drew1 | refine below_set ?_ GE236.out) | exact HB.out)⟩⟩
        · rw [if_neg c21] at H
          have c21b0 : (t239 == t241) = false := beq_eq_false_iff_ne.mpr c21
          have c21b1 : (t239 != t241) = true := bne_iff_ne.mpr c21
          have H' := Aside0.mk H
          clear H
          go_wp2
          go_meet
          case rel => exact ⟨_, (true), (by first | rfl | (simp; done) | (simp [*]; done)), H', ⟨by first | omega | exact Nat.le_refl _⟩, ⟨by (with_reducible repeat (first | refine blk_drewN ?_ _ | refine blk_drew ?_ | refine blk_alloc ?_ _)); exact BK236.out⟩, ⟨by repeat (first | (with_reducible first | exact HB.out | apply below_alloc | apply pw_below_drewN | apply below_drew1 | refine below_set ?_ GE236.out) | exact HB.out)⟩⟩
      · rw [if_neg c20] at H
        have c20b0 : (t238.toList == t240.toList) = false := beq_eq_false_iff_ne.mpr c20
        have c20b1 : (t238.toList != t240.toList) = true := bne_iff_ne.mpr c20
        (first | rw [c20b0] | (simp only [i64_w, i32_w]; rw [c20b0]) | skip)
        have H' := Aside0.mk H
        clear H
        go_wp2
        go_meet
        case rel => exact ⟨_, (true), (by first | rfl | (simp; done) | (simp [*]; done)), H', ⟨by first | omega | exact Nat.le_refl _⟩, ⟨by (with_reducible repeat (first | refine blk_drewN ?_ _ | refine blk_drew ?_ | refine blk_alloc ?_ _)); exact BK236.out⟩, ⟨by repeat (first | (with_reducible first | exact HB.out | apply below_alloc | apply pw_below_drewN | apply below_drew1 | refine below_set ?_ GE236.out) | exact HB.out)⟩⟩
    case rest =>
      clear HC13
      try clear c1
      try clear c2
      try clear p2
      try clear c4
      try clear c4b0
      try clear c4b1
      try clear c7
      try clear c8
      try clear c11
      try clear c12
      try clear c13
      try clear c20
      try clear c20b0
      try clear c20b1
      try clear c21
      try clear c21b0
      try clear c21b1
      try clear c22
      try clear c22b0
      try clear c22b1
      try clear hcz15_0
      try clear hcz15_1
      try clear hcz15_2
      try clear hcz7_0
      try clear hcz7_1
      try clear hcz7_2
      try clear hfz15_0
      try clear hfz15_1
      try clear hfz15_2
      try clear hfz7_0
      try clear hfz7_1
      try clear hfz7_2
      obtain ⟨kq, x62_12, rfl, HA, HJ12, BK236, HB⟩ := hcut
      cases kq with
      | zero => exact absurd HA.out (by simp [intarsialaw23_TokenLays.j0])
      | succ kj12 =>
        have H := HA.out
        clear HA
        simp only [intarsialaw23_TokenLays.j0] at H
        by_cases c23 : x62_12 = true
        · subst c23
          have H1 : (some false) = some r := by rw [if_pos rfl] at H; exact H
          clear H
          have H := H1
          clear H1
          obtain rfl := Option.some.inj H
          go_wp2
          go_ret
          exact ⟨by first | rfl | (simp [errW_none, errW_some] <;> rfl) | (simp [*, errW_none, errW_some] <;> rfl), by repeat (first | (with_reducible first | exact HB.out | apply below_alloc | apply pw_below_drewN | apply below_drew1 | refine below_set ?_ GE236.out) | exact HB.out)⟩
        · replace c23 := Bool.eq_false_iff.mpr c23
          subst c23
          have H1 : ((token_Left.f kj12 l2_1 a1).bind fun bt246 => ((intarsiaref23_Left.f kj12 l2_1 a1).bind fun bt248 => ((token_Use.f kj12 a0 a1 l2_1).bind fun bt250 => ((intarsiaref23_Use.f kj12 a0 a1 l2_1).bind fun bt252 => (if bt246.1.toList = bt248.1.toList then (if bt246.2 = bt248.2 then (if bt250.1.toList = bt252.1.toList then (intarsialaw23_TokenLays.j1 kj12 (bt250.2 != bt252.2) a2_0 l2_1 a2_2) else (intarsialaw23_TokenLays.j1 kj12 true a2_0 l2_1 a2_2)) else (intarsialaw23_TokenLays.j1 kj12 true a2_0 l2_1 a2_2)) else (intarsialaw23_TokenLays.j1 kj12 true a2_0 l2_1 a2_2)))))) = some r := by rw [if_neg (show ¬ (false = true) by decide)] at H; exact H
          clear H
          have H := H1
          clear H1
          replace H := Option.bind_eq_some_iff.mp H
          obtain ⟨⟨t246, t247⟩, A240, H⟩ := H
          replace H : ((intarsiaref23_Left.f kj12 l2_1 a1).bind fun bt248 => ((token_Use.f kj12 a0 a1 l2_1).bind fun bt250 => ((intarsiaref23_Use.f kj12 a0 a1 l2_1).bind fun bt252 => (if t246.toList = bt248.1.toList then (if t247 = bt248.2 then (if bt250.1.toList = bt252.1.toList then (intarsialaw23_TokenLays.j1 kj12 (bt250.2 != bt252.2) a2_0 l2_1 a2_2) else (intarsialaw23_TokenLays.j1 kj12 true a2_0 l2_1 a2_2)) else (intarsialaw23_TokenLays.j1 kj12 true a2_0 l2_1 a2_2)) else (intarsialaw23_TokenLays.j1 kj12 true a2_0 l2_1 a2_2))))) = some r := H
          have A24 := Aside0.mk A240
          clear A240
          replace H := Option.bind_eq_some_iff.mp H
          obtain ⟨⟨t248, t249⟩, A250, H⟩ := H
          replace H : ((token_Use.f kj12 a0 a1 l2_1).bind fun bt250 => ((intarsiaref23_Use.f kj12 a0 a1 l2_1).bind fun bt252 => (if t246.toList = t248.toList then (if t247 = t249 then (if bt250.1.toList = bt252.1.toList then (intarsialaw23_TokenLays.j1 kj12 (bt250.2 != bt252.2) a2_0 l2_1 a2_2) else (intarsialaw23_TokenLays.j1 kj12 true a2_0 l2_1 a2_2)) else (intarsialaw23_TokenLays.j1 kj12 true a2_0 l2_1 a2_2)) else (intarsialaw23_TokenLays.j1 kj12 true a2_0 l2_1 a2_2)))) = some r := H
          have A25 := Aside0.mk A250
          clear A250
          replace H := Option.bind_eq_some_iff.mp H
          obtain ⟨⟨t250, t251⟩, A260, H⟩ := H
          replace H : ((intarsiaref23_Use.f kj12 a0 a1 l2_1).bind fun bt252 => (if t246.toList = t248.toList then (if t247 = t249 then (if t250.toList = bt252.1.toList then (intarsialaw23_TokenLays.j1 kj12 (t251 != bt252.2) a2_0 l2_1 a2_2) else (intarsialaw23_TokenLays.j1 kj12 true a2_0 l2_1 a2_2)) else (intarsialaw23_TokenLays.j1 kj12 true a2_0 l2_1 a2_2)) else (intarsialaw23_TokenLays.j1 kj12 true a2_0 l2_1 a2_2))) = some r := H
          have A26 := Aside0.mk A260
          clear A260
          replace H := Option.bind_eq_some_iff.mp H
          obtain ⟨⟨t252, t253⟩, A270, H⟩ := H
          replace H : (if t246.toList = t248.toList then (if t247 = t249 then (if t250.toList = t252.toList then (intarsialaw23_TokenLays.j1 kj12 (t251 != t253) a2_0 l2_1 a2_2) else (intarsialaw23_TokenLays.j1 kj12 true a2_0 l2_1 a2_2)) else (intarsialaw23_TokenLays.j1 kj12 true a2_0 l2_1 a2_2)) else (intarsialaw23_TokenLays.j1 kj12 true a2_0 l2_1 a2_2)) = some r := H
          have A27 := Aside0.mk A270
          clear A270
          have HC28 := Aside0.mk H
          clear H
          go_upto_region 14 with (first | ((with_reducible refine gate_callee (f := 14) rfl ?_); refine goesL_ (some 66) rfl rfl Try.func14 (by kernel_rfl) rfl #[.slice A2_1 l2_1.length c2_1, .int .i64 a1] rfl (by (try simp only [List.map_toArray, List.map_cons, List.map_nil]); first | done | rfl | (simp only [List.length_drop, List.length_take]; rfl)) ?_; (with_reducible refine (token_Left.calls kj12 _ _ l2_1 a1 t246 t247 _ ?side1 ?side2 A24.out).mono ?_); (case side1 => repeat (first | exact (Kd.C_below HR2_1.out HB.out) | (with_reducible refine Kd.C_alloc ?_ _) | (with_reducible refine Kd.C_drewN ?_ _) | (with_reducible refine Kd.C_drew ?_))); (case side2 => exact HC2_1.out); rintro e w29 ⟨rfl, hb⟩; refine ⟨_, rfl, ?_⟩; have n0_ := Aside0.mk (blk_below (g := gb236) (o := .cells #[.int .i64 a2_0, .slice A2_1 l2_1.length c2_1, .bool a2_2] 31 (0, 0)) (by (with_reducible repeat (first | refine blk_drewN ?_ _ | refine blk_drew ?_ | refine blk_alloc ?_ _)); exact BK236.out) hb); have n1_ := Aside0.mk (below_step (by repeat (first | (with_reducible first | exact HB.out | apply below_alloc | apply pw_below_drewN | apply below_drew1 | refine below_set ?_ GE236.out) | exact HB.out)) hb); clear BK236; clear HB; have BK236 := n0_; have HB := n1_; clear n0_ n1_; (try clear hb); (try clear hb2); (try clear hk); (try clear hi)) | ((with_reducible refine gate_callee (f := 15) rfl ?_); refine goesL_ (some 72) rfl rfl Try.func15 (by kernel_rfl) rfl #[.slice A2_1 l2_1.length c2_1, .int .i64 a1] rfl (by (try simp only [List.map_toArray, List.map_cons, List.map_nil]); first | done | rfl | (simp only [List.length_drop, List.length_take]; rfl)) ?_; (with_reducible refine (intarsiaref23_Left.calls kj12 _ _ l2_1 a1 t248 t249 _ ?side1 ?side2 A25.out).mono ?_); (case side1 => repeat (first | exact (Kd.C_below HR2_1.out HB.out) | (with_reducible refine Kd.C_alloc ?_ _) | (with_reducible refine Kd.C_drewN ?_ _) | (with_reducible refine Kd.C_drew ?_))); (case side2 => exact HC2_1.out); rintro e w30 ⟨rfl, hb⟩; refine ⟨_, rfl, ?_⟩; have n0_ := Aside0.mk (blk_below (g := gb236) (o := .cells #[.int .i64 a2_0, .slice A2_1 l2_1.length c2_1, .bool a2_2] 31 (0, 0)) (by (with_reducible repeat (first | refine blk_drewN ?_ _ | refine blk_drew ?_ | refine blk_alloc ?_ _)); exact BK236.out) hb); have n1_ := Aside0.mk (below_step (by repeat (first | (with_reducible first | exact HB.out | apply below_alloc | apply pw_below_drewN | apply below_drew1 | refine below_set ?_ GE236.out) | exact HB.out)) hb); clear BK236; clear HB; have BK236 := n0_; have HB := n1_; clear n0_ n1_; (try clear hb); (try clear hb2); (try clear hk); (try clear hi)) | ((with_reducible refine gate_callee (f := 16) rfl ?_); refine goesL_ (some 79) rfl rfl Try.func16 (by kernel_rfl) rfl #[.int .u8 a0, .int .i64 a1, .slice A2_1 l2_1.length c2_1] rfl (by (try simp only [List.map_toArray, List.map_cons, List.map_nil]); first | done | rfl | (simp only [List.length_drop, List.length_take]; rfl)) ?_; (with_reducible refine (token_Use.calls kj12 a0 a1 _ _ l2_1 t250 t251 _ ?side1 ?side2 A26.out).mono ?_); (case side1 => repeat (first | exact (Kd.C_below HR2_1.out HB.out) | (with_reducible refine Kd.C_alloc ?_ _) | (with_reducible refine Kd.C_drewN ?_ _) | (with_reducible refine Kd.C_drew ?_))); (case side2 => exact HC2_1.out); rintro e w31 ⟨rfl, hb⟩; refine ⟨_, rfl, ?_⟩; have n0_ := Aside0.mk (blk_below (g := gb236) (o := .cells #[.int .i64 a2_0, .slice A2_1 l2_1.length c2_1, .bool a2_2] 31 (0, 0)) (by (with_reducible repeat (first | refine blk_drewN ?_ _ | refine blk_drew ?_ | refine blk_alloc ?_ _)); exact BK236.out) hb); have n1_ := Aside0.mk (below_step (by repeat (first | (with_reducible first | exact HB.out | apply below_alloc | apply pw_below_drewN | apply below_drew1 | refine below_set ?_ GE236.out) | exact HB.out)) hb); clear BK236; clear HB; have BK236 := n0_; have HB := n1_; clear n0_ n1_; (try clear hb); (try clear hb2); (try clear hk); (try clear hi)) | ((with_reducible refine gate_callee (f := 17) rfl ?_); refine goesL_ (some 86) rfl rfl Try.func17 (by kernel_rfl) rfl #[.int .u8 a0, .int .i64 a1, .slice A2_1 l2_1.length c2_1] rfl (by (try simp only [List.map_toArray, List.map_cons, List.map_nil]); first | done | rfl | (simp only [List.length_drop, List.length_take]; rfl)) ?_; (with_reducible refine (intarsiaref23_Use.calls kj12 a0 a1 _ _ l2_1 t252 t253 _ ?side1 ?side2 A27.out).mono ?_); (case side1 => repeat (first | exact (Kd.C_below HR2_1.out HB.out) | (with_reducible refine Kd.C_alloc ?_ _) | (with_reducible refine Kd.C_drewN ?_ _) | (with_reducible refine Kd.C_drew ?_))); (case side2 => exact HC2_1.out); rintro e w32 ⟨rfl, hb⟩; refine ⟨_, rfl, ?_⟩; have n0_ := Aside0.mk (blk_below (g := gb236) (o := .cells #[.int .i64 a2_0, .slice A2_1 l2_1.length c2_1, .bool a2_2] 31 (0, 0)) (by (with_reducible repeat (first | refine blk_drewN ?_ _ | refine blk_drew ?_ | refine blk_alloc ?_ _)); exact BK236.out) hb); have n1_ := Aside0.mk (below_step (by repeat (first | (with_reducible first | exact HB.out | apply below_alloc | apply pw_below_drewN | apply below_drew1 | refine below_set ?_ GE236.out) | exact HB.out)) hb); clear BK236; clear HB; have BK236 := n0_; have HB := n1_; clear n0_ n1_; (try clear hb); (try clear hb2); (try clear hk); (try clear hi)))
          (try simp only [Act.put, List.setIfInBounds_toArray, List.set_cons_zero, List.set_cons_succ])
          go_cut [106] (fun v106 wc => ∃ (kq : Nat) (x106_27 : Bool), v106 = .bool x106_27 ∧ Aside0 (intarsialaw23_TokenLays.j1 kq x106_27 a2_0 l2_1 a2_2 = some r) ∧ Aside0 (kq ≤ kj12) ∧ Aside0 (wc.heap[gb236]? = some (.cells #[.int .i64 a2_0, (.slice A2_1 l2_1.length c2_1), .bool a2_2] 31 (0, 0))) ∧ Aside0 (Below w.heap.size w wc))
          case first =>
            have H := HC28.out
            clear HC28
            by_cases c33 : t246.toList = t248.toList
            · rw [if_pos c33] at H
              have c33b0 : (t246.toList == t248.toList) = true := beq_iff_eq.mpr c33
              have c33b1 : (t246.toList != t248.toList) = false := bne_eq_false_iff_eq.mpr c33
              clear c33
              (first | rw [c33b0] | (simp only [i64_w, i32_w]; rw [c33b0]) | skip)
              by_cases c34 : t247 = t249
              · rw [if_pos c34] at H
                have c34b0 : (t247 == t249) = true := beq_iff_eq.mpr c34
                have c34b1 : (t247 != t249) = false := bne_eq_false_iff_eq.mpr c34
                clear c34
                by_cases c35 : t250.toList = t252.toList
                · rw [if_pos c35] at H
                  have c35b0 : (t250.toList == t252.toList) = true := beq_iff_eq.mpr c35
                  have c35b1 : (t250.toList != t252.toList) = false := bne_eq_false_iff_eq.mpr c35
                  clear c35
                  have H' := Aside0.mk H
                  clear H
                  go_wp2
                  go_meet
                  case rel => exact ⟨_, ((t251 != t253)), (by first | rfl | (simp; done) | (simp [*]; done)), H', ⟨by have := HJ12.out; first | omega | exact Nat.le_refl _⟩, ⟨by (with_reducible repeat (first | refine blk_drewN ?_ _ | refine blk_drew ?_ | refine blk_alloc ?_ _)); exact BK236.out⟩, ⟨by repeat (first | (with_reducible first | exact HB.out | apply below_alloc | apply pw_below_drewN | apply below_drew1 | refine below_set ?_ GE236.out) | exact HB.out)⟩⟩
                · rw [if_neg c35] at H
                  have c35b0 : (t250.toList == t252.toList) = false := beq_eq_false_iff_ne.mpr c35
                  have c35b1 : (t250.toList != t252.toList) = true := bne_iff_ne.mpr c35
                  have H' := Aside0.mk H
                  clear H
                  go_wp2
                  go_meet
                  case rel => exact ⟨_, (true), (by first | rfl | (simp; done) | (simp [*]; done)), H', ⟨by have := HJ12.out; first | omega | exact Nat.le_refl _⟩, ⟨by (with_reducible repeat (first | refine blk_drewN ?_ _ | refine blk_drew ?_ | refine blk_alloc ?_ _)); exact BK236.out⟩, ⟨by repeat (first | (with_reducible first | exact HB.out | apply below_alloc | apply pw_below_drewN | apply below_drew1 | refine below_set ?_ GE236.out) | exact HB.out)⟩⟩
              · rw [if_neg c34] at H
                have c34b0 : (t247 == t249) = false := beq_eq_false_iff_ne.mpr c34
                have c34b1 : (t247 != t249) = true := bne_iff_ne.mpr c34
                have H' := Aside0.mk H
                clear H
                go_wp2
                go_meet
                case rel => exact ⟨_, (true), (by first | rfl | (simp; done) | (simp [*]; done)), H', ⟨by have := HJ12.out; first | omega | exact Nat.le_refl _⟩, ⟨by (with_reducible repeat (first | refine blk_drewN ?_ _ | refine blk_drew ?_ | refine blk_alloc ?_ _)); exact BK236.out⟩, ⟨by repeat (first | (with_reducible first | exact HB.out | apply below_alloc | apply pw_below_drewN | apply below_drew1 | refine below_set ?_ GE236.out) | exact HB.out)⟩⟩
            · rw [if_neg c33] at H
              have c33b0 : (t246.toList == t248.toList) = false := beq_eq_false_iff_ne.mpr c33
              have c33b1 : (t246.toList != t248.toList) = true := bne_iff_ne.mpr c33
              (first | rw [c33b0] | (simp only [i64_w, i32_w]; rw [c33b0]) | skip)
              have H' := Aside0.mk H
              clear H
              go_wp2
              go_meet
              case rel => exact ⟨_, (true), (by first | rfl | (simp; done) | (simp [*]; done)), H', ⟨by have := HJ12.out; first | omega | exact Nat.le_refl _⟩, ⟨by (with_reducible repeat (first | refine blk_drewN ?_ _ | refine blk_drew ?_ | refine blk_alloc ?_ _)); exact BK236.out⟩, ⟨by repeat (first | (with_reducible first | exact HB.out | apply below_alloc | apply pw_below_drewN | apply below_drew1 | refine below_set ?_ GE236.out) | exact HB.out)⟩⟩
          case rest =>
            clear HC28
            try clear c1
            try clear c2
            try clear p2
            try clear c3
            try clear c4
            try clear c4b0
            try clear c4b1
            try clear c7
            try clear c8
            try clear c11
            try clear c12
            try clear c13
            try clear c14
            try clear c15
            try clear c16
            try clear c17
            try clear c20
            try clear c20b0
            try clear c20b1
            try clear c21
            try clear c21b0
            try clear c21b1
            try clear c22
            try clear c22b0
            try clear c22b1
            try clear c23
            try clear c33
            try clear c33b0
            try clear c33b1
            try clear c34
            try clear c34b0
            try clear c34b1
            try clear c35
            try clear c35b0
            try clear c35b1
            try clear hcz15_0
            try clear hcz15_1
            try clear hcz15_2
            try clear hcz7_0
            try clear hcz7_1
            try clear hcz7_2
            try clear hfz15_0
            try clear hfz15_1
            try clear hfz15_2
            try clear hfz7_0
            try clear hfz7_1
            try clear hfz7_2
            try clear p2
            obtain ⟨kq, x106_27, rfl, HA, HJ27, BK236, HB⟩ := hcut
            cases kq with
            | zero => exact absurd HA.out (by simp [intarsialaw23_TokenLays.j1])
            | succ kj27 =>
              have H := HA.out
              clear HA
              simp only [intarsialaw23_TokenLays.j1] at H
              by_cases c36 : x106_27 = true
              · subst c36
                have H1 : (some false) = some r := by rw [if_pos rfl] at H; exact H
                clear H
                have H := H1
                clear H1
                obtain rfl := Option.some.inj H
                go_wp2
                go_ret
                exact ⟨by first | rfl | (simp [errW_none, errW_some] <;> rfl) | (simp [*, errW_none, errW_some] <;> rfl), by repeat (first | (with_reducible first | exact HB.out | apply below_alloc | apply pw_below_drewN | apply below_drew1 | refine below_set ?_ GE236.out) | exact HB.out)⟩
              · replace c36 := Bool.eq_false_iff.mpr c36
                subst c36
                have H1 : ((token_Entry.f kj27 a2_0 l2_1 a2_2).bind fun bt254 => ((intarsiaref23_Entry.f kj27 a2_0 l2_1 a2_2).bind fun bt256 => (if bt254.1.toList = bt256.1.toList then (if bt254.2 = bt256.2 then ((intarsialaw23_awake.f kj27).bind fun t258 => (some t258)) else (some false)) else (some false)))) = some r := by rw [if_neg (show ¬ (false = true) by decide)] at H; exact H
                clear H
                have H := H1
                clear H1
                replace H := Option.bind_eq_some_iff.mp H
                obtain ⟨⟨t254, t255⟩, A370, H⟩ := H
                replace H : ((intarsiaref23_Entry.f kj27 a2_0 l2_1 a2_2).bind fun bt256 => (if t254.toList = bt256.1.toList then (if t255 = bt256.2 then ((intarsialaw23_awake.f kj27).bind fun t258 => (some t258)) else (some false)) else (some false))) = some r := H
                have A37 := Aside0.mk A370
                clear A370
                replace H := Option.bind_eq_some_iff.mp H
                obtain ⟨⟨t256, t257⟩, A380, H⟩ := H
                replace H : (if t254.toList = t256.toList then (if t255 = t257 then ((intarsialaw23_awake.f kj27).bind fun t258 => (some t258)) else (some false)) else (some false)) = some r := H
                have A38 := Aside0.mk A380
                clear A380
                by_cases c39 : t254.toList = t256.toList
                · rw [if_pos c39] at H
                  have c39b0 : (t254.toList == t256.toList) = true := beq_iff_eq.mpr c39
                  have c39b1 : (t254.toList != t256.toList) = false := bne_eq_false_iff_eq.mpr c39
                  clear c39
                  by_cases c40 : t255 = t257
                  · rw [if_pos c40] at H
                    have c40b0 : (t255 == t257) = true := beq_iff_eq.mpr c40
                    have c40b1 : (t255 != t257) = false := bne_eq_false_iff_eq.mpr c40
                    clear c40
                    replace H := Option.bind_eq_some_iff.mp H
                    obtain ⟨t258, A410, H⟩ := H
                    replace H : (some t258) = some r := H
                    have A41 := Aside0.mk A410
                    clear A410
                    obtain rfl := Option.some.inj H
                    have hcz42_0 : wc.cell? ⟨gb236, 0, none⟩ = some (.int .i64 a2_0) := (blk_cell BK236.out 0).trans rfl
                    have hcz42_1 : wc.cell? ⟨gb236, 1, none⟩ = some (.slice A2_1 l2_1.length c2_1) := (blk_cell BK236.out 1).trans rfl
                    have hcz42_2 : wc.cell? ⟨gb236, 2, none⟩ = some (.bool a2_2) := (blk_cell BK236.out 2).trans rfl
                    have hfz42_0 := blk_frozen BK236.out 0
                    have hfz42_1 := blk_frozen BK236.out 1
                    have hfz42_2 := blk_frozen BK236.out 2
                    go_wp2_with (first | ((with_reducible refine gate_callee (f := 18) rfl ?_); refine goesL_ (some 109) rfl rfl Try.func18 (by kernel_rfl) rfl #[.agg #[.int .i64 a2_0, .slice A2_1 l2_1.length c2_1, .bool a2_2]] rfl (by (try simp only [List.map_toArray, List.map_cons, List.map_nil]); first | done | rfl | (simp only [List.length_drop, List.length_take]; rfl)) ?_; (with_reducible refine (token_Entry.calls kj27 a2_0 _ _ l2_1 a2_2 t254 t255 _ ?side1 ?side2 A37.out).mono ?_); (case side1 => repeat (first | exact (Kd.C_below HR2_1.out HB.out) | (with_reducible refine Kd.C_alloc ?_ _) | (with_reducible refine Kd.C_drewN ?_ _) | (with_reducible refine Kd.C_drew ?_))); (case side2 => exact HC2_1.out); rintro e w43 ⟨rfl, hb⟩; refine ⟨_, rfl, ?_⟩; have n0_ := Aside0.mk (blk_below (g := gb236) (o := .cells #[.int .i64 a2_0, .slice A2_1 l2_1.length c2_1, .bool a2_2] 31 (0, 0)) (by (with_reducible repeat (first | refine blk_drewN ?_ _ | refine blk_drew ?_ | refine blk_alloc ?_ _)); exact BK236.out) hb); have n1_ := Aside0.mk (below_step (by repeat (first | (with_reducible first | exact HB.out | apply below_alloc | apply pw_below_drewN | apply below_drew1 | refine below_set ?_ GE236.out) | exact HB.out)) hb); clear BK236; clear HB; have BK236 := n0_; have HB := n1_; clear n0_ n1_; (try clear hb); (try clear hb2); (try clear hk); (try clear hi); have hcz44_0 : w43.cell? ⟨gb236, 0, none⟩ = some (.int .i64 a2_0) := (blk_cell BK236.out 0).trans rfl; have hcz44_1 : w43.cell? ⟨gb236, 1, none⟩ = some (.slice A2_1 l2_1.length c2_1) := (blk_cell BK236.out 1).trans rfl; have hcz44_2 : w43.cell? ⟨gb236, 2, none⟩ = some (.bool a2_2) := (blk_cell BK236.out 2).trans rfl; have hfz44_0 := blk_frozen BK236.out 0; have hfz44_1 := blk_frozen BK236.out 1; have hfz44_2 := blk_frozen BK236.out 2) | ((with_reducible refine gate_callee (f := 19) rfl ?_); refine goesL_ (some 114) rfl rfl Try.func19 (by kernel_rfl) rfl #[.agg #[.int .i64 a2_0, .slice A2_1 l2_1.length c2_1, .bool a2_2]] rfl (by (try simp only [List.map_toArray, List.map_cons, List.map_nil]); first | done | rfl | (simp only [List.length_drop, List.length_take]; rfl)) ?_; (with_reducible refine (intarsiaref23_Entry.calls kj27 a2_0 _ _ l2_1 a2_2 t256 t257 _ ?side1 ?side2 A38.out).mono ?_); (case side1 => repeat (first | exact (Kd.C_below HR2_1.out HB.out) | (with_reducible refine Kd.C_alloc ?_ _) | (with_reducible refine Kd.C_drewN ?_ _) | (with_reducible refine Kd.C_drew ?_))); (case side2 => exact HC2_1.out); rintro e w45 ⟨rfl, hb⟩; refine ⟨_, rfl, ?_⟩; have n0_ := Aside0.mk (blk_below (g := gb236) (o := .cells #[.int .i64 a2_0, .slice A2_1 l2_1.length c2_1, .bool a2_2] 31 (0, 0)) (by (with_reducible repeat (first | refine blk_drewN ?_ _ | refine blk_drew ?_ | refine blk_alloc ?_ _)); exact BK236.out) hb); have n1_ := Aside0.mk (below_step (by repeat (first | (with_reducible first | exact HB.out | apply below_alloc | apply pw_below_drewN | apply below_drew1 | refine below_set ?_ GE236.out) | exact HB.out)) hb); clear BK236; clear HB; have BK236 := n0_; have HB := n1_; clear n0_ n1_; (try clear hb); (try clear hb2); (try clear hk); (try clear hi)) | (go_at_call 7; (with_reducible refine (intarsialaw23_awake.calls kj27  t258 _ A41.out).mono ?_); rintro e w46 ⟨rfl, hb⟩; have n0_ := Aside0.mk (blk_below (g := gb236) (o := .cells #[.int .i64 a2_0, .slice A2_1 l2_1.length c2_1, .bool a2_2] 31 (0, 0)) (by (with_reducible repeat (first | refine blk_drewN ?_ _ | refine blk_drew ?_ | refine blk_alloc ?_ _)); exact BK236.out) hb); have n1_ := Aside0.mk (below_step (by repeat (first | (with_reducible first | exact HB.out | apply below_alloc | apply pw_below_drewN | apply below_drew1 | refine below_set ?_ GE236.out) | exact HB.out)) hb); clear BK236; clear HB; have BK236 := n0_; have HB := n1_; clear n0_ n1_; (try clear hb); (try clear hb2); (try clear hk); (try clear hi)))
                    go_ret
                    exact ⟨by first | rfl | (simp [errW_none, errW_some] <;> rfl) | (simp [*, errW_none, errW_some] <;> rfl), by repeat (first | (with_reducible first | exact HB.out | apply below_alloc | apply pw_below_drewN | apply below_drew1 | refine below_set ?_ GE236.out) | exact HB.out)⟩
                  · rw [if_neg c40] at H
                    have c40b0 : (t255 == t257) = false := beq_eq_false_iff_ne.mpr c40
                    have c40b1 : (t255 != t257) = true := bne_iff_ne.mpr c40
                    obtain rfl := Option.some.inj H
                    have hcz47_0 : wc.cell? ⟨gb236, 0, none⟩ = some (.int .i64 a2_0) := (blk_cell BK236.out 0).trans rfl
                    have hcz47_1 : wc.cell? ⟨gb236, 1, none⟩ = some (.slice A2_1 l2_1.length c2_1) := (blk_cell BK236.out 1).trans rfl
                    have hcz47_2 : wc.cell? ⟨gb236, 2, none⟩ = some (.bool a2_2) := (blk_cell BK236.out 2).trans rfl
                    have hfz47_0 := blk_frozen BK236.out 0
                    have hfz47_1 := blk_frozen BK236.out 1
                    have hfz47_2 := blk_frozen BK236.out 2
                    go_wp2_with (first | ((with_reducible refine gate_callee (f := 18) rfl ?_); refine goesL_ (some 109) rfl rfl Try.func18 (by kernel_rfl) rfl #[.agg #[.int .i64 a2_0, .slice A2_1 l2_1.length c2_1, .bool a2_2]] rfl (by (try simp only [List.map_toArray, List.map_cons, List.map_nil]); first | done | rfl | (simp only [List.length_drop, List.length_take]; rfl)) ?_; (with_reducible refine (token_Entry.calls kj27 a2_0 _ _ l2_1 a2_2 t254 t255 _ ?side1 ?side2 A37.out).mono ?_); (case side1 => repeat (first | exact (Kd.C_below HR2_1.out HB.out) | (with_reducible refine Kd.C_alloc ?_ _) | (with_reducible refine Kd.C_drewN ?_ _) | (with_reducible refine Kd.C_drew ?_))); (case side2 => exact HC2_1.out); rintro e w48 ⟨rfl, hb⟩; refine ⟨_, rfl, ?_⟩; have n0_ := Aside0.mk (blk_below (g := gb236) (o := .cells #[.int .i64 a2_0, .slice A2_1 l2_1.length c2_1, .bool a2_2] 31 (0, 0)) (by (with_reducible repeat (first | refine blk_drewN ?_ _ | refine blk_drew ?_ | refine blk_alloc ?_ _)); exact BK236.out) hb); have n1_ := Aside0.mk (below_step (by repeat (first | (with_reducible first | exact HB.out | apply below_alloc | apply pw_below_drewN | apply below_drew1 | refine below_set ?_ GE236.out) | exact HB.out)) hb); clear BK236; clear HB; have BK236 := n0_; have HB := n1_; clear n0_ n1_; (try clear hb); (try clear hb2); (try clear hk); (try clear hi); have hcz49_0 : w48.cell? ⟨gb236, 0, none⟩ = some (.int .i64 a2_0) := (blk_cell BK236.out 0).trans rfl; have hcz49_1 : w48.cell? ⟨gb236, 1, none⟩ = some (.slice A2_1 l2_1.length c2_1) := (blk_cell BK236.out 1).trans rfl; have hcz49_2 : w48.cell? ⟨gb236, 2, none⟩ = some (.bool a2_2) := (blk_cell BK236.out 2).trans rfl; have hfz49_0 := blk_frozen BK236.out 0; have hfz49_1 := blk_frozen BK236.out 1; have hfz49_2 := blk_frozen BK236.out 2) | ((with_reducible refine gate_callee (f := 19) rfl ?_); refine goesL_ (some 114) rfl rfl Try.func19 (by kernel_rfl) rfl #[.agg #[.int .i64 a2_0, .slice A2_1 l2_1.length c2_1, .bool a2_2]] rfl (by (try simp only [List.map_toArray, List.map_cons, List.map_nil]); first | done | rfl | (simp only [List.length_drop, List.length_take]; rfl)) ?_; (with_reducible refine (intarsiaref23_Entry.calls kj27 a2_0 _ _ l2_1 a2_2 t256 t257 _ ?side1 ?side2 A38.out).mono ?_); (case side1 => repeat (first | exact (Kd.C_below HR2_1.out HB.out) | (with_reducible refine Kd.C_alloc ?_ _) | (with_reducible refine Kd.C_drewN ?_ _) | (with_reducible refine Kd.C_drew ?_))); (case side2 => exact HC2_1.out); rintro e w50 ⟨rfl, hb⟩; refine ⟨_, rfl, ?_⟩; have n0_ := Aside0.mk (blk_below (g := gb236) (o := .cells #[.int .i64 a2_0, .slice A2_1 l2_1.length c2_1, .bool a2_2] 31 (0, 0)) (by (with_reducible repeat (first | refine blk_drewN ?_ _ | refine blk_drew ?_ | refine blk_alloc ?_ _)); exact BK236.out) hb); have n1_ := Aside0.mk (below_step (by repeat (first | (with_reducible first | exact HB.out | apply below_alloc | apply pw_below_drewN | apply below_drew1 | refine below_set ?_ GE236.out) | exact HB.out)) hb); clear BK236; clear HB; have BK236 := n0_; have HB := n1_; clear n0_ n1_; (try clear hb); (try clear hb2); (try clear hk); (try clear hi)))
                    go_ret
                    exact ⟨by first | rfl | (simp [errW_none, errW_some] <;> rfl) | (simp [*, errW_none, errW_some] <;> rfl), by repeat (first | (with_reducible first | exact HB.out | apply below_alloc | apply pw_below_drewN | apply below_drew1 | refine below_set ?_ GE236.out) | exact HB.out)⟩
                · rw [if_neg c39] at H
                  have c39b0 : (t254.toList == t256.toList) = false := beq_eq_false_iff_ne.mpr c39
                  have c39b1 : (t254.toList != t256.toList) = true := bne_iff_ne.mpr c39
                  obtain rfl := Option.some.inj H
                  have hcz51_0 : wc.cell? ⟨gb236, 0, none⟩ = some (.int .i64 a2_0) := (blk_cell BK236.out 0).trans rfl
                  have hcz51_1 : wc.cell? ⟨gb236, 1, none⟩ = some (.slice A2_1 l2_1.length c2_1) := (blk_cell BK236.out 1).trans rfl
                  have hcz51_2 : wc.cell? ⟨gb236, 2, none⟩ = some (.bool a2_2) := (blk_cell BK236.out 2).trans rfl
                  have hfz51_0 := blk_frozen BK236.out 0
                  have hfz51_1 := blk_frozen BK236.out 1
                  have hfz51_2 := blk_frozen BK236.out 2
                  go_wp2_with (first | ((with_reducible refine gate_callee (f := 18) rfl ?_); refine goesL_ (some 109) rfl rfl Try.func18 (by kernel_rfl) rfl #[.agg #[.int .i64 a2_0, .slice A2_1 l2_1.length c2_1, .bool a2_2]] rfl (by (try simp only [List.map_toArray, List.map_cons, List.map_nil]); first | done | rfl | (simp only [List.length_drop, List.length_take]; rfl)) ?_; (with_reducible refine (token_Entry.calls kj27 a2_0 _ _ l2_1 a2_2 t254 t255 _ ?side1 ?side2 A37.out).mono ?_); (case side1 => repeat (first | exact (Kd.C_below HR2_1.out HB.out) | (with_reducible refine Kd.C_alloc ?_ _) | (with_reducible refine Kd.C_drewN ?_ _) | (with_reducible refine Kd.C_drew ?_))); (case side2 => exact HC2_1.out); rintro e w52 ⟨rfl, hb⟩; refine ⟨_, rfl, ?_⟩; have n0_ := Aside0.mk (blk_below (g := gb236) (o := .cells #[.int .i64 a2_0, .slice A2_1 l2_1.length c2_1, .bool a2_2] 31 (0, 0)) (by (with_reducible repeat (first | refine blk_drewN ?_ _ | refine blk_drew ?_ | refine blk_alloc ?_ _)); exact BK236.out) hb); have n1_ := Aside0.mk (below_step (by repeat (first | (with_reducible first | exact HB.out | apply below_alloc | apply pw_below_drewN | apply below_drew1 | refine below_set ?_ GE236.out) | exact HB.out)) hb); clear BK236; clear HB; have BK236 := n0_; have HB := n1_; clear n0_ n1_; (try clear hb); (try clear hb2); (try clear hk); (try clear hi); have hcz53_0 : w52.cell? ⟨gb236, 0, none⟩ = some (.int .i64 a2_0) := (blk_cell BK236.out 0).trans rfl; have hcz53_1 : w52.cell? ⟨gb236, 1, none⟩ = some (.slice A2_1 l2_1.length c2_1) := (blk_cell BK236.out 1).trans rfl; have hcz53_2 : w52.cell? ⟨gb236, 2, none⟩ = some (.bool a2_2) := (blk_cell BK236.out 2).trans rfl; have hfz53_0 := blk_frozen BK236.out 0; have hfz53_1 := blk_frozen BK236.out 1; have hfz53_2 := blk_frozen BK236.out 2) | ((with_reducible refine gate_callee (f := 19) rfl ?_); refine goesL_ (some 114) rfl rfl Try.func19 (by kernel_rfl) rfl #[.agg #[.int .i64 a2_0, .slice A2_1 l2_1.length c2_1, .bool a2_2]] rfl (by (try simp only [List.map_toArray, List.map_cons, List.map_nil]); first | done | rfl | (simp only [List.length_drop, List.length_take]; rfl)) ?_; (with_reducible refine (intarsiaref23_Entry.calls kj27 a2_0 _ _ l2_1 a2_2 t256 t257 _ ?side1 ?side2 A38.out).mono ?_); (case side1 => repeat (first | exact (Kd.C_below HR2_1.out HB.out) | (with_reducible refine Kd.C_alloc ?_ _) | (with_reducible refine Kd.C_drewN ?_ _) | (with_reducible refine Kd.C_drew ?_))); (case side2 => exact HC2_1.out); rintro e w54 ⟨rfl, hb⟩; refine ⟨_, rfl, ?_⟩; have n0_ := Aside0.mk (blk_below (g := gb236) (o := .cells #[.int .i64 a2_0, .slice A2_1 l2_1.length c2_1, .bool a2_2] 31 (0, 0)) (by (with_reducible repeat (first | refine blk_drewN ?_ _ | refine blk_drew ?_ | refine blk_alloc ?_ _)); exact BK236.out) hb); have n1_ := Aside0.mk (below_step (by repeat (first | (with_reducible first | exact HB.out | apply below_alloc | apply pw_below_drewN | apply below_drew1 | refine below_set ?_ GE236.out) | exact HB.out)) hb); clear BK236; clear HB; have BK236 := n0_; have HB := n1_; clear n0_ n1_; (try clear hb); (try clear hb2); (try clear hk); (try clear hi)))
                  go_ret
                  exact ⟨by first | rfl | (simp [errW_none, errW_some] <;> rfl) | (simp [*, errW_none, errW_some] <;> rfl), by repeat (first | (with_reducible first | exact HB.out | apply below_alloc | apply pw_below_drewN | apply below_drew1 | refine below_set ?_ GE236.out) | exact HB.out)⟩

/-! ### intarsiaref01_Get: function 45 -/
mutual
def intarsiaref01_Get.j0 : Nat → List Int → Int → Bool → Option (Int × Int)
  | 0, _, _, _ => none
  | k + 1, x0, x1, x8 => if x8 = true then (some (0, 2)) else (if (x0.length : Int) < x1 then (some (0, 3)) else (intarsiaref01_Get.l0 k x0 x1 0 0))
def intarsiaref01_Get.l0 : Nat → List Int → Int → Int → Int → Option (Int × Int)
  | 0, _, _, _, _ => none
  | k + 1, x0, x1, x6, x7 => if x7 < x1 then (if 0 ≤ x7 then (if x7 < (x0.length : Int) then (intarsiaref01_Get.l0 k x0 x1 (wrap64 ((wrap64 (256 * x6)) + (wrap64 (rd x0 x7)))) (wrap64 (x7 + 1))) else (none)) else (none)) else (some (x6, 0))
end
def intarsiaref01_Get.f (k : Nat) (l0 : List Int) (a1 : Int) : Option (Int × Int) := if a1 < 1 then (intarsiaref01_Get.j0 k l0 a1 true) else (intarsiaref01_Get.j0 k l0 a1 (decide (a1 > 6)))
theorem intarsiaref01_Get.mono_l : ∀ k, (∀ y0 y1 y2, LeO (intarsiaref01_Get.j0 k y0 y1 y2) (intarsiaref01_Get.j0 (k + 1) y0 y1 y2)) ∧ (∀ y0 y1 y2 y3, LeO (intarsiaref01_Get.l0 k y0 y1 y2 y3) (intarsiaref01_Get.l0 (k + 1) y0 y1 y2 y3))
  | 0 => ⟨fun _ _ _ r h => by simp [intarsiaref01_Get.j0] at h, fun _ _ _ _ r h => by simp [intarsiaref01_Get.l0] at h⟩
  | k + 1 => by
    obtain ⟨ih0, ih1⟩ := intarsiaref01_Get.mono_l k
    refine ⟨?_, ?_⟩
    · intro y0 y1 y2
      unfold intarsiaref01_Get.j0
      repeat' first
      | (with_reducible exact ih0 _ _ _)
      | (with_reducible exact ih1 _ _ _ _)
      | (with_reducible exact LeO.refl _)
      | (with_reducible exact LeO.none _)
      | (with_reducible refine LeO.ite ?_ ?_)
      | (with_reducible refine LeO.bind ?_ (fun _ => ?_))
      | exact ih0 _ _ _
      | exact ih1 _ _ _ _
      | exact LeO.none _
      | refine LeO.ite ?_ ?_
      | refine LeO.bind ?_ (fun _ => ?_)
    · intro y0 y1 y2 y3
      unfold intarsiaref01_Get.l0
      repeat' first
      | (with_reducible exact ih0 _ _ _)
      | (with_reducible exact ih1 _ _ _ _)
      | (with_reducible exact LeO.refl _)
      | (with_reducible exact LeO.none _)
      | (with_reducible refine LeO.ite ?_ ?_)
      | (with_reducible refine LeO.bind ?_ (fun _ => ?_))
      | exact ih0 _ _ _
      | exact ih1 _ _ _ _
      | exact LeO.none _
      | refine LeO.ite ?_ ?_
      | refine LeO.bind ?_ (fun _ => ?_)
theorem intarsiaref01_Get.mono : ∀ a0 a1 k, LeO (intarsiaref01_Get.f k a0 a1) (intarsiaref01_Get.f (k + 1) a0 a1) := by
  intro a0 a1 k
  obtain ⟨ih0, ih1⟩ := intarsiaref01_Get.mono_l k
  unfold intarsiaref01_Get.f
  repeat' first
      | (with_reducible exact ih0 _ _ _)
      | (with_reducible exact ih1 _ _ _ _)
      | (with_reducible exact LeO.refl _)
      | (with_reducible exact LeO.none _)
      | (with_reducible refine LeO.ite ?_ ?_)
      | (with_reducible refine LeO.bind ?_ (fun _ => ?_))
      | exact ih0 _ _ _
      | exact ih1 _ _ _ _
      | exact LeO.none _
      | refine LeO.ite ?_ ?_
      | refine LeO.bind ?_ (fun _ => ?_)
set_option maxHeartbeats 8000000 in
set_option maxRecDepth 100000 in
theorem intarsiaref01_Get.calls (k : Nat) (A0 : Option Addr) (c0 : Nat) (l0 : List Int) (a1 : Int) (r1 : Int) (r2 : Int) (w : World) (hr0 : Kd.C (Kd.int .u8) w A0 l0.length l0) (hc0 : l0.length ≤ c0) (h : intarsiaref01_Get.f k l0 a1 = some (r1, r2)) :
    Calls Try.prog 45 #[.slice A0 l0.length c0, .int .i64 a1] w fun e w' => e = .returned (.tuple #[.int .i64 r1, .int .i64 r2]) ∧ Drawn0 w w' := by
  have HR0 := Aside0.mk hr0
  have HC0 := Aside0.mk hc0
  clear hr0 hc0
  have H : (if a1 < 1 then (intarsiaref01_Get.j0 k l0 a1 true) else (intarsiaref01_Get.j0 k l0 a1 (decide (a1 > 6)))) = some (r1, r2) := h
  clear h
  have HC3 := Aside0.mk H
  clear H
  go_enter Try.func45, Try.ntmps45
  go_upto_region 1 with (fail)
  go_cut [8] (fun v8 wc => ∃ (kq : Nat) (x8_2 : Bool), v8 = .bool x8_2 ∧ Aside0 (intarsiaref01_Get.j0 kq l0 a1 x8_2 = some (r1, r2)) ∧ Aside0 (kq ≤ k) ∧ Drawn0 w wc)
  case first =>
    have H := HC3.out
    clear HC3
    by_cases c4 : a1 < 1
    · rw [if_pos c4] at H
      have c4b0 : decide (a1 < 1) = true := decide_eq_true c4
      clear c4
      (first | rw [c4b0] | (simp only [i64_w, i32_w]; rw [c4b0]) | skip)
      have H' := Aside0.mk H
      clear H
      go_wp2
      go_meet
      case rel => exact ⟨_, (true), (by first | rfl | (simp; done) | (simp [*]; done)), H', ⟨by first | omega | exact Nat.le_refl _⟩, by repeat (first | exact Drawn0.refl _ | apply Drawn0.step)⟩
    · rw [if_neg c4] at H
      have c4b0 : decide (a1 < 1) = false := decide_eq_false c4
      clear c4
      (first | rw [c4b0] | (simp only [i64_w, i32_w]; rw [c4b0]) | skip)
      have H' := Aside0.mk H
      clear H
      go_wp2
      go_meet
      case rel => exact ⟨_, (decide (a1 > 6)), (by first | rfl | (simp; done) | (simp [*]; done)), H', ⟨by first | omega | exact Nat.le_refl _⟩, by repeat (first | exact Drawn0.refl _ | apply Drawn0.step)⟩
  case rest =>
    clear HC3
    try clear p2
    try clear c4
    try clear c4b0
    obtain ⟨kq, x8_2, rfl, HA, HJ2, ⟨mc2, rfl⟩⟩ := hcut
    cases kq with
    | zero => exact absurd HA.out (by simp [intarsiaref01_Get.j0])
    | succ kj2 =>
      have H := HA.out
      clear HA
      simp only [intarsiaref01_Get.j0] at H
      by_cases c5 : x8_2 = true
      · subst c5
        have H1 : (some (0, 2)) = some (r1, r2) := by rw [if_pos rfl] at H; exact H
        clear H
        have H := H1
        clear H1
        simp only [Option.some.injEq, Prod.mk.injEq] at H
        obtain ⟨rfl, rfl⟩ := H
        go_wp2
        go_ret2
        exact ⟨by first | rfl | (simp; done) | (simp [*]; done), by repeat (first | exact Drawn0.refl _ | apply Drawn0.step)⟩
      · replace c5 := Bool.eq_false_iff.mpr c5
        subst c5
        have H1 : (if (l0.length : Int) < a1 then (some (0, 3)) else (intarsiaref01_Get.l0 kj2 l0 a1 0 0)) = some (r1, r2) := by rw [if_neg (show ¬ (false = true) by decide)] at H; exact H
        clear H
        have H := H1
        clear H1
        by_cases c6 : (l0.length : Int) < a1
        · rw [if_pos c6] at H
          have c6b0 : decide ((l0.length : Int) < a1) = true := decide_eq_true c6
          clear c6
          simp only [Option.some.injEq, Prod.mk.injEq] at H
          obtain ⟨rfl, rfl⟩ := H
          go_wp2
          go_ret2
          exact ⟨by first | rfl | (simp; done) | (simp [*]; done), by repeat (first | exact Drawn0.refl _ | apply Drawn0.step)⟩
        · rw [if_neg c6] at H
          have c6b0 : decide ((l0.length : Int) < a1) = false := decide_eq_false c6
          clear c6
          have H' := Aside0.mk H
          clear H
          go_wp2
          go_loopg [6, 7] kj2 (fun kq v6 v7 w' => ∃ (x6_2 : Int) (x7_2 : Int), v6 = .int .i64 x6_2 ∧ v7 = .int .i64 x7_2 ∧ Aside0 (intarsiaref01_Get.l0 kq l0 a1 x6_2 x7_2 = some (r1, r2)) ∧ Aside0 (kq ≤ kj2) ∧ Drawn0 w w')
          case atStart => exact ⟨(0), (0), (by first | rfl | (simp; done) | (simp [*]; done)), (by first | rfl | (simp; done) | (simp [*]; done)), H', ⟨Nat.le_refl _⟩, by repeat (first | exact Drawn0.refl _ | apply Drawn0.step)⟩
          case round =>
            clear H'
            try clear c2
            try clear p2
            try clear c4
            try clear c4b0
            try clear c5
            try clear c6
            try clear c6b0
            try clear p2
            obtain ⟨x6_2, x7_2, rfl, rfl, HA, HK2, ⟨m2, rfl⟩⟩ := hrel
            cases gk with
            | zero => exact absurd HA.out (by simp [intarsiaref01_Get.l0])
            | succ k2 =>
              have H := HA.out
              clear HA
              simp only [intarsiaref01_Get.l0] at H
              by_cases c7 : x7_2 < a1
              · rw [if_pos c7] at H
                have c7b0 : decide (x7_2 < a1) = true := decide_eq_true c7
                clear c7
                by_cases c8 : 0 ≤ x7_2
                · rw [if_pos c8] at H
                  have c8b0 : decide (0 ≤ x7_2) = true := decide_eq_true c8
                  clear c8
                  by_cases c9 : x7_2 < (l0.length : Int)
                  · rw [if_pos c9] at H
                    have c9b0 : decide (x7_2 < (l0.length : Int)) = true := decide_eq_true c9
                    clear c9
                    have H' := Aside0.mk H
                    clear H
                    have p259 : 0 ≤ (x7_2 : Int) := of_decide_eq_true (by first | (with_reducible assumption) | assumption)
                    have q259 : x7_2 < (l0.length : Int) := of_decide_eq_true (by first | (with_reducible assumption) | assumption)
                    obtain ⟨ad259, e259, hx259_0⟩ := Kd.at_int HR0.out x7_2 p259 q259
                    cases e259
                    replace p259 := eq_true p259
                    replace q259 := eq_true q259
                    go_wp2
                    go_roundg k2
                    case measure => have := HJ2.out; have := HK2.out; omega
                    case rel => exact ⟨(wrap64 ((wrap64 (256 * x6_2)) + (wrap64 (rd l0 x7_2)))), (wrap64 (x7_2 + 1)), (by first | rfl | (simp; done) | (simp [*]; done)), (by first | rfl | (simp; done) | (simp [*]; done)), H', ⟨by have := HJ2.out; have := HK2.out; omega⟩, by repeat (first | exact Drawn0.refl _ | apply Drawn0.step)⟩
                  · rw [if_neg c9] at H
                    exact absurd H (by simp)
                · rw [if_neg c8] at H
                  exact absurd H (by simp)
              · rw [if_neg c7] at H
                have c7b0 : decide (x7_2 < a1) = false := decide_eq_false c7
                clear c7
                simp only [Option.some.injEq, Prod.mk.injEq] at H
                obtain ⟨rfl, rfl⟩ := H
                go_wp2
                go_ret2
                exact ⟨by first | rfl | (simp; done) | (simp [*]; done), by repeat (first | exact Drawn0.refl _ | apply Drawn0.step)⟩

/-! ### intarsiaref23_tags: function 36: this session's own text -/
def intarsiaref23_tags.go : Nat → ByteArray → List Int → Option (List Int)
  | 0, _, _ => none
  | k + 1, s, out => if 6 ≤ s.size then (if out.length < 6 then (intarsiaref01_Get.f 9 (strNums s) 6).bind fun g => intarsiaref23_tags.go k (s.extract 6 s.size) (out ++ [g.1]) else some out) else some out
/-- What the reference's tags tell. -/
def intarsiaref23_tags.f (s : ByteArray) : Option (List Int) := if s.size ≤ 1000 then intarsiaref23_tags.go 8 s [] else none
set_option maxHeartbeats 4000000 in
set_option maxRecDepth 100000 in
theorem intarsiaref23_tags.calls (s : ByteArray) (r1 : List Int) (w : World) (h : intarsiaref23_tags.f s = some r1) :
    Calls Try.prog 36 #[.string s] w fun e w' => ∃ v0_ : Value, e = .returned (v0_) ∧ Kd.R (Kd.int .i64) 3 w' w.heap.size (fun _ => True) v0_ r1 ∧ Below w.heap.size w w' := by
  unfold intarsiaref23_tags.f at h
  by_cases c1 : s.size ≤ 1000
  · rw [if_pos c1] at h
    have H := Aside0.mk h
    have HC := Aside0.mk c1
    clear h c1
    go_enter Try.func36, Try.ntmps36
    go_wp2
    go_loopg [0, 3] 8 (fun kq v0 v3 w' => ∃ (s1 : ByteArray) (out : List Int), v0 = .string s1 ∧ Aside0 (Kd.R (Kd.int .i64) 3 w' w.heap.size (fun _ => True) v3 out) ∧ Aside0 (intarsiaref23_tags.go kq s1 out = some r1) ∧ Aside0 (s1.size ≤ 1000) ∧ Aside0 (Below w.heap.size w w'))
    case atStart => exact ⟨s, [], rfl, ⟨Kd.R_nil _ _ _ _ _⟩, H, HC, ⟨Below.refl _ _⟩⟩
    case round =>
      clear H HC
      obtain ⟨s1, out, rfl, HO, HG, HS, HB⟩ := hrel
      cases gk with
      | zero => exact absurd HG.out (by simp [intarsiaref23_tags.go])
      | succ k1 =>
        have hg := HG.out
        clear HG
        simp only [intarsiaref23_tags.go] at hg
        obtain ⟨AO, cO, eO⟩ := Kd.R_slice HO.out
        subst eO
        by_cases h6 : 6 ≤ s1.size
        · rw [if_pos h6] at hg
          have p6 : decide (6 ≤ s1.size) = true := decide_eq_true h6
          have p6i : decide (6 ≤ (s1.size : Int)) = true := decide_eq_true (by omega)
          by_cases ho : out.length < 6
          · rw [if_pos ho] at hg
            have po : decide (out.length < 6) = true := decide_eq_true ho
            have poi : decide ((out.length : Int) < 6) = true := decide_eq_true (by omega)
            obtain ⟨⟨t1, t2⟩, hget, hg⟩ := Option.bind_eq_some_iff.mp hg
            have HP := Aside0.mk hget
            have HG3 := Aside0.mk hg
            have H6 := Aside0.mk h6
            have HZ := Aside0.mk ho
            clear hget hg ho
            have kc := convB
            go_wp2_with fail
            go_at_call 45
            have hls : (strNums s1).length = s1.size := strNums_length s1
            have hC := bytes_C wr s1 (by have := HS.out; omega)
            rw [hls] at hC
            have hcall := intarsiaref01_Get.calls 9 (some ⟨wr.heap.size, 0, none⟩) (grownCap wr s1.size 0 5) (strNums s1) 6 t1 t2 (Lib.bytesWorld wr 5 s1) (by rw [hls]; exact hC) (by rw [hls]; exact grownCap_ge wr _ 0 5) HP.out
            rw [hls] at hcall
            refine hcall.mono ?_
            rintro e w2 ⟨rfl, hd2⟩
            have hb2 := below_step (bytes_below wr s1) hd2.below
            have HB2 := Aside0.mk (below_step HB.out hb2)
            have HO2 := Aside0.mk (Kd.R_lower (Kd.R_below HO.out hb2) (Nat.le_refl _))
            clear hcall hC hls hd2 hb2 HO HB kc HP po poi
            go_wp2_with (first | ((with_reducible refine gate_dst (N := 22) rfl ?_); refine Kd.R_lit (Kd.int .i64) _ 3 ?hg (N := 22) ?hd (xs := ([t1] : List Int)) (inner := [.int .i64 t1]) (ok := fun _ => True) (okp := fun _ => True) ?hr ?hp (fun _ hk => hk) trivial (Below.refl _ _) (Nat.le_refl _) (by simp) ?_; (case hd => rfl); (case hg => rfl); (case hr => first | (go_simp; done) | (go_simp; rfl)); (case hp => exact (Reps.one (show Kd.M (Kd.int .i64) _ _ _ t1 [.int .i64 t1] from rfl) (Reps.none _ _))); intro v22 w5 ho6 hb hg_ hnew_; clear hg_ hnew_; obtain ⟨A22, c22, e22⟩ := Kd.R_slice ho6; subst e22; have HX := Aside0.mk (Kd.R_reads' ho6).2.2; have n0_ := Aside0.mk (Kd.R_below HO2.out hb); have n1_ := Aside0.mk (below_step HB2.out hb); clear HO2 HB2; have HO2 := n0_; have HB2 := n1_; clear n0_ n1_; clear hb ho6) | ((with_reducible refine gate_builtin (b := .append) (xs := #[.tmp 20, .tmp 22]) rfl ?_); at_builtin; refine Kd.R_append_rows (Kd.int .i64) (w0 := w) w.heap.size rfl (.tmp 20) (.tmp 22) 22 3 (.int .i64 0) 8 rfl Try.underlying22 info3i rfl (by decide) (by omega) _ out [t1] _ _ _ (fun _ => True) (fun _ => False) rfl rfl ?aO ?aR (fun _ _ h => h) (fun _ h => h.elim) ?aF ?aB ?aS ?aL ?_; (case aR => exact HX.out); (case aB => exact HB2.out); (case aF => exact (fun _ _ => trivial)); (case aO => exact HO2.out); (case aS => exact (below_size HB2.out)); (case aL => have := HZ.out; simp only [List.length_cons, List.length_nil]; omega); intro v36 w7 ho hb hg hat; have n0_ := Aside0.mk (hb); have n1_ := Aside0.mk (ho); clear HB2 HO2 HX; have HB2 := n0_; have HO2 := n1_; clear n0_ n1_; clear ho hb hg hat))
            go_roundg k1
            case measure => omega
            case rel =>
              refine ⟨s1.extract 6 s1.size, out ++ [t1], by first | rfl | (simp; done), HO2, HG3, ⟨?_⟩, HB2⟩
              rw [ByteArray.size_extract]
              have := HS.out
              omega
          · rw [if_neg ho] at hg
            have po : decide (out.length < 6) = false := decide_eq_false ho
            have poi : decide ((out.length : Int) < 6) = false := decide_eq_false (by omega)
            clear ho
            obtain rfl := Option.some.inj hg
            go_wp2
            go_ret
            exact ⟨_, rfl, HO.out, HB.out⟩
        · rw [if_neg h6] at hg
          have p6 : decide (6 ≤ s1.size) = false := decide_eq_false h6
          have p6i : decide (6 ≤ (s1.size : Int)) = false := decide_eq_false (by omega)
          skip
          obtain rfl := Option.some.inj hg
          go_wp2
          go_ret
          exact ⟨_, rfl, HO.out, HB.out⟩
  · rw [if_neg c1] at h
    cases h

/-! ### intarsiaref23_Untags: function 21 -/
def intarsiaref23_Untags.f (k : Nat) (a0 : ByteArray) : Option (List Int × Int) := (intarsiaref23_tags.f a0).bind fun t260 => ((intarsiaref23_Tags.f k t260).bind fun bt263 => (if bt263.2 = 0 then (if bt263.1.toList = a0.toList then (some (t260, 0)) else (some (([] : List Int), 4))) else (some (([] : List Int), 4))))
theorem intarsiaref23_Untags.mono : ∀ a0 k, LeO (intarsiaref23_Untags.f k a0) (intarsiaref23_Untags.f (k + 1) a0) := by
  intro a0 k
  unfold intarsiaref23_Untags.f
  repeat' first
      | (with_reducible exact intarsiaref23_Tags.mono _ _)
      | (with_reducible exact LeO.refl _)
      | (with_reducible exact LeO.none _)
      | (with_reducible refine LeO.ite ?_ ?_)
      | (with_reducible refine LeO.bind ?_ (fun _ => ?_))
      | exact intarsiaref23_Tags.mono _ _
      | exact LeO.none _
      | refine LeO.ite ?_ ?_
      | refine LeO.bind ?_ (fun _ => ?_)
set_option maxHeartbeats 8000000 in
set_option maxRecDepth 100000 in
theorem intarsiaref23_Untags.calls (k : Nat) (a0 : ByteArray) (r1 : List Int) (r2 : Int) (w : World) (h : intarsiaref23_Untags.f k a0 = some (r1, r2)) :
    Calls Try.prog 21 #[.string a0] w fun e w' => ∃ v0_ : Value, e = .returned (.tuple #[v0_, .int .i64 r2]) ∧ Kd.R (Kd.int .i64) 3 w' w.heap.size (fun _ => True) v0_ r1 ∧ Below w.heap.size w w' := by
  have HB := Aside0.mk (Below.refl w.heap.size w)
  have H : ((intarsiaref23_tags.f a0).bind fun t260 => ((intarsiaref23_Tags.f k t260).bind fun bt263 => (if bt263.2 = 0 then (if bt263.1.toList = a0.toList then (some (t260, 0)) else (some (([] : List Int), 4))) else (some (([] : List Int), 4))))) = some (r1, r2) := h
  clear h
  replace H := Option.bind_eq_some_iff.mp H
  obtain ⟨t260, A20, H⟩ := H
  replace H : ((intarsiaref23_Tags.f k t260).bind fun bt263 => (if bt263.2 = 0 then (if bt263.1.toList = a0.toList then (some (t260, 0)) else (some (([] : List Int), 4))) else (some (([] : List Int), 4)))) = some (r1, r2) := H
  have A2 := Aside0.mk A20
  clear A20
  replace H := Option.bind_eq_some_iff.mp H
  obtain ⟨⟨t263, t264⟩, A30, H⟩ := H
  replace H : (if t264 = 0 then (if t263.toList = a0.toList then (some (t260, 0)) else (some (([] : List Int), 4))) else (some (([] : List Int), 4))) = some (r1, r2) := H
  have A3 := Aside0.mk A30
  clear A30
  by_cases c4 : t264 = 0
  · rw [if_pos c4] at H
    have c4b0 : (t264 == 0) = true := beq_iff_eq.mpr c4
    have c4b1 : (t264 != 0) = false := bne_eq_false_iff_eq.mpr c4
    clear c4
    by_cases c5 : t263.toList = a0.toList
    · rw [if_pos c5] at H
      have c5b0 : (t263.toList == a0.toList) = true := beq_iff_eq.mpr c5
      have c5b1 : (t263.toList != a0.toList) = false := bne_eq_false_iff_eq.mpr c5
      clear c5
      simp only [Option.some.injEq, Prod.mk.injEq] at H
      obtain ⟨rfl, rfl⟩ := H
      go_enter Try.func21, Try.ntmps21
      go_wp2_with (first | ((with_reducible refine gate_callee (f := 36) rfl ?_); refine goesL_ (some 8) rfl rfl Try.func36 (by kernel_rfl) rfl #[.string a0] rfl (by (try simp only [List.map_toArray, List.map_cons, List.map_nil]); first | done | rfl | (simp only [List.length_drop, List.length_take]; rfl)) ?_; (with_reducible refine (intarsiaref23_tags.calls a0 t260 _ A2.out).mono ?_); rintro e w6 ⟨v261, rfl, ho0, hb⟩; refine ⟨_, rfl, ?_⟩; have n0_ := Aside0.mk (Kd.R_lower ho0 (below_size (by repeat (first | (with_reducible first | exact HB.out | apply below_alloc | apply pw_below_drewN | apply below_drew1) | exact HB.out)))); have n1_ := Aside0.mk (below_step (by repeat (first | (with_reducible first | exact HB.out | apply below_alloc | apply pw_below_drewN | apply below_drew1) | exact HB.out)) hb); clear HB; have HO262 := n0_; have HB := n1_; clear n0_ n1_; (try clear hb); (try clear hb2); (try clear hk); (try clear hi); (try clear ho0); obtain ⟨Ao7, co7, eo7⟩ := Kd.R_slice HO262.out; subst eo7) | ((with_reducible refine gate_callee (f := 11) rfl ?_); refine goesL_ (some 11) rfl rfl Try.func11 (by kernel_rfl) rfl #[.slice Ao7 t260.length co7] rfl (by (try simp only [List.map_toArray, List.map_cons, List.map_nil]); first | done | rfl | (simp only [List.length_drop, List.length_take]; rfl)) ?_; (with_reducible refine (intarsiaref23_Tags.calls k _ _ t260 t263 t264 _ ?side1 ?side2 A3.out).mono ?_); (case side1 => repeat (first | exact (Kd.R_reads' HO262.out).2.2 | (with_reducible refine Kd.C_alloc ?_ _) | (with_reducible refine Kd.C_drewN ?_ _) | (with_reducible refine Kd.C_drew ?_))); (case side2 => exact (Kd.R_reads' HO262.out).2.1); rintro e w8 ⟨rfl, hb⟩; refine ⟨_, rfl, ?_⟩; have n0_ := Aside0.mk (Kd.R_below (by (with_reducible repeat (first | apply Kd.R_alloc | apply Kd.R_drewN | apply Kd.R_drew)); exact HO262.out) hb); have n1_ := Aside0.mk (below_step (by repeat (first | (with_reducible first | exact HB.out | apply below_alloc | apply pw_below_drewN | apply below_drew1) | exact HB.out)) hb); clear HO262; clear HB; have HO262 := n0_; have HB := n1_; clear n0_ n1_; (try clear hb); (try clear hb2); (try clear hk); (try clear hi)))
      go_ret2
      exact ⟨_, by first | rfl | (simp [errW_none, errW_some] <;> rfl) | (simp [*, errW_none, errW_some] <;> rfl), by (with_reducible repeat (first | apply Kd.R_alloc | apply Kd.R_drewN | apply Kd.R_drew)); exact HO262.out, by repeat (first | (with_reducible first | exact HB.out | apply below_alloc | apply pw_below_drewN | apply below_drew1) | exact HB.out)⟩
    · rw [if_neg c5] at H
      have c5b0 : (t263.toList == a0.toList) = false := beq_eq_false_iff_ne.mpr c5
      have c5b1 : (t263.toList != a0.toList) = true := bne_iff_ne.mpr c5
      simp only [Option.some.injEq, Prod.mk.injEq] at H
      obtain ⟨rfl, rfl⟩ := H
      go_enter Try.func21, Try.ntmps21
      go_wp2_with (first | ((with_reducible refine gate_callee (f := 36) rfl ?_); refine goesL_ (some 8) rfl rfl Try.func36 (by kernel_rfl) rfl #[.string a0] rfl (by (try simp only [List.map_toArray, List.map_cons, List.map_nil]); first | done | rfl | (simp only [List.length_drop, List.length_take]; rfl)) ?_; (with_reducible refine (intarsiaref23_tags.calls a0 t260 _ A2.out).mono ?_); rintro e w9 ⟨v261, rfl, ho0, hb⟩; refine ⟨_, rfl, ?_⟩; have n0_ := Aside0.mk (Kd.R_lower ho0 (below_size (by repeat (first | (with_reducible first | exact HB.out | apply below_alloc | apply pw_below_drewN | apply below_drew1) | exact HB.out)))); have n1_ := Aside0.mk (below_step (by repeat (first | (with_reducible first | exact HB.out | apply below_alloc | apply pw_below_drewN | apply below_drew1) | exact HB.out)) hb); clear HB; have HO262 := n0_; have HB := n1_; clear n0_ n1_; (try clear hb); (try clear hb2); (try clear hk); (try clear hi); (try clear ho0); obtain ⟨Ao10, co10, eo10⟩ := Kd.R_slice HO262.out; subst eo10) | ((with_reducible refine gate_callee (f := 11) rfl ?_); refine goesL_ (some 11) rfl rfl Try.func11 (by kernel_rfl) rfl #[.slice Ao10 t260.length co10] rfl (by (try simp only [List.map_toArray, List.map_cons, List.map_nil]); first | done | rfl | (simp only [List.length_drop, List.length_take]; rfl)) ?_; (with_reducible refine (intarsiaref23_Tags.calls k _ _ t260 t263 t264 _ ?side1 ?side2 A3.out).mono ?_); (case side1 => repeat (first | exact (Kd.R_reads' HO262.out).2.2 | (with_reducible refine Kd.C_alloc ?_ _) | (with_reducible refine Kd.C_drewN ?_ _) | (with_reducible refine Kd.C_drew ?_))); (case side2 => exact (Kd.R_reads' HO262.out).2.1); rintro e w11 ⟨rfl, hb⟩; refine ⟨_, rfl, ?_⟩; have n0_ := Aside0.mk (Kd.R_below (by (with_reducible repeat (first | apply Kd.R_alloc | apply Kd.R_drewN | apply Kd.R_drew)); exact HO262.out) hb); have n1_ := Aside0.mk (below_step (by repeat (first | (with_reducible first | exact HB.out | apply below_alloc | apply pw_below_drewN | apply below_drew1) | exact HB.out)) hb); clear HO262; clear HB; have HO262 := n0_; have HB := n1_; clear n0_ n1_; (try clear hb); (try clear hb2); (try clear hk); (try clear hi)))
      go_ret2
      exact ⟨_, by first | rfl | (simp [errW_none, errW_some] <;> rfl) | (simp [*, errW_none, errW_some] <;> rfl), by first | exact Kd.R_nil _ _ _ _ _ | exact Kd.N_nil _ _ _ _ _ | exact Kd.V_nil _ _ _ _ _ | exact Kd.Q_nil _ _ _ _ _ | exact Kd.S_nil _ _ _ _ _, by repeat (first | (with_reducible first | exact HB.out | apply below_alloc | apply pw_below_drewN | apply below_drew1) | exact HB.out)⟩
  · rw [if_neg c4] at H
    have c4b0 : (t264 == 0) = false := beq_eq_false_iff_ne.mpr c4
    have c4b1 : (t264 != 0) = true := bne_iff_ne.mpr c4
    simp only [Option.some.injEq, Prod.mk.injEq] at H
    obtain ⟨rfl, rfl⟩ := H
    go_enter Try.func21, Try.ntmps21
    go_wp2_with (first | ((with_reducible refine gate_callee (f := 36) rfl ?_); refine goesL_ (some 8) rfl rfl Try.func36 (by kernel_rfl) rfl #[.string a0] rfl (by (try simp only [List.map_toArray, List.map_cons, List.map_nil]); first | done | rfl | (simp only [List.length_drop, List.length_take]; rfl)) ?_; (with_reducible refine (intarsiaref23_tags.calls a0 t260 _ A2.out).mono ?_); rintro e w12 ⟨v261, rfl, ho0, hb⟩; refine ⟨_, rfl, ?_⟩; have n0_ := Aside0.mk (Kd.R_lower ho0 (below_size (by repeat (first | (with_reducible first | exact HB.out | apply below_alloc | apply pw_below_drewN | apply below_drew1) | exact HB.out)))); have n1_ := Aside0.mk (below_step (by repeat (first | (with_reducible first | exact HB.out | apply below_alloc | apply pw_below_drewN | apply below_drew1) | exact HB.out)) hb); clear HB; have HO262 := n0_; have HB := n1_; clear n0_ n1_; (try clear hb); (try clear hb2); (try clear hk); (try clear hi); (try clear ho0); obtain ⟨Ao13, co13, eo13⟩ := Kd.R_slice HO262.out; subst eo13) | ((with_reducible refine gate_callee (f := 11) rfl ?_); refine goesL_ (some 11) rfl rfl Try.func11 (by kernel_rfl) rfl #[.slice Ao13 t260.length co13] rfl (by (try simp only [List.map_toArray, List.map_cons, List.map_nil]); first | done | rfl | (simp only [List.length_drop, List.length_take]; rfl)) ?_; (with_reducible refine (intarsiaref23_Tags.calls k _ _ t260 t263 t264 _ ?side1 ?side2 A3.out).mono ?_); (case side1 => repeat (first | exact (Kd.R_reads' HO262.out).2.2 | (with_reducible refine Kd.C_alloc ?_ _) | (with_reducible refine Kd.C_drewN ?_ _) | (with_reducible refine Kd.C_drew ?_))); (case side2 => exact (Kd.R_reads' HO262.out).2.1); rintro e w14 ⟨rfl, hb⟩; refine ⟨_, rfl, ?_⟩; have n0_ := Aside0.mk (Kd.R_below (by (with_reducible repeat (first | apply Kd.R_alloc | apply Kd.R_drewN | apply Kd.R_drew)); exact HO262.out) hb); have n1_ := Aside0.mk (below_step (by repeat (first | (with_reducible first | exact HB.out | apply below_alloc | apply pw_below_drewN | apply below_drew1) | exact HB.out)) hb); clear HO262; clear HB; have HO262 := n0_; have HB := n1_; clear n0_ n1_; (try clear hb); (try clear hb2); (try clear hk); (try clear hi)))
    go_ret2
    exact ⟨_, by first | rfl | (simp [errW_none, errW_some] <;> rfl) | (simp [*, errW_none, errW_some] <;> rfl), by first | exact Kd.R_nil _ _ _ _ _ | exact Kd.N_nil _ _ _ _ _ | exact Kd.V_nil _ _ _ _ _ | exact Kd.Q_nil _ _ _ _ _ | exact Kd.S_nil _ _ _ _ _, by repeat (first | (with_reducible first | exact HB.out | apply below_alloc | apply pw_below_drewN | apply below_drew1) | exact HB.out)⟩

end Go.Proofs.Ythlkkpaihomfjaa.MTok
