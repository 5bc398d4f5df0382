/- Written by a program of this session (wip/tools/myprint.py), over the kit's print: the functions that Ck reaches, and their contracts. -/
import Derived.Test.YtlbcnkmojoinfaaMCkx0
import Derived.Test.YtlbcnkmojoinfaaMCkx1
namespace Go.Proofs.Ytlbcnkmojoinfaa.MCk
open Go.RowKit Go.Proofs.YtlbcnkmojoinfaaW.PrintWords Go.Proofs.YtlbcnkmojoinfaaW.PrintLast Go.Proofs.YtlbcnkmojoinfaaW.PrintMore
attribute [local go_sem] max2_int min2_int max_two min_two max_three min_three max_four min_four   -- for this text's walks alone
set_option linter.unusedVariables false
set_option linter.unusedSimpArgs false

/-! ### intarsiaref15_lightRule: function 20 -/
mutual
def intarsiaref15_lightRule.j0 : Nat → Bool → ByteArray → List (S44) → List (S65) → Option (Bool)
  | 0, _, _, _, _ => none
  | k + 1, x25, x108000, x108001, x108002 => if x25 = true then (some false) else (intarsiaref15_lightRule.l0 k 0 x108000 x108001 x108002)
def intarsiaref15_lightRule.l0 : Nat → Int → ByteArray → List (S44) → List (S65) → Option (Bool)
  | 0, _, _, _, _ => none
  | k + 1, x3, x108000, x108001, x108002 => if x3 < (x108001.length : Int) then (if 0 ≤ x3 then (if (((rd_T44 x108001 x3).f2).length : Int) > 10 then (intarsiaref15_lightRule.j2 k x3 ((rd_T44 x108001 x3).f2) true x108000 x108001 x108002) else (intarsiaref15_lightRule.j2 k x3 ((rd_T44 x108001 x3).f2) (decide ((((rd_T44 x108001 x3).f1).size : Int) > 60)) x108000 x108001 x108002)) else (none)) else (intarsiaref15_lightRule.l2 k 0 x108000 x108001 x108002)
def intarsiaref15_lightRule.j2 : Nat → Int → List (S57) → Bool → ByteArray → List (S44) → List (S65) → Option (Bool)
  | 0, _, _, _, _, _, _ => none
  | k + 1, x3, x4, x51, x108000, x108001, x108002 => if x51 = true then (some false) else (intarsiaref15_lightRule.l1 k x3 x4 0 x108000 x108001 x108002)
def intarsiaref15_lightRule.l1 : Nat → Int → List (S57) → Int → ByteArray → List (S44) → List (S65) → Option (Bool)
  | 0, _, _, _, _, _, _ => none
  | k + 1, x3, x4, x5, x108000, x108001, x108002 => if x5 < (x4.length : Int) then (if 0 ≤ x5 then (if (((rd_T57 x4 x5).f0).size : Int) > 60 then (some false) else (if (((rd_T57 x4 x5).f1).length : Int) > 12 then (some false) else (if (((rd_T57 x4 x5).f2).length : Int) > 12 then (some false) else ((intarsiaref15_lightTests.f k ((rd_T57 x4 x5).f0) ((rd_T57 x4 x5).f1) ((rd_T57 x4 x5).f2)).bind fun t114 => (if t114 = true then (intarsiaref15_lightRule.l1 k x3 x4 (wrap64 (x5 + 1)) x108000 x108001 x108002) else (some false)))))) else (none)) else (intarsiaref15_lightRule.l0 k (wrap64 (x3 + 1)) x108000 x108001 x108002)
def intarsiaref15_lightRule.l2 : Nat → Int → ByteArray → List (S44) → List (S65) → Option (Bool)
  | 0, _, _, _, _ => none
  | k + 1, x6, x108000, x108001, x108002 => if x6 < (x108002.length : Int) then (if 0 ≤ x6 then (if (((rd_T65 x108002 x6).f4).length : Int) > 10 then (intarsiaref15_lightRule.j5 k x6 true x108000 x108001 x108002 ((rd_T65 x108002 x6).f0) ((rd_T65 x108002 x6).f1) ((rd_T65 x108002 x6).f2) ((rd_T65 x108002 x6).f3) ((rd_T65 x108002 x6).f4) ((rd_T65 x108002 x6).f5)) else (if (((rd_T65 x108002 x6).f5).length : Int) > 12 then (intarsiaref15_lightRule.j5 k x6 true x108000 x108001 x108002 ((rd_T65 x108002 x6).f0) ((rd_T65 x108002 x6).f1) ((rd_T65 x108002 x6).f2) ((rd_T65 x108002 x6).f3) ((rd_T65 x108002 x6).f4) ((rd_T65 x108002 x6).f5)) else (if (((rd_T65 x108002 x6).f1).size : Int) > 60 then (intarsiaref15_lightRule.j5 k x6 true x108000 x108001 x108002 ((rd_T65 x108002 x6).f0) ((rd_T65 x108002 x6).f1) ((rd_T65 x108002 x6).f2) ((rd_T65 x108002 x6).f3) ((rd_T65 x108002 x6).f4) ((rd_T65 x108002 x6).f5)) else (intarsiaref15_lightRule.j5 k x6 (decide ((((rd_T65 x108002 x6).f3).size : Int) > 60)) x108000 x108001 x108002 ((rd_T65 x108002 x6).f0) ((rd_T65 x108002 x6).f1) ((rd_T65 x108002 x6).f2) ((rd_T65 x108002 x6).f3) ((rd_T65 x108002 x6).f4) ((rd_T65 x108002 x6).f5))))) else (none)) else (some true)
def intarsiaref15_lightRule.j5 : Nat → Int → Bool → ByteArray → List (S44) → List (S65) → Int → ByteArray → Int → ByteArray → List (S67) → List (List (S80)) → Option (Bool)
  | 0, _, _, _, _, _, _, _, _, _, _, _ => none
  | k + 1, x6, x124, x108000, x108001, x108002, x117000, x117001, x117002, x117003, x117004, x117005 => if x124 = true then (some false) else (intarsiaref15_lightRule.l3 k x6 0 x108000 x108001 x108002 x117000 x117001 x117002 x117003 x117004 x117005)
def intarsiaref15_lightRule.l3 : Nat → Int → Int → ByteArray → List (S44) → List (S65) → Int → ByteArray → Int → ByteArray → List (S67) → List (List (S80)) → Option (Bool)
  | 0, _, _, _, _, _, _, _, _, _, _, _ => none
  | k + 1, x6, x8, x108000, x108001, x108002, x117000, x117001, x117002, x117003, x117004, x117005 => if x8 < (x117004.length : Int) then (if 0 ≤ x8 then (if (((rd_T67 x117004 x8).f0).size : Int) > 60 then (some false) else ((intarsiaref15_lightItems.f k ((rd_T67 x117004 x8).f1)).bind fun t119 => (if t119 = true then (intarsiaref15_lightRule.l3 k x6 (wrap64 (x8 + 1)) x108000 x108001 x108002 x117000 x117001 x117002 x117003 x117004 x117005) else (some false)))) else (none)) else (intarsiaref15_lightRule.l4 k x6 0 x108000 x108001 x108002 x117000 x117001 x117002 x117003 x117004 x117005)
def intarsiaref15_lightRule.l4 : Nat → Int → Int → ByteArray → List (S44) → List (S65) → Int → ByteArray → Int → ByteArray → List (S67) → List (List (S80)) → Option (Bool)
  | 0, _, _, _, _, _, _, _, _, _, _, _ => none
  | k + 1, x6, x9, x108000, x108001, x108002, x117000, x117001, x117002, x117003, x117004, x117005 => if x9 < (x117005.length : Int) then (if 0 ≤ x9 then ((intarsiaref15_lightItems.f k (rd_L12 x117005 x9)).bind fun t121 => (if t121 = true then (intarsiaref15_lightRule.l4 k x6 (wrap64 (x9 + 1)) x108000 x108001 x108002 x117000 x117001 x117002 x117003 x117004 x117005) else (some false))) else (none)) else (intarsiaref15_lightRule.l2 k (wrap64 (x6 + 1)) x108000 x108001 x108002)
end
def intarsiaref15_lightRule.f (k : Nat) (a0_0 : ByteArray) (l0_1 : List (S44)) (l0_2 : List (S65)) : Option (Bool) := if (l0_1.length : Int) > 8 then (intarsiaref15_lightRule.j0 k true a0_0 l0_1 l0_2) else (if (l0_2.length : Int) > 12 then (intarsiaref15_lightRule.j0 k true a0_0 l0_1 l0_2) else (intarsiaref15_lightRule.j0 k (decide ((a0_0.size : Int) > 60)) a0_0 l0_1 l0_2))
theorem intarsiaref15_lightRule.mono_l : ∀ k, (∀ y0 y1 y2 y3, LeO (intarsiaref15_lightRule.j0 k y0 y1 y2 y3) (intarsiaref15_lightRule.j0 (k + 1) y0 y1 y2 y3)) ∧ (∀ y0 y1 y2 y3, LeO (intarsiaref15_lightRule.l0 k y0 y1 y2 y3) (intarsiaref15_lightRule.l0 (k + 1) y0 y1 y2 y3)) ∧ (∀ y0 y1 y2 y3 y4 y5, LeO (intarsiaref15_lightRule.j2 k y0 y1 y2 y3 y4 y5) (intarsiaref15_lightRule.j2 (k + 1) y0 y1 y2 y3 y4 y5)) ∧ (∀ y0 y1 y2 y3 y4 y5, LeO (intarsiaref15_lightRule.l1 k y0 y1 y2 y3 y4 y5) (intarsiaref15_lightRule.l1 (k + 1) y0 y1 y2 y3 y4 y5)) ∧ (∀ y0 y1 y2 y3, LeO (intarsiaref15_lightRule.l2 k y0 y1 y2 y3) (intarsiaref15_lightRule.l2 (k + 1) y0 y1 y2 y3)) ∧ (∀ y0 y1 y2 y3 y4 y5 y6 y7 y8 y9 y10, LeO (intarsiaref15_lightRule.j5 k y0 y1 y2 y3 y4 y5 y6 y7 y8 y9 y10) (intarsiaref15_lightRule.j5 (k + 1) y0 y1 y2 y3 y4 y5 y6 y7 y8 y9 y10)) ∧ (∀ y0 y1 y2 y3 y4 y5 y6 y7 y8 y9 y10, LeO (intarsiaref15_lightRule.l3 k y0 y1 y2 y3 y4 y5 y6 y7 y8 y9 y10) (intarsiaref15_lightRule.l3 (k + 1) y0 y1 y2 y3 y4 y5 y6 y7 y8 y9 y10)) ∧ (∀ y0 y1 y2 y3 y4 y5 y6 y7 y8 y9 y10, LeO (intarsiaref15_lightRule.l4 k y0 y1 y2 y3 y4 y5 y6 y7 y8 y9 y10) (intarsiaref15_lightRule.l4 (k + 1) y0 y1 y2 y3 y4 y5 y6 y7 y8 y9 y10))
  | 0 => ⟨fun _ _ _ _ r h => by simp [intarsiaref15_lightRule.j0] at h, fun _ _ _ _ r h => by simp [intarsiaref15_lightRule.l0] at h, fun _ _ _ _ _ _ r h => by simp [intarsiaref15_lightRule.j2] at h, fun _ _ _ _ _ _ r h => by simp [intarsiaref15_lightRule.l1] at h, fun _ _ _ _ r h => by simp [intarsiaref15_lightRule.l2] at h, fun _ _ _ _ _ _ _ _ _ _ _ r h => by simp [intarsiaref15_lightRule.j5] at h, fun _ _ _ _ _ _ _ _ _ _ _ r h => by simp [intarsiaref15_lightRule.l3] at h, fun _ _ _ _ _ _ _ _ _ _ _ r h => by simp [intarsiaref15_lightRule.l4] at h⟩
  | k + 1 => by
    obtain ⟨ih0, ih1, ih2, ih3, ih4, ih5, ih6, ih7⟩ := intarsiaref15_lightRule.mono_l k
    refine ⟨?_, ?_, ?_, ?_, ?_, ?_, ?_, ?_⟩
    · intro y0 y1 y2 y3
      unfold intarsiaref15_lightRule.j0
      repeat' first
      | (with_reducible exact ih0 _ _ _ _)
      | (with_reducible exact ih1 _ _ _ _)
      | (with_reducible exact ih2 _ _ _ _ _ _)
      | (with_reducible exact ih3 _ _ _ _ _ _)
      | (with_reducible exact ih4 _ _ _ _)
      | (with_reducible exact ih5 _ _ _ _ _ _ _ _ _ _ _)
      | (with_reducible exact ih6 _ _ _ _ _ _ _ _ _ _ _)
      | (with_reducible exact ih7 _ _ _ _ _ _ _ _ _ _ _)
      | (with_reducible exact intarsiaref15_lightItems.mono _ _)
      | (with_reducible exact intarsiaref15_lightTests.mono _ _ _ _)
      | (with_reducible exact LeO.refl _)
      | (with_reducible exact LeO.none _)
      | (with_reducible refine LeO.ite ?_ ?_)
      | (with_reducible refine LeO.bind ?_ (fun _ => ?_))
      | exact ih0 _ _ _ _
      | exact ih1 _ _ _ _
      | exact ih2 _ _ _ _ _ _
      | exact ih3 _ _ _ _ _ _
      | exact ih4 _ _ _ _
      | exact ih5 _ _ _ _ _ _ _ _ _ _ _
      | exact ih6 _ _ _ _ _ _ _ _ _ _ _
      | exact ih7 _ _ _ _ _ _ _ _ _ _ _
      | exact intarsiaref15_lightItems.mono _ _
      | exact intarsiaref15_lightTests.mono _ _ _ _
      | exact LeO.none _
      | refine LeO.ite ?_ ?_
      | refine LeO.bind ?_ (fun _ => ?_)
    · intro y0 y1 y2 y3
      unfold intarsiaref15_lightRule.l0
      repeat' first
      | (with_reducible exact ih0 _ _ _ _)
      | (with_reducible exact ih1 _ _ _ _)
      | (with_reducible exact ih2 _ _ _ _ _ _)
      | (with_reducible exact ih3 _ _ _ _ _ _)
      | (with_reducible exact ih4 _ _ _ _)
      | (with_reducible exact ih5 _ _ _ _ _ _ _ _ _ _ _)
      | (with_reducible exact ih6 _ _ _ _ _ _ _ _ _ _ _)
      | (with_reducible exact ih7 _ _ _ _ _ _ _ _ _ _ _)
      | (with_reducible exact intarsiaref15_lightItems.mono _ _)
      | (with_reducible exact intarsiaref15_lightTests.mono _ _ _ _)
      | (with_reducible exact LeO.refl _)
      | (with_reducible exact LeO.none _)
      | (with_reducible refine LeO.ite ?_ ?_)
      | (with_reducible refine LeO.bind ?_ (fun _ => ?_))
      | exact ih0 _ _ _ _
      | exact ih1 _ _ _ _
      | exact ih2 _ _ _ _ _ _
      | exact ih3 _ _ _ _ _ _
      | exact ih4 _ _ _ _
      | exact ih5 _ _ _ _ _ _ _ _ _ _ _
      | exact ih6 _ _ _ _ _ _ _ _ _ _ _
      | exact ih7 _ _ _ _ _ _ _ _ _ _ _
      | exact intarsiaref15_lightItems.mono _ _
      | exact intarsiaref15_lightTests.mono _ _ _ _
      | exact LeO.none _
      | refine LeO.ite ?_ ?_
      | refine LeO.bind ?_ (fun _ => ?_)
    · intro y0 y1 y2 y3 y4 y5
      unfold intarsiaref15_lightRule.j2
      repeat' first
      | (with_reducible exact ih0 _ _ _ _)
      | (with_reducible exact ih1 _ _ _ _)
      | (with_reducible exact ih2 _ _ _ _ _ _)
      | (with_reducible exact ih3 _ _ _ _ _ _)
      | (with_reducible exact ih4 _ _ _ _)
      | (with_reducible exact ih5 _ _ _ _ _ _ _ _ _ _ _)
      | (with_reducible exact ih6 _ _ _ _ _ _ _ _ _ _ _)
      | (with_reducible exact ih7 _ _ _ _ _ _ _ _ _ _ _)
      | (with_reducible exact intarsiaref15_lightItems.mono _ _)
      | (with_reducible exact intarsiaref15_lightTests.mono _ _ _ _)
      | (with_reducible exact LeO.refl _)
      | (with_reducible exact LeO.none _)
      | (with_reducible refine LeO.ite ?_ ?_)
      | (with_reducible refine LeO.bind ?_ (fun _ => ?_))
      | exact ih0 _ _ _ _
      | exact ih1 _ _ _ _
      | exact ih2 _ _ _ _ _ _
      | exact ih3 _ _ _ _ _ _
      | exact ih4 _ _ _ _
      | exact ih5 _ _ _ _ _ _ _ _ _ _ _
      | exact ih6 _ _ _ _ _ _ _ _ _ _ _
      | exact ih7 _ _ _ _ _ _ _ _ _ _ _
      | exact intarsiaref15_lightItems.mono _ _
      | exact intarsiaref15_lightTests.mono _ _ _ _
      | exact LeO.none _
      | refine LeO.ite ?_ ?_
      | refine LeO.bind ?_ (fun _ => ?_)
    · intro y0 y1 y2 y3 y4 y5
      unfold intarsiaref15_lightRule.l1
      repeat' first
      | (with_reducible exact ih0 _ _ _ _)
      | (with_reducible exact ih1 _ _ _ _)
      | (with_reducible exact ih2 _ _ _ _ _ _)
      | (with_reducible exact ih3 _ _ _ _ _ _)
      | (with_reducible exact ih4 _ _ _ _)
      | (with_reducible exact ih5 _ _ _ _ _ _ _ _ _ _ _)
      | (with_reducible exact ih6 _ _ _ _ _ _ _ _ _ _ _)
      | (with_reducible exact ih7 _ _ _ _ _ _ _ _ _ _ _)
      | (with_reducible exact intarsiaref15_lightItems.mono _ _)
      | (with_reducible exact intarsiaref15_lightTests.mono _ _ _ _)
      | (with_reducible exact LeO.refl _)
      | (with_reducible exact LeO.none _)
      | (with_reducible refine LeO.ite ?_ ?_)
      | (with_reducible refine LeO.bind ?_ (fun _ => ?_))
      | exact ih0 _ _ _ _
      | exact ih1 _ _ _ _
      | exact ih2 _ _ _ _ _ _
      | exact ih3 _ _ _ _ _ _
      | exact ih4 _ _ _ _
      | exact ih5 _ _ _ _ _ _ _ _ _ _ _
      | exact ih6 _ _ _ _ _ _ _ _ _ _ _
      | exact ih7 _ _ _ _ _ _ _ _ _ _ _
      | exact intarsiaref15_lightItems.mono _ _
      | exact intarsiaref15_lightTests.mono _ _ _ _
      | exact LeO.none _
      | refine LeO.ite ?_ ?_
      | refine LeO.bind ?_ (fun _ => ?_)
    · intro y0 y1 y2 y3
      unfold intarsiaref15_lightRule.l2
      repeat' first
      | (with_reducible exact ih0 _ _ _ _)
      | (with_reducible exact ih1 _ _ _ _)
      | (with_reducible exact ih2 _ _ _ _ _ _)
      | (with_reducible exact ih3 _ _ _ _ _ _)
      | (with_reducible exact ih4 _ _ _ _)
      | (with_reducible exact ih5 _ _ _ _ _ _ _ _ _ _ _)
      | (with_reducible exact ih6 _ _ _ _ _ _ _ _ _ _ _)
      | (with_reducible exact ih7 _ _ _ _ _ _ _ _ _ _ _)
      | (with_reducible exact intarsiaref15_lightItems.mono _ _)
      | (with_reducible exact intarsiaref15_lightTests.mono _ _ _ _)
      | (with_reducible exact LeO.refl _)
      | (with_reducible exact LeO.none _)
      | (with_reducible refine LeO.ite ?_ ?_)
      | (with_reducible refine LeO.bind ?_ (fun _ => ?_))
      | exact ih0 _ _ _ _
      | exact ih1 _ _ _ _
      | exact ih2 _ _ _ _ _ _
      | exact ih3 _ _ _ _ _ _
      | exact ih4 _ _ _ _
      | exact ih5 _ _ _ _ _ _ _ _ _ _ _
      | exact ih6 _ _ _ _ _ _ _ _ _ _ _
      | exact ih7 _ _ _ _ _ _ _ _ _ _ _
      | exact intarsiaref15_lightItems.mono _ _
      | exact intarsiaref15_lightTests.mono _ _ _ _
      | exact LeO.none _
      | refine LeO.ite ?_ ?_
      | refine LeO.bind ?_ (fun _ => ?_)
    · intro y0 y1 y2 y3 y4 y5 y6 y7 y8 y9 y10
      unfold intarsiaref15_lightRule.j5
      repeat' first
      | (with_reducible exact ih0 _ _ _ _)
      | (with_reducible exact ih1 _ _ _ _)
      | (with_reducible exact ih2 _ _ _ _ _ _)
      | (with_reducible exact ih3 _ _ _ _ _ _)
      | (with_reducible exact ih4 _ _ _ _)
      | (with_reducible exact ih5 _ _ _ _ _ _ _ _ _ _ _)
      | (with_reducible exact ih6 _ _ _ _ _ _ _ _ _ _ _)
      | (with_reducible exact ih7 _ _ _ _ _ _ _ _ _ _ _)
      | (with_reducible exact intarsiaref15_lightItems.mono _ _)
      | (with_reducible exact intarsiaref15_lightTests.mono _ _ _ _)
      | (with_reducible exact LeO.refl _)
      | (with_reducible exact LeO.none _)
      | (with_reducible refine LeO.ite ?_ ?_)
      | (with_reducible refine LeO.bind ?_ (fun _ => ?_))
      | exact ih0 _ _ _ _
      | exact ih1 _ _ _ _
      | exact ih2 _ _ _ _ _ _
      | exact ih3 _ _ _ _ _ _
      | exact ih4 _ _ _ _
      | exact ih5 _ _ _ _ _ _ _ _ _ _ _
      | exact ih6 _ _ _ _ _ _ _ _ _ _ _
      | exact ih7 _ _ _ _ _ _ _ _ _ _ _
      | exact intarsiaref15_lightItems.mono _ _
      | exact intarsiaref15_lightTests.mono _ _ _ _
      | exact LeO.none _
      | refine LeO.ite ?_ ?_
      | refine LeO.bind ?_ (fun _ => ?_)
    · intro y0 y1 y2 y3 y4 y5 y6 y7 y8 y9 y10
      unfold intarsiaref15_lightRule.l3
      repeat' first
      | (with_reducible exact ih0 _ _ _ _)
      | (with_reducible exact ih1 _ _ _ _)
      | (with_reducible exact ih2 _ _ _ _ _ _)
      | (with_reducible exact ih3 _ _ _ _ _ _)
      | (with_reducible exact ih4 _ _ _ _)
      | (with_reducible exact ih5 _ _ _ _ _ _ _ _ _ _ _)
      | (with_reducible exact ih6 _ _ _ _ _ _ _ _ _ _ _)
      | (with_reducible exact ih7 _ _ _ _ _ _ _ _ _ _ _)
      | (with_reducible exact intarsiaref15_lightItems.mono _ _)
      | (with_reducible exact intarsiaref15_lightTests.mono _ _ _ _)
      | (with_reducible exact LeO.refl _)
      | (with_reducible exact LeO.none _)
      | (with_reducible refine LeO.ite ?_ ?_)
      | (with_reducible refine LeO.bind ?_ (fun _ => ?_))
      | exact ih0 _ _ _ _
      | exact ih1 _ _ _ _
      | exact ih2 _ _ _ _ _ _
      | exact ih3 _ _ _ _ _ _
      | exact ih4 _ _ _ _
      | exact ih5 _ _ _ _ _ _ _ _ _ _ _
      | exact ih6 _ _ _ _ _ _ _ _ _ _ _
      | exact ih7 _ _ _ _ _ _ _ _ _ _ _
      | exact intarsiaref15_lightItems.mono _ _
      | exact intarsiaref15_lightTests.mono _ _ _ _
      | exact LeO.none _
      | refine LeO.ite ?_ ?_
      | refine LeO.bind ?_ (fun _ => ?_)
    · intro y0 y1 y2 y3 y4 y5 y6 y7 y8 y9 y10
      unfold intarsiaref15_lightRule.l4
      repeat' first
      | (with_reducible exact ih0 _ _ _ _)
      | (with_reducible exact ih1 _ _ _ _)
      | (with_reducible exact ih2 _ _ _ _ _ _)
      | (with_reducible exact ih3 _ _ _ _ _ _)
      | (with_reducible exact ih4 _ _ _ _)
      | (with_reducible exact ih5 _ _ _ _ _ _ _ _ _ _ _)
      | (with_reducible exact ih6 _ _ _ _ _ _ _ _ _ _ _)
      | (with_reducible exact ih7 _ _ _ _ _ _ _ _ _ _ _)
      | (with_reducible exact intarsiaref15_lightItems.mono _ _)
      | (with_reducible exact intarsiaref15_lightTests.mono _ _ _ _)
      | (with_reducible exact LeO.refl _)
      | (with_reducible exact LeO.none _)
      | (with_reducible refine LeO.ite ?_ ?_)
      | (with_reducible refine LeO.bind ?_ (fun _ => ?_))
      | exact ih0 _ _ _ _
      | exact ih1 _ _ _ _
      | exact ih2 _ _ _ _ _ _
      | exact ih3 _ _ _ _ _ _
      | exact ih4 _ _ _ _
      | exact ih5 _ _ _ _ _ _ _ _ _ _ _
      | exact ih6 _ _ _ _ _ _ _ _ _ _ _
      | exact ih7 _ _ _ _ _ _ _ _ _ _ _
      | exact intarsiaref15_lightItems.mono _ _
      | exact intarsiaref15_lightTests.mono _ _ _ _
      | exact LeO.none _
      | refine LeO.ite ?_ ?_
      | refine LeO.bind ?_ (fun _ => ?_)
theorem intarsiaref15_lightRule.mono : ∀ a0 a1 a2 k, LeO (intarsiaref15_lightRule.f k a0 a1 a2) (intarsiaref15_lightRule.f (k + 1) a0 a1 a2) := by
  intro a0 a1 a2 k
  obtain ⟨ih0, ih1, ih2, ih3, ih4, ih5, ih6, ih7⟩ := intarsiaref15_lightRule.mono_l k
  unfold intarsiaref15_lightRule.f
  repeat' first
      | (with_reducible exact ih0 _ _ _ _)
      | (with_reducible exact ih1 _ _ _ _)
      | (with_reducible exact ih2 _ _ _ _ _ _)
      | (with_reducible exact ih3 _ _ _ _ _ _)
      | (with_reducible exact ih4 _ _ _ _)
      | (with_reducible exact ih5 _ _ _ _ _ _ _ _ _ _ _)
      | (with_reducible exact ih6 _ _ _ _ _ _ _ _ _ _ _)
      | (with_reducible exact ih7 _ _ _ _ _ _ _ _ _ _ _)
      | (with_reducible exact intarsiaref15_lightItems.mono _ _)
      | (with_reducible exact intarsiaref15_lightTests.mono _ _ _ _)
      | (with_reducible exact LeO.refl _)
      | (with_reducible exact LeO.none _)
      | (with_reducible refine LeO.ite ?_ ?_)
      | (with_reducible refine LeO.bind ?_ (fun _ => ?_))
      | exact ih0 _ _ _ _
      | exact ih1 _ _ _ _
      | exact ih2 _ _ _ _ _ _
      | exact ih3 _ _ _ _ _ _
      | exact ih4 _ _ _ _
      | exact ih5 _ _ _ _ _ _ _ _ _ _ _
      | exact ih6 _ _ _ _ _ _ _ _ _ _ _
      | exact ih7 _ _ _ _ _ _ _ _ _ _ _
      | exact intarsiaref15_lightItems.mono _ _
      | exact intarsiaref15_lightTests.mono _ _ _ _
      | exact LeO.none _
      | refine LeO.ite ?_ ?_
      | refine LeO.bind ?_ (fun _ => ?_)
set_option maxHeartbeats 8000000 in
set_option maxRecDepth 100000 in
theorem intarsiaref15_lightRule.calls (k : Nat) (a0_0 : ByteArray) (A0_1 : Option Addr) (c0_1 : Nat) (l0_1 : List (S44)) (A0_2 : Option Addr) (c0_2 : Nat) (l0_2 : List (S65)) (r : Bool) (w : World) (hr0_1 : Kd.C k44 w A0_1 l0_1.length l0_1) (hc0_1 : l0_1.length ≤ c0_1) (hr0_2 : Kd.C k65 w A0_2 l0_2.length l0_2) (hc0_2 : l0_2.length ≤ c0_2) (h : intarsiaref15_lightRule.f k a0_0 l0_1 l0_2 = some r) :
    Calls Try.prog 20 #[.agg #[.string a0_0, .slice A0_1 l0_1.length c0_1, .slice A0_2 l0_2.length c0_2]] w fun e w' => e = .returned (.bool r) ∧ Below w.heap.size w w' := by
  have hu38 := Try.underlying38
  have hu57 := Try.underlying57
  have hu65 := Try.underlying65
  have HR0_1 := Aside0.mk hr0_1
  have HC0_1 := Aside0.mk hc0_1
  clear hr0_1 hc0_1
  have HR0_2 := Aside0.mk hr0_2
  have HC0_2 := Aside0.mk hc0_2
  clear hr0_2 hc0_2
  have HB := Aside0.mk (Below.refl w.heap.size w)
  have H : (if (l0_1.length : Int) > 8 then (intarsiaref15_lightRule.j0 k true a0_0 l0_1 l0_2) else (if (l0_2.length : Int) > 12 then (intarsiaref15_lightRule.j0 k true a0_0 l0_1 l0_2) else (intarsiaref15_lightRule.j0 k (decide ((a0_0.size : Int) > 60)) a0_0 l0_1 l0_2))) = some r := h
  clear h
  have HC2 := Aside0.mk H
  clear H
  go_enter Try.func20, Try.ntmps20
  go_upto_region 1 with (first | ((with_reducible refine gate_dst (N := 1) rfl ?_); (try (refine gate_guard (by rfl) ?_; dsimp only)); refine box_event ?hg (N := 1) ?hd (cs := #[.string a0_0, .slice A0_1 l0_1.length c0_1, .slice A0_2 l0_2.length c0_2]) (t := 38) ?hr ?_; (case hd => rfl); (case hg => rfl); (case hr => first | (go_simp; done) | (go_simp; rfl)); intro gb107 hg w3 hbox hb; have n0_ := Aside0.mk (below_step (by repeat (first | (with_reducible first | exact HB.out | apply below_alloc | apply pw_below_drewN | apply below_drew1) | exact HB.out)) hb); have n1_ := Aside0.mk (hbox); have n2_ := Aside0.mk ((by rw [hg]; exact (below_size (by repeat (first | (with_reducible first | exact HB.out | apply below_alloc | apply pw_below_drewN | apply below_drew1) | exact HB.out))) : w.heap.size ≤ gb107)); have n3_ := Aside0.mk ((by rw [hg]; exact (below_size (by repeat (first | (with_reducible first | exact HB.out | apply below_alloc | apply pw_below_drewN | apply below_drew1) | exact HB.out))) : w.heap.size ≤ gb107)); clear HB; have HB := n0_; have BK107 := n1_; have GW107 := n2_; have GE107 := n3_; clear n0_ n1_ n2_ n3_; clear hb hbox hg))
  (try simp only [Act.put, List.setIfInBounds_toArray, List.set_cons_zero, List.set_cons_succ])
  go_cut [25] (fun v25 wc => ∃ (kq : Nat) (x25_1 : Bool), v25 = .bool x25_1 ∧ Aside0 (intarsiaref15_lightRule.j0 kq x25_1 a0_0 l0_1 l0_2 = some r) ∧ Aside0 (kq ≤ k) ∧ Aside0 (wc.heap[gb107]? = some (.cells #[.string a0_0, (.slice A0_1 l0_1.length c0_1), (.slice A0_2 l0_2.length c0_2)] 38 (0, 0))) ∧ Aside0 (Below w.heap.size w wc))
  case first =>
    have H := HC2.out
    clear HC2
    by_cases c4 : (l0_1.length : Int) > 8
    · rw [if_pos c4] at H
      have c4b0 : decide (8 < (l0_1.length : Int)) = true := decide_eq_true c4
      have c4b1 : decide (8 < l0_1.length) = true := decide_eq_true (by omega)
      clear c4
      (first | rw [c4b0] | (simp only [i64_w, i32_w]; rw [c4b0]) | skip)
      have H' := Aside0.mk H
      clear H
      have hcz5_0 : w3.cell? ⟨gb107, 0, none⟩ = some (.string a0_0) := (blk_cell BK107.out 0).trans rfl
      have hcz5_1 : w3.cell? ⟨gb107, 1, none⟩ = some (.slice A0_1 l0_1.length c0_1) := (blk_cell BK107.out 1).trans rfl
      have hcz5_2 : w3.cell? ⟨gb107, 2, none⟩ = some (.slice A0_2 l0_2.length c0_2) := (blk_cell BK107.out 2).trans rfl
      have hfz5_0 := blk_frozen BK107.out 0
      have hfz5_1 := blk_frozen BK107.out 1
      have hfz5_2 := blk_frozen BK107.out 2
      go_wp2
      go_meet
      case rel => exact ⟨_, (true), (by first | rfl | (simp; done) | (simp [*]; done)), H', ⟨by first | omega | exact Nat.le_refl _⟩, ⟨by (with_reducible repeat (first | refine blk_drewN ?_ _ | refine blk_drew ?_ | refine blk_alloc ?_ _)); exact BK107.out⟩, ⟨by repeat (first | (with_reducible first | exact HB.out | apply below_alloc | apply pw_below_drewN | apply below_drew1 | refine below_set ?_ GE107.out) | exact HB.out)⟩⟩
    · rw [if_neg c4] at H
      have c4b0 : decide (8 < (l0_1.length : Int)) = false := decide_eq_false c4
      have c4b1 : decide (8 < l0_1.length) = false := decide_eq_false (by omega)
      clear c4
      (first | rw [c4b0] | (simp only [i64_w, i32_w]; rw [c4b0]) | skip)
      by_cases c6 : (l0_2.length : Int) > 12
      · rw [if_pos c6] at H
        have c6b0 : decide (12 < (l0_2.length : Int)) = true := decide_eq_true c6
        have c6b1 : decide (12 < l0_2.length) = true := decide_eq_true (by omega)
        clear c6
        have H' := Aside0.mk H
        clear H
        have hcz7_0 : w3.cell? ⟨gb107, 0, none⟩ = some (.string a0_0) := (blk_cell BK107.out 0).trans rfl
        have hcz7_1 : w3.cell? ⟨gb107, 1, none⟩ = some (.slice A0_1 l0_1.length c0_1) := (blk_cell BK107.out 1).trans rfl
        have hcz7_2 : w3.cell? ⟨gb107, 2, none⟩ = some (.slice A0_2 l0_2.length c0_2) := (blk_cell BK107.out 2).trans rfl
        have hfz7_0 := blk_frozen BK107.out 0
        have hfz7_1 := blk_frozen BK107.out 1
        have hfz7_2 := blk_frozen BK107.out 2
        go_wp2
        go_meet
        case rel => exact ⟨_, (true), (by first | rfl | (simp; done) | (simp [*]; done)), H', ⟨by first | omega | exact Nat.le_refl _⟩, ⟨by (with_reducible repeat (first | refine blk_drewN ?_ _ | refine blk_drew ?_ | refine blk_alloc ?_ _)); exact BK107.out⟩, ⟨by repeat (first | (with_reducible first | exact HB.out | apply below_alloc | apply pw_below_drewN | apply below_drew1 | refine below_set ?_ GE107.out) | exact HB.out)⟩⟩
      · rw [if_neg c6] at H
        have c6b0 : decide (12 < (l0_2.length : Int)) = false := decide_eq_false c6
        have c6b1 : decide (12 < l0_2.length) = false := decide_eq_false (by omega)
        clear c6
        have H' := Aside0.mk H
        clear H
        have hcz8_0 : w3.cell? ⟨gb107, 0, none⟩ = some (.string a0_0) := (blk_cell BK107.out 0).trans rfl
        have hcz8_1 : w3.cell? ⟨gb107, 1, none⟩ = some (.slice A0_1 l0_1.length c0_1) := (blk_cell BK107.out 1).trans rfl
        have hcz8_2 : w3.cell? ⟨gb107, 2, none⟩ = some (.slice A0_2 l0_2.length c0_2) := (blk_cell BK107.out 2).trans rfl
        have hfz8_0 := blk_frozen BK107.out 0
        have hfz8_1 := blk_frozen BK107.out 1
        have hfz8_2 := blk_frozen BK107.out 2
        go_wp2
        go_meet
        case rel => exact ⟨_, (decide ((a0_0.size : Int) > 60)), (by first | rfl | (simp; done) | (simp [*]; done)), H', ⟨by first | omega | exact Nat.le_refl _⟩, ⟨by (with_reducible repeat (first | refine blk_drewN ?_ _ | refine blk_drew ?_ | refine blk_alloc ?_ _)); exact BK107.out⟩, ⟨by repeat (first | (with_reducible first | exact HB.out | apply below_alloc | apply pw_below_drewN | apply below_drew1 | refine below_set ?_ GE107.out) | exact HB.out)⟩⟩
  case rest =>
    clear HC2
    try clear c2
    try clear p2
    try clear c4
    try clear c4b0
    try clear c4b1
    try clear c6
    try clear c6b0
    try clear c6b1
    try clear hcz5_0
    try clear hcz5_1
    try clear hcz5_2
    try clear hcz7_0
    try clear hcz7_1
    try clear hcz7_2
    try clear hcz8_0
    try clear hcz8_1
    try clear hcz8_2
    try clear hfz5_0
    try clear hfz5_1
    try clear hfz5_2
    try clear hfz7_0
    try clear hfz7_1
    try clear hfz7_2
    try clear hfz8_0
    try clear hfz8_1
    try clear hfz8_2
    obtain ⟨kq, x25_1, rfl, HA, HJ1, BK107, HB⟩ := hcut
    cases kq with
    | zero => exact absurd HA.out (by simp [intarsiaref15_lightRule.j0])
    | succ kj1 =>
      have H := HA.out
      clear HA
      simp only [intarsiaref15_lightRule.j0] at H
      by_cases c9 : x25_1 = true
      · subst c9
        have H1 : (some false) = some r := by rw [if_pos rfl] at H; exact H
        clear H
        have H := H1
        clear H1
        obtain rfl := Option.some.inj H
        go_wp2
        go_ret
        exact ⟨by first | rfl | (simp [errW_none, errW_some] <;> rfl) | (simp [*, errW_none, errW_some] <;> rfl), by repeat (first | (with_reducible first | exact HB.out | apply below_alloc | apply pw_below_drewN | apply below_drew1 | refine below_set ?_ GE107.out) | exact HB.out)⟩
      · replace c9 := Bool.eq_false_iff.mpr c9
        subst c9
        have H1 : (intarsiaref15_lightRule.l0 kj1 0 a0_0 l0_1 l0_2) = some r := by rw [if_neg (show ¬ (false = true) by decide)] at H; exact H
        clear H
        have H := H1
        clear H1
        have H' := Aside0.mk H
        clear H
        go_wp2
        go_loopg [3] kj1 (fun kq v3 w' => ∃ (x3_2 : Int), v3 = .int .i64 x3_2 ∧ Aside0 (intarsiaref15_lightRule.l0 kq x3_2 a0_0 l0_1 l0_2 = some r) ∧ Aside0 (kq ≤ kj1) ∧ Aside0 (w'.heap[gb107]? = some (.cells #[.string a0_0, (.slice A0_1 l0_1.length c0_1), (.slice A0_2 l0_2.length c0_2)] 38 (0, 0))) ∧ Aside0 (Below w.heap.size w w'))
        case atStart => exact ⟨(0), (by first | rfl | (simp; done) | (simp [*]; done)), H', ⟨Nat.le_refl _⟩, ⟨by (with_reducible repeat (first | refine blk_drewN ?_ _ | refine blk_drew ?_ | refine blk_alloc ?_ _)); exact BK107.out⟩, ⟨by repeat (first | (with_reducible first | exact HB.out | apply below_alloc | apply pw_below_drewN | apply below_drew1 | refine below_set ?_ GE107.out) | exact HB.out)⟩⟩
        case round =>
          clear H'
          try clear c2
          try clear p2
          try clear c4
          try clear c4b0
          try clear c4b1
          try clear c6
          try clear c6b0
          try clear c6b1
          try clear c9
          try clear hcz5_0
          try clear hcz5_1
          try clear hcz5_2
          try clear hcz7_0
          try clear hcz7_1
          try clear hcz7_2
          try clear hcz8_0
          try clear hcz8_1
          try clear hcz8_2
          try clear hfz5_0
          try clear hfz5_1
          try clear hfz5_2
          try clear hfz7_0
          try clear hfz7_1
          try clear hfz7_2
          try clear hfz8_0
          try clear hfz8_1
          try clear hfz8_2
          try clear p2
          obtain ⟨x3_2, rfl, HA, HK2, BK107, HB⟩ := hrel
          cases gk with
          | zero => exact absurd HA.out (by simp [intarsiaref15_lightRule.l0])
          | succ k2 =>
            have H := HA.out
            clear HA
            simp only [intarsiaref15_lightRule.l0] at H
            by_cases c10 : x3_2 < (l0_1.length : Int)
            · rw [if_pos c10] at H
              have c10b0 : decide (x3_2 < (l0_1.length : Int)) = true := decide_eq_true c10
              clear c10
              by_cases c11 : 0 ≤ x3_2
              · rw [if_pos c11] at H
                have c11b0 : decide (0 ≤ x3_2) = true := decide_eq_true c11
                clear c11
                have HC12 := Aside0.mk H
                clear H
                have hcz13_0 : wr.cell? ⟨gb107, 0, none⟩ = some (.string a0_0) := (blk_cell BK107.out 0).trans rfl
                have hcz13_1 : wr.cell? ⟨gb107, 1, none⟩ = some (.slice A0_1 l0_1.length c0_1) := (blk_cell BK107.out 1).trans rfl
                have hcz13_2 : wr.cell? ⟨gb107, 2, none⟩ = some (.slice A0_2 l0_2.length c0_2) := (blk_cell BK107.out 2).trans rfl
                have hfz13_0 := blk_frozen BK107.out 0
                have hfz13_1 := blk_frozen BK107.out 1
                have hfz13_2 := blk_frozen BK107.out 2
                have p108 : 0 ≤ (x3_2 : Int) := of_decide_eq_true (by first | (with_reducible assumption) | assumption)
                have q108 : x3_2 < (l0_1.length : Int) := of_decide_eq_true (by first | (with_reducible assumption) | assumption)
                obtain ⟨ad108, A108_2, c108_2, e108, hx108_0, hx108_1, hx108_2, hl108_2, hi108_2⟩ := at_T44 HR0_1.out x3_2 p108 q108
                cases e108
                replace hx108_0 := (HB.out.cell (World.block_lt_of_cell? w _ hx108_0)).trans hx108_0
                replace hx108_1 := (HB.out.cell (World.block_lt_of_cell? w _ hx108_1)).trans hx108_1
                replace hx108_2 := (HB.out.cell (World.block_lt_of_cell? w _ hx108_2)).trans hx108_2
                have HR108_2 := Aside0.mk hi108_2
                have HC108_2 := Aside0.mk hl108_2
                clear hi108_2 hl108_2
                replace p108 := eq_true p108
                replace q108 := eq_true q108
                go_upto_region 7 with (fail)
                go_cut [51] (fun v51 wc => ∃ (kq : Nat) (x51_11 : Bool), v51 = .bool x51_11 ∧ Aside0 (intarsiaref15_lightRule.j2 kq x3_2 ((rd_T44 l0_1 x3_2).f2) x51_11 a0_0 l0_1 l0_2 = some r) ∧ Aside0 (kq ≤ k2) ∧ Aside0 (wc.heap[gb107]? = some (.cells #[.string a0_0, (.slice (some ad108) l0_1.length c0_1), (.slice A0_2 l0_2.length c0_2)] 38 (0, 0))) ∧ Aside0 (Below w.heap.size w wc))
                case first =>
                  have H := HC12.out
                  clear HC12
                  by_cases c14 : (((rd_T44 l0_1 x3_2).f2).length : Int) > 10
                  · rw [if_pos c14] at H
                    have c14b0 : decide (10 < (((rd_T44 l0_1 x3_2).f2).length : Int)) = true := decide_eq_true c14
                    have c14b1 : decide (10 < ((rd_T44 l0_1 x3_2).f2).length) = true := decide_eq_true (by omega)
                    clear c14
                    (first | rw [c14b0] | (simp only [i64_w, i32_w]; rw [c14b0]) | skip)
                    have H' := Aside0.mk H
                    clear H
                    go_wp2
                    go_meet
                    case rel => exact ⟨_, (true), (by first | rfl | (simp; done) | (simp [*]; done)), H', ⟨by have := HJ1.out; have := HK2.out; first | omega | exact Nat.le_refl _⟩, ⟨by (with_reducible repeat (first | refine blk_drewN ?_ _ | refine blk_drew ?_ | refine blk_alloc ?_ _)); exact BK107.out⟩, ⟨by repeat (first | (with_reducible first | exact HB.out | apply below_alloc | apply pw_below_drewN | apply below_drew1 | refine below_set ?_ GE107.out) | exact HB.out)⟩⟩
                  · rw [if_neg c14] at H
                    have c14b0 : decide (10 < (((rd_T44 l0_1 x3_2).f2).length : Int)) = false := decide_eq_false c14
                    have c14b1 : decide (10 < ((rd_T44 l0_1 x3_2).f2).length) = false := decide_eq_false (by omega)
                    clear c14
                    (first | rw [c14b0] | (simp only [i64_w, i32_w]; rw [c14b0]) | skip)
                    have H' := Aside0.mk H
                    clear H
                    have hcz15_0 : wr.cell? ⟨gb107, 0, none⟩ = some (.string a0_0) := (blk_cell BK107.out 0).trans rfl
                    have hcz15_1 : wr.cell? ⟨gb107, 1, none⟩ = some (.slice (some ad108) l0_1.length c0_1) := (blk_cell BK107.out 1).trans rfl
                    have hcz15_2 : wr.cell? ⟨gb107, 2, none⟩ = some (.slice A0_2 l0_2.length c0_2) := (blk_cell BK107.out 2).trans rfl
                    have hfz15_0 := blk_frozen BK107.out 0
                    have hfz15_1 := blk_frozen BK107.out 1
                    have hfz15_2 := blk_frozen BK107.out 2
                    have p109 : 0 ≤ (x3_2 : Int) := of_decide_eq_true (by first | (with_reducible assumption) | assumption)
                    have q109 : x3_2 < (l0_1.length : Int) := of_decide_eq_true (by first | (with_reducible assumption) | assumption)
                    obtain ⟨ad109, A109_2, c109_2, e109, hx109_0, hx109_1, hx109_2, hl109_2, hi109_2⟩ := at_T44 HR0_1.out x3_2 p109 q109
                    obtain rfl : ad108 = ad109 := (by injection e109)
                    replace hx109_0 := (HB.out.cell (World.block_lt_of_cell? w _ hx109_0)).trans hx109_0
                    replace hx109_1 := (HB.out.cell (World.block_lt_of_cell? w _ hx109_1)).trans hx109_1
                    replace hx109_2 := (HB.out.cell (World.block_lt_of_cell? w _ hx109_2)).trans hx109_2
                    have HR109_2 := Aside0.mk hi109_2
                    have HC109_2 := Aside0.mk hl109_2
                    clear hi109_2 hl109_2
                    replace p109 := eq_true p109
                    replace q109 := eq_true q109
                    go_wp2
                    go_meet
                    case rel => exact ⟨_, (decide ((((rd_T44 l0_1 x3_2).f1).size : Int) > 60)), (by first | rfl | (simp; done) | (simp [*]; done)), H', ⟨by have := HJ1.out; have := HK2.out; first | omega | exact Nat.le_refl _⟩, ⟨by (with_reducible repeat (first | refine blk_drewN ?_ _ | refine blk_drew ?_ | refine blk_alloc ?_ _)); exact BK107.out⟩, ⟨by repeat (first | (with_reducible first | exact HB.out | apply below_alloc | apply pw_below_drewN | apply below_drew1 | refine below_set ?_ GE107.out) | exact HB.out)⟩⟩
                case rest =>
                  clear HC12
                  try clear c1
                  try clear p1
                  try clear q1
                  try clear hx1
                  try clear c2
                  try clear p2
                  try clear c4
                  try clear c4b0
                  try clear c4b1
                  try clear c6
                  try clear c6b0
                  try clear c6b1
                  try clear c9
                  try clear c10
                  try clear c10b0
                  try clear p10
                  try clear q10
                  try clear hx10
                  try clear c11
                  try clear c11b0
                  try clear c14
                  try clear c14b0
                  try clear c14b1
                  try clear hcz13_0
                  try clear hcz13_1
                  try clear hcz13_2
                  try clear hcz15_0
                  try clear hcz15_1
                  try clear hcz15_2
                  try clear hcz5_0
                  try clear hcz5_1
                  try clear hcz5_2
                  try clear hcz7_0
                  try clear hcz7_1
                  try clear hcz7_2
                  try clear hcz8_0
                  try clear hcz8_1
                  try clear hcz8_2
                  try clear hfz13_0
                  try clear hfz13_1
                  try clear hfz13_2
                  try clear hfz15_0
                  try clear hfz15_1
                  try clear hfz15_2
                  try clear hfz5_0
                  try clear hfz5_1
                  try clear hfz5_2
                  try clear hfz7_0
                  try clear hfz7_1
                  try clear hfz7_2
                  try clear hfz8_0
                  try clear hfz8_1
                  try clear hfz8_2
                  try clear hx108_0
                  try clear hx108_1
                  try clear hx108_2
                  try clear hx109_0
                  try clear hx109_1
                  try clear hx109_2
                  try clear p108
                  try clear p109
                  try clear p2
                  try clear q108
                  try clear q109
                  obtain ⟨kq, x51_11, rfl, HA, HJ11, BK107, HB⟩ := hcut
                  cases kq with
                  | zero => exact absurd HA.out (by simp [intarsiaref15_lightRule.j2])
                  | succ kj11 =>
                    have H := HA.out
                    clear HA
                    simp only [intarsiaref15_lightRule.j2] at H
                    by_cases c16 : x51_11 = true
                    · subst c16
                      have H1 : (some false) = some r := by rw [if_pos rfl] at H; exact H
                      clear H
                      have H := H1
                      clear H1
                      obtain rfl := Option.some.inj H
                      go_wp2
                      go_ret
                      exact ⟨by first | rfl | (simp [errW_none, errW_some] <;> rfl) | (simp [*, errW_none, errW_some] <;> rfl), by repeat (first | (with_reducible first | exact HB.out | apply below_alloc | apply pw_below_drewN | apply below_drew1 | refine below_set ?_ GE107.out) | exact HB.out)⟩
                    · replace c16 := Bool.eq_false_iff.mpr c16
                      subst c16
                      have H1 : (intarsiaref15_lightRule.l1 kj11 x3_2 ((rd_T44 l0_1 x3_2).f2) 0 a0_0 l0_1 l0_2) = some r := by rw [if_neg (show ¬ (false = true) by decide)] at H; exact H
                      clear H
                      have H := H1
                      clear H1
                      have H' := Aside0.mk H
                      clear H
                      go_wp2
                      go_loopg [5] kj11 (fun kq v5 w' => ∃ (x5_4 : Int), v5 = .int .i64 x5_4 ∧ Aside0 (intarsiaref15_lightRule.l1 kq x3_2 ((rd_T44 l0_1 x3_2).f2) x5_4 a0_0 l0_1 l0_2 = some r) ∧ Aside0 (kq ≤ kj11) ∧ Aside0 (w'.heap[gb107]? = some (.cells #[.string a0_0, (.slice (some ad108) l0_1.length c0_1), (.slice A0_2 l0_2.length c0_2)] 38 (0, 0))) ∧ Aside0 (Below w.heap.size w w'))
                      case atStart => exact ⟨(0), (by first | rfl | (simp; done) | (simp [*]; done)), H', ⟨Nat.le_refl _⟩, ⟨by (with_reducible repeat (first | refine blk_drewN ?_ _ | refine blk_drew ?_ | refine blk_alloc ?_ _)); exact BK107.out⟩, ⟨by repeat (first | (with_reducible first | exact HB.out | apply below_alloc | apply pw_below_drewN | apply below_drew1 | refine below_set ?_ GE107.out) | exact HB.out)⟩⟩
                      case round =>
                        clear H'
                        try clear c1
                        try clear p1
                        try clear q1
                        try clear hx1
                        try clear c2
                        try clear p2
                        try clear c4
                        try clear c4b0
                        try clear c4b1
                        try clear c6
                        try clear c6b0
                        try clear c6b1
                        try clear c9
                        try clear c10
                        try clear c10b0
                        try clear p10
                        try clear q10
                        try clear hx10
                        try clear c11
                        try clear c11b0
                        try clear c14
                        try clear c14b0
                        try clear c14b1
                        try clear c16
                        try clear hcz13_0
                        try clear hcz13_1
                        try clear hcz13_2
                        try clear hcz15_0
                        try clear hcz15_1
                        try clear hcz15_2
                        try clear hcz5_0
                        try clear hcz5_1
                        try clear hcz5_2
                        try clear hcz7_0
                        try clear hcz7_1
                        try clear hcz7_2
                        try clear hcz8_0
                        try clear hcz8_1
                        try clear hcz8_2
                        try clear hfz13_0
                        try clear hfz13_1
                        try clear hfz13_2
                        try clear hfz15_0
                        try clear hfz15_1
                        try clear hfz15_2
                        try clear hfz5_0
                        try clear hfz5_1
                        try clear hfz5_2
                        try clear hfz7_0
                        try clear hfz7_1
                        try clear hfz7_2
                        try clear hfz8_0
                        try clear hfz8_1
                        try clear hfz8_2
                        try clear hx108_0
                        try clear hx108_1
                        try clear hx108_2
                        try clear hx109_0
                        try clear hx109_1
                        try clear hx109_2
                        try clear p1
                        try clear p10
                        try clear p108
                        try clear p109
                        try clear p2
                        try clear q1
                        try clear q10
                        try clear q108
                        try clear q109
                        obtain ⟨x5_4, rfl, HA, HK4, BK107, HB⟩ := hrel
                        cases gk with
                        | zero => exact absurd HA.out (by simp [intarsiaref15_lightRule.l1])
                        | succ k4 =>
                          have H := HA.out
                          clear HA
                          simp only [intarsiaref15_lightRule.l1] at H
                          by_cases c17 : x5_4 < (((rd_T44 l0_1 x3_2).f2).length : Int)
                          · rw [if_pos c17] at H
                            have c17b0 : decide (x5_4 < (((rd_T44 l0_1 x3_2).f2).length : Int)) = true := decide_eq_true c17
                            clear c17
                            by_cases c18 : 0 ≤ x5_4
                            · rw [if_pos c18] at H
                              have c18b0 : decide (0 ≤ x5_4) = true := decide_eq_true c18
                              clear c18
                              by_cases c19 : (((rd_T57 ((rd_T44 l0_1 x3_2).f2) x5_4).f0).size : Int) > 60
                              · rw [if_pos c19] at H
                                have c19b0 : decide (60 < (((rd_T57 ((rd_T44 l0_1 x3_2).f2) x5_4).f0).size : Int)) = true := decide_eq_true c19
                                have c19b1 : decide (60 < ((rd_T57 ((rd_T44 l0_1 x3_2).f2) x5_4).f0).size) = true := decide_eq_true (by omega)
                                clear c19
                                obtain rfl := Option.some.inj H
                                have p110 : 0 ≤ (x5_4 : Int) := of_decide_eq_true (by first | (with_reducible assumption) | assumption)
                                have q110 : x5_4 < (((rd_T44 l0_1 x3_2).f2).length : Int) := of_decide_eq_true (by first | (with_reducible assumption) | assumption)
                                obtain ⟨ad110, A110_1, c110_1, A110_2, c110_2, e110, hx110_0, hx110_1, hx110_2, hl110_1, hi110_1, hl110_2, hi110_2⟩ := at_T57 HR108_2.out x5_4 p110 q110
                                cases e110
                                replace hx110_0 := (HB.out.cell (World.block_lt_of_cell? w _ hx110_0)).trans hx110_0
                                replace hx110_1 := (HB.out.cell (World.block_lt_of_cell? w _ hx110_1)).trans hx110_1
                                replace hx110_2 := (HB.out.cell (World.block_lt_of_cell? w _ hx110_2)).trans hx110_2
                                have HR110_1 := Aside0.mk hi110_1
                                have HC110_1 := Aside0.mk hl110_1
                                clear hi110_1 hl110_1
                                have HR110_2 := Aside0.mk hi110_2
                                have HC110_2 := Aside0.mk hl110_2
                                clear hi110_2 hl110_2
                                replace p110 := eq_true p110
                                replace q110 := eq_true q110
                                go_wp2
                                go_ret
                                exact ⟨by first | rfl | (simp [errW_none, errW_some] <;> rfl) | (simp [*, errW_none, errW_some] <;> rfl), by repeat (first | (with_reducible first | exact HB.out | apply below_alloc | apply pw_below_drewN | apply below_drew1 | refine below_set ?_ GE107.out) | exact HB.out)⟩
                              · rw [if_neg c19] at H
                                have c19b0 : decide (60 < (((rd_T57 ((rd_T44 l0_1 x3_2).f2) x5_4).f0).size : Int)) = false := decide_eq_false c19
                                have c19b1 : decide (60 < ((rd_T57 ((rd_T44 l0_1 x3_2).f2) x5_4).f0).size) = false := decide_eq_false (by omega)
                                clear c19
                                by_cases c20 : (((rd_T57 ((rd_T44 l0_1 x3_2).f2) x5_4).f1).length : Int) > 12
                                · rw [if_pos c20] at H
                                  have c20b0 : decide (12 < (((rd_T57 ((rd_T44 l0_1 x3_2).f2) x5_4).f1).length : Int)) = true := decide_eq_true c20
                                  have c20b1 : decide (12 < ((rd_T57 ((rd_T44 l0_1 x3_2).f2) x5_4).f1).length) = true := decide_eq_true (by omega)
                                  clear c20
                                  obtain rfl := Option.some.inj H
                                  have p110 : 0 ≤ (x5_4 : Int) := of_decide_eq_true (by first | (with_reducible assumption) | assumption)
                                  have q110 : x5_4 < (((rd_T44 l0_1 x3_2).f2).length : Int) := of_decide_eq_true (by first | (with_reducible assumption) | assumption)
                                  obtain ⟨ad110, A110_1, c110_1, A110_2, c110_2, e110, hx110_0, hx110_1, hx110_2, hl110_1, hi110_1, hl110_2, hi110_2⟩ := at_T57 HR108_2.out x5_4 p110 q110
                                  cases e110
                                  replace hx110_0 := (HB.out.cell (World.block_lt_of_cell? w _ hx110_0)).trans hx110_0
                                  replace hx110_1 := (HB.out.cell (World.block_lt_of_cell? w _ hx110_1)).trans hx110_1
                                  replace hx110_2 := (HB.out.cell (World.block_lt_of_cell? w _ hx110_2)).trans hx110_2
                                  have HR110_1 := Aside0.mk hi110_1
                                  have HC110_1 := Aside0.mk hl110_1
                                  clear hi110_1 hl110_1
                                  have HR110_2 := Aside0.mk hi110_2
                                  have HC110_2 := Aside0.mk hl110_2
                                  clear hi110_2 hl110_2
                                  replace p110 := eq_true p110
                                  replace q110 := eq_true q110
                                  have p111 : 0 ≤ (x5_4 : Int) := of_decide_eq_true (by first | (with_reducible assumption) | assumption)
                                  have q111 : x5_4 < (((rd_T44 l0_1 x3_2).f2).length : Int) := of_decide_eq_true (by first | (with_reducible assumption) | assumption)
                                  obtain ⟨ad111, A111_1, c111_1, A111_2, c111_2, e111, hx111_0, hx111_1, hx111_2, hl111_1, hi111_1, hl111_2, hi111_2⟩ := at_T57 HR108_2.out x5_4 p111 q111
                                  obtain rfl : ad110 = ad111 := (by injection e111)
                                  replace hx111_0 := (HB.out.cell (World.block_lt_of_cell? w _ hx111_0)).trans hx111_0
                                  replace hx111_1 := (HB.out.cell (World.block_lt_of_cell? w _ hx111_1)).trans hx111_1
                                  replace hx111_2 := (HB.out.cell (World.block_lt_of_cell? w _ hx111_2)).trans hx111_2
                                  have HR111_1 := Aside0.mk hi111_1
                                  have HC111_1 := Aside0.mk hl111_1
                                  clear hi111_1 hl111_1
                                  have HR111_2 := Aside0.mk hi111_2
                                  have HC111_2 := Aside0.mk hl111_2
                                  clear hi111_2 hl111_2
                                  replace p111 := eq_true p111
                                  replace q111 := eq_true q111
                                  have ea_ := Option.some.inj (hx110_1.symm.trans hx111_1)
                                  injection ea_ with ea_ en_ ec_
                                  subst ea_
                                  subst ec_
                                  clear en_
                                  have ea_ := Option.some.inj (hx110_2.symm.trans hx111_2)
                                  injection ea_ with ea_ en_ ec_
                                  subst ea_
                                  subst ec_
                                  clear en_
                                  go_wp2
                                  go_ret
                                  exact ⟨by first | rfl | (simp [errW_none, errW_some] <;> rfl) | (simp [*, errW_none, errW_some] <;> rfl), by repeat (first | (with_reducible first | exact HB.out | apply below_alloc | apply pw_below_drewN | apply below_drew1 | refine below_set ?_ GE107.out) | exact HB.out)⟩
                                · rw [if_neg c20] at H
                                  have c20b0 : decide (12 < (((rd_T57 ((rd_T44 l0_1 x3_2).f2) x5_4).f1).length : Int)) = false := decide_eq_false c20
                                  have c20b1 : decide (12 < ((rd_T57 ((rd_T44 l0_1 x3_2).f2) x5_4).f1).length) = false := decide_eq_false (by omega)
                                  clear c20
                                  by_cases c21 : (((rd_T57 ((rd_T44 l0_1 x3_2).f2) x5_4).f2).length : Int) > 12
                                  · rw [if_pos c21] at H
                                    have c21b0 : decide (12 < (((rd_T57 ((rd_T44 l0_1 x3_2).f2) x5_4).f2).length : Int)) = true := decide_eq_true c21
                                    have c21b1 : decide (12 < ((rd_T57 ((rd_T44 l0_1 x3_2).f2) x5_4).f2).length) = true := decide_eq_true (by omega)
                                    clear c21
                                    obtain rfl := Option.some.inj H
                                    have p110 : 0 ≤ (x5_4 : Int) := of_decide_eq_true (by first | (with_reducible assumption) | assumption)
                                    have q110 : x5_4 < (((rd_T44 l0_1 x3_2).f2).length : Int) := of_decide_eq_true (by first | (with_reducible assumption) | assumption)
                                    obtain ⟨ad110, A110_1, c110_1, A110_2, c110_2, e110, hx110_0, hx110_1, hx110_2, hl110_1, hi110_1, hl110_2, hi110_2⟩ := at_T57 HR108_2.out x5_4 p110 q110
                                    cases e110
                                    replace hx110_0 := (HB.out.cell (World.block_lt_of_cell? w _ hx110_0)).trans hx110_0
                                    replace hx110_1 := (HB.out.cell (World.block_lt_of_cell? w _ hx110_1)).trans hx110_1
                                    replace hx110_2 := (HB.out.cell (World.block_lt_of_cell? w _ hx110_2)).trans hx110_2
                                    have HR110_1 := Aside0.mk hi110_1
                                    have HC110_1 := Aside0.mk hl110_1
                                    clear hi110_1 hl110_1
                                    have HR110_2 := Aside0.mk hi110_2
                                    have HC110_2 := Aside0.mk hl110_2
                                    clear hi110_2 hl110_2
                                    replace p110 := eq_true p110
                                    replace q110 := eq_true q110
                                    have p111 : 0 ≤ (x5_4 : Int) := of_decide_eq_true (by first | (with_reducible assumption) | assumption)
                                    have q111 : x5_4 < (((rd_T44 l0_1 x3_2).f2).length : Int) := of_decide_eq_true (by first | (with_reducible assumption) | assumption)
                                    obtain ⟨ad111, A111_1, c111_1, A111_2, c111_2, e111, hx111_0, hx111_1, hx111_2, hl111_1, hi111_1, hl111_2, hi111_2⟩ := at_T57 HR108_2.out x5_4 p111 q111
                                    obtain rfl : ad110 = ad111 := (by injection e111)
                                    replace hx111_0 := (HB.out.cell (World.block_lt_of_cell? w _ hx111_0)).trans hx111_0
                                    replace hx111_1 := (HB.out.cell (World.block_lt_of_cell? w _ hx111_1)).trans hx111_1
                                    replace hx111_2 := (HB.out.cell (World.block_lt_of_cell? w _ hx111_2)).trans hx111_2
                                    have HR111_1 := Aside0.mk hi111_1
                                    have HC111_1 := Aside0.mk hl111_1
                                    clear hi111_1 hl111_1
                                    have HR111_2 := Aside0.mk hi111_2
                                    have HC111_2 := Aside0.mk hl111_2
                                    clear hi111_2 hl111_2
                                    replace p111 := eq_true p111
                                    replace q111 := eq_true q111
                                    have ea_ := Option.some.inj (hx110_1.symm.trans hx111_1)
                                    injection ea_ with ea_ en_ ec_
                                    subst ea_
                                    subst ec_
                                    clear en_
                                    have ea_ := Option.some.inj (hx110_2.symm.trans hx111_2)
                                    injection ea_ with ea_ en_ ec_
                                    subst ea_
                                    subst ec_
                                    clear en_
                                    have p112 : 0 ≤ (x5_4 : Int) := of_decide_eq_true (by first | (with_reducible assumption) | assumption)
                                    have q112 : x5_4 < (((rd_T44 l0_1 x3_2).f2).length : Int) := of_decide_eq_true (by first | (with_reducible assumption) | assumption)
                                    obtain ⟨ad112, A112_1, c112_1, A112_2, c112_2, e112, hx112_0, hx112_1, hx112_2, hl112_1, hi112_1, hl112_2, hi112_2⟩ := at_T57 HR108_2.out x5_4 p112 q112
                                    obtain rfl : ad110 = ad112 := (by injection e112)
                                    replace hx112_0 := (HB.out.cell (World.block_lt_of_cell? w _ hx112_0)).trans hx112_0
                                    replace hx112_1 := (HB.out.cell (World.block_lt_of_cell? w _ hx112_1)).trans hx112_1
                                    replace hx112_2 := (HB.out.cell (World.block_lt_of_cell? w _ hx112_2)).trans hx112_2
                                    have HR112_1 := Aside0.mk hi112_1
                                    have HC112_1 := Aside0.mk hl112_1
                                    clear hi112_1 hl112_1
                                    have HR112_2 := Aside0.mk hi112_2
                                    have HC112_2 := Aside0.mk hl112_2
                                    clear hi112_2 hl112_2
                                    replace p112 := eq_true p112
                                    replace q112 := eq_true q112
                                    have ea_ := Option.some.inj (hx110_1.symm.trans hx112_1)
                                    injection ea_ with ea_ en_ ec_
                                    subst ea_
                                    subst ec_
                                    clear en_
                                    have ea_ := Option.some.inj (hx110_2.symm.trans hx112_2)
                                    injection ea_ with ea_ en_ ec_
                                    subst ea_
                                    subst ec_
                                    clear en_
                                    go_wp2
                                    go_ret
                                    exact ⟨by first | rfl | (simp [errW_none, errW_some] <;> rfl) | (simp [*, errW_none, errW_some] <;> rfl), by repeat (first | (with_reducible first | exact HB.out | apply below_alloc | apply pw_below_drewN | apply below_drew1 | refine below_set ?_ GE107.out) | exact HB.out)⟩
                                  · rw [if_neg c21] at H
                                    have c21b0 : decide (12 < (((rd_T57 ((rd_T44 l0_1 x3_2).f2) x5_4).f2).length : Int)) = false := decide_eq_false c21
                                    have c21b1 : decide (12 < ((rd_T57 ((rd_T44 l0_1 x3_2).f2) x5_4).f2).length) = false := decide_eq_false (by omega)
                                    clear c21
                                    replace H := Option.bind_eq_some_iff.mp H
                                    obtain ⟨t114, A220, H⟩ := H
                                    replace H : (if t114 = true then (intarsiaref15_lightRule.l1 k4 x3_2 ((rd_T44 l0_1 x3_2).f2) (wrap64 (x5_4 + 1)) a0_0 l0_1 l0_2) else (some false)) = some r := H
                                    have A22 := Aside0.mk A220
                                    clear A220
                                    by_cases c23 : t114 = true
                                    · subst c23
                                      have H1 : (intarsiaref15_lightRule.l1 k4 x3_2 ((rd_T44 l0_1 x3_2).f2) (wrap64 (x5_4 + 1)) a0_0 l0_1 l0_2) = some r := by rw [if_pos rfl] at H; exact H
                                      clear H
                                      have H := H1
                                      clear H1
                                      have H' := Aside0.mk H
                                      clear H
                                      have p110 : 0 ≤ (x5_4 : Int) := of_decide_eq_true (by first | (with_reducible assumption) | assumption)
                                      have q110 : x5_4 < (((rd_T44 l0_1 x3_2).f2).length : Int) := of_decide_eq_true (by first | (with_reducible assumption) | assumption)
                                      obtain ⟨ad110, A110_1, c110_1, A110_2, c110_2, e110, hx110_0, hx110_1, hx110_2, hl110_1, hi110_1, hl110_2, hi110_2⟩ := at_T57 HR108_2.out x5_4 p110 q110
                                      cases e110
                                      replace hx110_0 := (HB.out.cell (World.block_lt_of_cell? w _ hx110_0)).trans hx110_0
                                      replace hx110_1 := (HB.out.cell (World.block_lt_of_cell? w _ hx110_1)).trans hx110_1
                                      replace hx110_2 := (HB.out.cell (World.block_lt_of_cell? w _ hx110_2)).trans hx110_2
                                      have HR110_1 := Aside0.mk hi110_1
                                      have HC110_1 := Aside0.mk hl110_1
                                      clear hi110_1 hl110_1
                                      have HR110_2 := Aside0.mk hi110_2
                                      have HC110_2 := Aside0.mk hl110_2
                                      clear hi110_2 hl110_2
                                      replace p110 := eq_true p110
                                      replace q110 := eq_true q110
                                      have p111 : 0 ≤ (x5_4 : Int) := of_decide_eq_true (by first | (with_reducible assumption) | assumption)
                                      have q111 : x5_4 < (((rd_T44 l0_1 x3_2).f2).length : Int) := of_decide_eq_true (by first | (with_reducible assumption) | assumption)
                                      obtain ⟨ad111, A111_1, c111_1, A111_2, c111_2, e111, hx111_0, hx111_1, hx111_2, hl111_1, hi111_1, hl111_2, hi111_2⟩ := at_T57 HR108_2.out x5_4 p111 q111
                                      obtain rfl : ad110 = ad111 := (by injection e111)
                                      replace hx111_0 := (HB.out.cell (World.block_lt_of_cell? w _ hx111_0)).trans hx111_0
                                      replace hx111_1 := (HB.out.cell (World.block_lt_of_cell? w _ hx111_1)).trans hx111_1
                                      replace hx111_2 := (HB.out.cell (World.block_lt_of_cell? w _ hx111_2)).trans hx111_2
                                      have HR111_1 := Aside0.mk hi111_1
                                      have HC111_1 := Aside0.mk hl111_1
                                      clear hi111_1 hl111_1
                                      have HR111_2 := Aside0.mk hi111_2
                                      have HC111_2 := Aside0.mk hl111_2
                                      clear hi111_2 hl111_2
                                      replace p111 := eq_true p111
                                      replace q111 := eq_true q111
                                      have ea_ := Option.some.inj (hx110_1.symm.trans hx111_1)
                                      injection ea_ with ea_ en_ ec_
                                      subst ea_
                                      subst ec_
                                      clear en_
                                      have ea_ := Option.some.inj (hx110_2.symm.trans hx111_2)
                                      injection ea_ with ea_ en_ ec_
                                      subst ea_
                                      subst ec_
                                      clear en_
                                      have p112 : 0 ≤ (x5_4 : Int) := of_decide_eq_true (by first | (with_reducible assumption) | assumption)
                                      have q112 : x5_4 < (((rd_T44 l0_1 x3_2).f2).length : Int) := of_decide_eq_true (by first | (with_reducible assumption) | assumption)
                                      obtain ⟨ad112, A112_1, c112_1, A112_2, c112_2, e112, hx112_0, hx112_1, hx112_2, hl112_1, hi112_1, hl112_2, hi112_2⟩ := at_T57 HR108_2.out x5_4 p112 q112
                                      obtain rfl : ad110 = ad112 := (by injection e112)
                                      replace hx112_0 := (HB.out.cell (World.block_lt_of_cell? w _ hx112_0)).trans hx112_0
                                      replace hx112_1 := (HB.out.cell (World.block_lt_of_cell? w _ hx112_1)).trans hx112_1
                                      replace hx112_2 := (HB.out.cell (World.block_lt_of_cell? w _ hx112_2)).trans hx112_2
                                      have HR112_1 := Aside0.mk hi112_1
                                      have HC112_1 := Aside0.mk hl112_1
                                      clear hi112_1 hl112_1
                                      have HR112_2 := Aside0.mk hi112_2
                                      have HC112_2 := Aside0.mk hl112_2
                                      clear hi112_2 hl112_2
                                      replace p112 := eq_true p112
                                      replace q112 := eq_true q112
                                      have ea_ := Option.some.inj (hx110_1.symm.trans hx112_1)
                                      injection ea_ with ea_ en_ ec_
                                      subst ea_
                                      subst ec_
                                      clear en_
                                      have ea_ := Option.some.inj (hx110_2.symm.trans hx112_2)
                                      injection ea_ with ea_ en_ ec_
                                      subst ea_
                                      subst ec_
                                      clear en_
                                      have p113 : 0 ≤ (x5_4 : Int) := of_decide_eq_true (by first | (with_reducible assumption) | assumption)
                                      have q113 : x5_4 < (((rd_T44 l0_1 x3_2).f2).length : Int) := of_decide_eq_true (by first | (with_reducible assumption) | assumption)
                                      obtain ⟨ad113, A113_1, c113_1, A113_2, c113_2, e113, hx113_0, hx113_1, hx113_2, hl113_1, hi113_1, hl113_2, hi113_2⟩ := at_T57 HR108_2.out x5_4 p113 q113
                                      obtain rfl : ad110 = ad113 := (by injection e113)
                                      replace hx113_0 := (HB.out.cell (World.block_lt_of_cell? w _ hx113_0)).trans hx113_0
                                      replace hx113_1 := (HB.out.cell (World.block_lt_of_cell? w _ hx113_1)).trans hx113_1
                                      replace hx113_2 := (HB.out.cell (World.block_lt_of_cell? w _ hx113_2)).trans hx113_2
                                      have HR113_1 := Aside0.mk hi113_1
                                      have HC113_1 := Aside0.mk hl113_1
                                      clear hi113_1 hl113_1
                                      have HR113_2 := Aside0.mk hi113_2
                                      have HC113_2 := Aside0.mk hl113_2
                                      clear hi113_2 hl113_2
                                      replace p113 := eq_true p113
                                      replace q113 := eq_true q113
                                      have ea_ := Option.some.inj (hx110_1.symm.trans hx113_1)
                                      injection ea_ with ea_ en_ ec_
                                      subst ea_
                                      subst ec_
                                      clear en_
                                      have ea_ := Option.some.inj (hx110_2.symm.trans hx113_2)
                                      injection ea_ with ea_ en_ ec_
                                      subst ea_
                                      subst ec_
                                      clear en_
                                      go_wp2_with (first | (go_at_call 31; (with_reducible refine (intarsiaref15_lightTests.calls k4 ((rd_T57 ((rd_T44 l0_1 x3_2).f2) x5_4).f0) _ _ ((rd_T57 ((rd_T44 l0_1 x3_2).f2) x5_4).f1) _ _ ((rd_T57 ((rd_T44 l0_1 x3_2).f2) x5_4).f2) true _ ?side1 ?side2 ?side3 ?side4 A22.out).mono ?_); (case side1 => repeat (first | exact (Kd.C_below HR113_1.out HB.out) | (with_reducible refine Kd.C_alloc ?_ _) | (with_reducible refine Kd.C_drewN ?_ _) | (with_reducible refine Kd.C_drew ?_))); (case side2 => exact HC113_1.out); (case side3 => repeat (first | exact (Kd.C_below HR113_2.out HB.out) | (with_reducible refine Kd.C_alloc ?_ _) | (with_reducible refine Kd.C_drewN ?_ _) | (with_reducible refine Kd.C_drew ?_))); (case side4 => exact HC113_2.out); rintro e w24 ⟨rfl, hb⟩; have n0_ := Aside0.mk (blk_below (g := gb107) (o := .cells #[.string a0_0, .slice (some ad108) l0_1.length c0_1, .slice A0_2 l0_2.length c0_2] 38 (0, 0)) (by (with_reducible repeat (first | refine blk_drewN ?_ _ | refine blk_drew ?_ | refine blk_alloc ?_ _)); exact BK107.out) hb); have n1_ := Aside0.mk (below_step (by repeat (first | (with_reducible first | exact HB.out | apply below_alloc | apply pw_below_drewN | apply below_drew1 | refine below_set ?_ GE107.out) | exact HB.out)) hb); clear BK107; clear HB; have BK107 := n0_; have HB := n1_; clear n0_ n1_; (try clear hb); (try clear hb2); (try clear hk); (try clear hi)))
                                      go_roundg k4
                                      case measure => have := HJ1.out; have := HK2.out; have := HJ11.out; have := HK4.out; omega
                                      case rel => exact ⟨(wrap64 (x5_4 + 1)), (by first | rfl | (simp; done) | (simp [*]; done)), H', ⟨by have := HJ1.out; have := HK2.out; have := HJ11.out; have := HK4.out; omega⟩, ⟨by (with_reducible repeat (first | refine blk_drewN ?_ _ | refine blk_drew ?_ | refine blk_alloc ?_ _)); exact BK107.out⟩, ⟨by repeat (first | (with_reducible first | exact HB.out | apply below_alloc | apply pw_below_drewN | apply below_drew1 | refine below_set ?_ GE107.out) | exact HB.out)⟩⟩
                                    · replace c23 := Bool.eq_false_iff.mpr c23
                                      subst c23
                                      have H1 : (some false) = some r := by rw [if_neg (show ¬ (false = true) by decide)] at H; exact H
                                      clear H
                                      have H := H1
                                      clear H1
                                      obtain rfl := Option.some.inj H
                                      have p110 : 0 ≤ (x5_4 : Int) := of_decide_eq_true (by first | (with_reducible assumption) | assumption)
                                      have q110 : x5_4 < (((rd_T44 l0_1 x3_2).f2).length : Int) := of_decide_eq_true (by first | (with_reducible assumption) | assumption)
                                      obtain ⟨ad110, A110_1, c110_1, A110_2, c110_2, e110, hx110_0, hx110_1, hx110_2, hl110_1, hi110_1, hl110_2, hi110_2⟩ := at_T57 HR108_2.out x5_4 p110 q110
                                      cases e110
                                      replace hx110_0 := (HB.out.cell (World.block_lt_of_cell? w _ hx110_0)).trans hx110_0
                                      replace hx110_1 := (HB.out.cell (World.block_lt_of_cell? w _ hx110_1)).trans hx110_1
                                      replace hx110_2 := (HB.out.cell (World.block_lt_of_cell? w _ hx110_2)).trans hx110_2
                                      have HR110_1 := Aside0.mk hi110_1
                                      have HC110_1 := Aside0.mk hl110_1
                                      clear hi110_1 hl110_1
                                      have HR110_2 := Aside0.mk hi110_2
                                      have HC110_2 := Aside0.mk hl110_2
                                      clear hi110_2 hl110_2
                                      replace p110 := eq_true p110
                                      replace q110 := eq_true q110
                                      have p111 : 0 ≤ (x5_4 : Int) := of_decide_eq_true (by first | (with_reducible assumption) | assumption)
                                      have q111 : x5_4 < (((rd_T44 l0_1 x3_2).f2).length : Int) := of_decide_eq_true (by first | (with_reducible assumption) | assumption)
                                      obtain ⟨ad111, A111_1, c111_1, A111_2, c111_2, e111, hx111_0, hx111_1, hx111_2, hl111_1, hi111_1, hl111_2, hi111_2⟩ := at_T57 HR108_2.out x5_4 p111 q111
                                      obtain rfl : ad110 = ad111 := (by injection e111)
                                      replace hx111_0 := (HB.out.cell (World.block_lt_of_cell? w _ hx111_0)).trans hx111_0
                                      replace hx111_1 := (HB.out.cell (World.block_lt_of_cell? w _ hx111_1)).trans hx111_1
                                      replace hx111_2 := (HB.out.cell (World.block_lt_of_cell? w _ hx111_2)).trans hx111_2
                                      have HR111_1 := Aside0.mk hi111_1
                                      have HC111_1 := Aside0.mk hl111_1
                                      clear hi111_1 hl111_1
                                      have HR111_2 := Aside0.mk hi111_2
                                      have HC111_2 := Aside0.mk hl111_2
                                      clear hi111_2 hl111_2
                                      replace p111 := eq_true p111
                                      replace q111 := eq_true q111
                                      have ea_ := Option.some.inj (hx110_1.symm.trans hx111_1)
                                      injection ea_ with ea_ en_ ec_
                                      subst ea_
                                      subst ec_
                                      clear en_
                                      have ea_ := Option.some.inj (hx110_2.symm.trans hx111_2)
                                      injection ea_ with ea_ en_ ec_
                                      subst ea_
                                      subst ec_
                                      clear en_
                                      have p112 : 0 ≤ (x5_4 : Int) := of_decide_eq_true (by first | (with_reducible assumption) | assumption)
                                      have q112 : x5_4 < (((rd_T44 l0_1 x3_2).f2).length : Int) := of_decide_eq_true (by first | (with_reducible assumption) | assumption)
                                      obtain ⟨ad112, A112_1, c112_1, A112_2, c112_2, e112, hx112_0, hx112_1, hx112_2, hl112_1, hi112_1, hl112_2, hi112_2⟩ := at_T57 HR108_2.out x5_4 p112 q112
                                      obtain rfl : ad110 = ad112 := (by injection e112)
                                      replace hx112_0 := (HB.out.cell (World.block_lt_of_cell? w _ hx112_0)).trans hx112_0
                                      replace hx112_1 := (HB.out.cell (World.block_lt_of_cell? w _ hx112_1)).trans hx112_1
                                      replace hx112_2 := (HB.out.cell (World.block_lt_of_cell? w _ hx112_2)).trans hx112_2
                                      have HR112_1 := Aside0.mk hi112_1
                                      have HC112_1 := Aside0.mk hl112_1
                                      clear hi112_1 hl112_1
                                      have HR112_2 := Aside0.mk hi112_2
                                      have HC112_2 := Aside0.mk hl112_2
                                      clear hi112_2 hl112_2
                                      replace p112 := eq_true p112
                                      replace q112 := eq_true q112
                                      have ea_ := Option.some.inj (hx110_1.symm.trans hx112_1)
                                      injection ea_ with ea_ en_ ec_
                                      subst ea_
                                      subst ec_
                                      clear en_
                                      have ea_ := Option.some.inj (hx110_2.symm.trans hx112_2)
                                      injection ea_ with ea_ en_ ec_
                                      subst ea_
                                      subst ec_
                                      clear en_
                                      have p113 : 0 ≤ (x5_4 : Int) := of_decide_eq_true (by first | (with_reducible assumption) | assumption)
                                      have q113 : x5_4 < (((rd_T44 l0_1 x3_2).f2).length : Int) := of_decide_eq_true (by first | (with_reducible assumption) | assumption)
                                      obtain ⟨ad113, A113_1, c113_1, A113_2, c113_2, e113, hx113_0, hx113_1, hx113_2, hl113_1, hi113_1, hl113_2, hi113_2⟩ := at_T57 HR108_2.out x5_4 p113 q113
                                      obtain rfl : ad110 = ad113 := (by injection e113)
                                      replace hx113_0 := (HB.out.cell (World.block_lt_of_cell? w _ hx113_0)).trans hx113_0
                                      replace hx113_1 := (HB.out.cell (World.block_lt_of_cell? w _ hx113_1)).trans hx113_1
                                      replace hx113_2 := (HB.out.cell (World.block_lt_of_cell? w _ hx113_2)).trans hx113_2
                                      have HR113_1 := Aside0.mk hi113_1
                                      have HC113_1 := Aside0.mk hl113_1
                                      clear hi113_1 hl113_1
                                      have HR113_2 := Aside0.mk hi113_2
                                      have HC113_2 := Aside0.mk hl113_2
                                      clear hi113_2 hl113_2
                                      replace p113 := eq_true p113
                                      replace q113 := eq_true q113
                                      have ea_ := Option.some.inj (hx110_1.symm.trans hx113_1)
                                      injection ea_ with ea_ en_ ec_
                                      subst ea_
                                      subst ec_
                                      clear en_
                                      have ea_ := Option.some.inj (hx110_2.symm.trans hx113_2)
                                      injection ea_ with ea_ en_ ec_
                                      subst ea_
                                      subst ec_
                                      clear en_
                                      go_wp2_with (first | (go_at_call 31; (with_reducible refine (intarsiaref15_lightTests.calls k4 ((rd_T57 ((rd_T44 l0_1 x3_2).f2) x5_4).f0) _ _ ((rd_T57 ((rd_T44 l0_1 x3_2).f2) x5_4).f1) _ _ ((rd_T57 ((rd_T44 l0_1 x3_2).f2) x5_4).f2) false _ ?side1 ?side2 ?side3 ?side4 A22.out).mono ?_); (case side1 => repeat (first | exact (Kd.C_below HR113_1.out HB.out) | (with_reducible refine Kd.C_alloc ?_ _) | (with_reducible refine Kd.C_drewN ?_ _) | (with_reducible refine Kd.C_drew ?_))); (case side2 => exact HC113_1.out); (case side3 => repeat (first | exact (Kd.C_below HR113_2.out HB.out) | (with_reducible refine Kd.C_alloc ?_ _) | (with_reducible refine Kd.C_drewN ?_ _) | (with_reducible refine Kd.C_drew ?_))); (case side4 => exact HC113_2.out); rintro e w25 ⟨rfl, hb⟩; have n0_ := Aside0.mk (blk_below (g := gb107) (o := .cells #[.string a0_0, .slice (some ad108) l0_1.length c0_1, .slice A0_2 l0_2.length c0_2] 38 (0, 0)) (by (with_reducible repeat (first | refine blk_drewN ?_ _ | refine blk_drew ?_ | refine blk_alloc ?_ _)); exact BK107.out) hb); have n1_ := Aside0.mk (below_step (by repeat (first | (with_reducible first | exact HB.out | apply below_alloc | apply pw_below_drewN | apply below_drew1 | refine below_set ?_ GE107.out) | exact HB.out)) hb); clear BK107; clear HB; have BK107 := n0_; have HB := n1_; clear n0_ n1_; (try clear hb); (try clear hb2); (try clear hk); (try clear hi)))
                                      go_ret
                                      exact ⟨by first | rfl | (simp [errW_none, errW_some] <;> rfl) | (simp [*, errW_none, errW_some] <;> rfl), by repeat (first | (with_reducible first | exact HB.out | apply below_alloc | apply pw_below_drewN | apply below_drew1 | refine below_set ?_ GE107.out) | exact HB.out)⟩
                            · rw [if_neg c18] at H
                              exact absurd H (by simp)
                          · rw [if_neg c17] at H
                            have c17b0 : decide (x5_4 < (((rd_T44 l0_1 x3_2).f2).length : Int)) = false := decide_eq_false c17
                            clear c17
                            have H' := Aside0.mk H
                            clear H
                            go_wp2
                            go_roundg k4
                            case measure => have := HJ1.out; have := HK2.out; have := HJ11.out; have := HK4.out; omega
                            case rel => exact ⟨(wrap64 (x3_2 + 1)), (by first | rfl | (simp; done) | (simp [*]; done)), H', ⟨by have := HJ1.out; have := HK2.out; have := HJ11.out; have := HK4.out; omega⟩, ⟨by (with_reducible repeat (first | refine blk_drewN ?_ _ | refine blk_drew ?_ | refine blk_alloc ?_ _)); exact BK107.out⟩, ⟨by repeat (first | (with_reducible first | exact HB.out | apply below_alloc | apply pw_below_drewN | apply below_drew1 | refine below_set ?_ GE107.out) | exact HB.out)⟩⟩
              · rw [if_neg c11] at H
                exact absurd H (by simp)
            · rw [if_neg c10] at H
              have c10b0 : decide (x3_2 < (l0_1.length : Int)) = false := decide_eq_false c10
              clear c10
              have H' := Aside0.mk H
              clear H
              have hcz26_0 : wr.cell? ⟨gb107, 0, none⟩ = some (.string a0_0) := (blk_cell BK107.out 0).trans rfl
              have hcz26_1 : wr.cell? ⟨gb107, 1, none⟩ = some (.slice A0_1 l0_1.length c0_1) := (blk_cell BK107.out 1).trans rfl
              have hcz26_2 : wr.cell? ⟨gb107, 2, none⟩ = some (.slice A0_2 l0_2.length c0_2) := (blk_cell BK107.out 2).trans rfl
              have hfz26_0 := blk_frozen BK107.out 0
              have hfz26_1 := blk_frozen BK107.out 1
              have hfz26_2 := blk_frozen BK107.out 2
              go_wp2
              go_loopg [6] k2 (fun kq v6 w' => ∃ (x6_3 : Int), v6 = .int .i64 x6_3 ∧ Aside0 (intarsiaref15_lightRule.l2 kq x6_3 a0_0 l0_1 l0_2 = some r) ∧ Aside0 (kq ≤ k2) ∧ Aside0 (w'.heap[gb107]? = some (.cells #[.string a0_0, (.slice A0_1 l0_1.length c0_1), (.slice A0_2 l0_2.length c0_2)] 38 (0, 0))) ∧ Aside0 (Below w.heap.size w w'))
              case atStart => exact ⟨(0), (by first | rfl | (simp; done) | (simp [*]; done)), H', ⟨Nat.le_refl _⟩, ⟨by (with_reducible repeat (first | refine blk_drewN ?_ _ | refine blk_drew ?_ | refine blk_alloc ?_ _)); exact BK107.out⟩, ⟨by repeat (first | (with_reducible first | exact HB.out | apply below_alloc | apply pw_below_drewN | apply below_drew1 | refine below_set ?_ GE107.out) | exact HB.out)⟩⟩
              case round =>
                clear H'
                try clear c1
                try clear p1
                try clear q1
                try clear hx1
                try clear c2
                try clear p2
                try clear c4
                try clear c4b0
                try clear c4b1
                try clear c6
                try clear c6b0
                try clear c6b1
                try clear p6
                try clear c9
                try clear c10
                try clear c10b0
                try clear p10
                try clear q10
                try clear hx10
                try clear c11
                try clear c11b0
                try clear p11
                try clear q11
                try clear hx11
                try clear c14
                try clear c14b0
                try clear c14b1
                try clear c16
                try clear c17
                try clear c17b0
                try clear c18
                try clear c18b0
                try clear c19
                try clear c19b0
                try clear c19b1
                try clear c20
                try clear c20b0
                try clear c20b1
                try clear c21
                try clear c21b0
                try clear c21b1
                try clear c23
                try clear hcz13_0
                try clear hcz13_1
                try clear hcz13_2
                try clear hcz15_0
                try clear hcz15_1
                try clear hcz15_2
                try clear hcz26_0
                try clear hcz26_1
                try clear hcz26_2
                try clear hcz5_0
                try clear hcz5_1
                try clear hcz5_2
                try clear hcz7_0
                try clear hcz7_1
                try clear hcz7_2
                try clear hcz8_0
                try clear hcz8_1
                try clear hcz8_2
                try clear hfz13_0
                try clear hfz13_1
                try clear hfz13_2
                try clear hfz15_0
                try clear hfz15_1
                try clear hfz15_2
                try clear hfz26_0
                try clear hfz26_1
                try clear hfz26_2
                try clear hfz5_0
                try clear hfz5_1
                try clear hfz5_2
                try clear hfz7_0
                try clear hfz7_1
                try clear hfz7_2
                try clear hfz8_0
                try clear hfz8_1
                try clear hfz8_2
                try clear hx108_0
                try clear hx108_1
                try clear hx108_2
                try clear hx109_0
                try clear hx109_1
                try clear hx109_2
                try clear hx110_0
                try clear hx110_1
                try clear hx110_2
                try clear hx111_0
                try clear hx111_1
                try clear hx111_2
                try clear hx112_0
                try clear hx112_1
                try clear hx112_2
                try clear hx113_0
                try clear hx113_1
                try clear hx113_2
                try clear p1
                try clear p10
                try clear p108
                try clear p109
                try clear p110
                try clear p111
                try clear p112
                try clear p113
                try clear p2
                try clear q1
                try clear q10
                try clear q108
                try clear q109
                try clear q110
                try clear q111
                try clear q112
                try clear q113
                obtain ⟨x6_3, rfl, HA, HK3, BK107, HB⟩ := hrel
                cases gk with
                | zero => exact absurd HA.out (by simp [intarsiaref15_lightRule.l2])
                | succ k3 =>
                  have H := HA.out
                  clear HA
                  simp only [intarsiaref15_lightRule.l2] at H
                  by_cases c27 : x6_3 < (l0_2.length : Int)
                  · rw [if_pos c27] at H
                    have c27b0 : decide (x6_3 < (l0_2.length : Int)) = true := decide_eq_true c27
                    clear c27
                    by_cases c28 : 0 ≤ x6_3
                    · rw [if_pos c28] at H
                      have c28b0 : decide (0 ≤ x6_3) = true := decide_eq_true c28
                      clear c28
                      have HC29 := Aside0.mk H
                      clear H
                      have hcz30_0 : wr.cell? ⟨gb107, 0, none⟩ = some (.string a0_0) := (blk_cell BK107.out 0).trans rfl
                      have hcz30_1 : wr.cell? ⟨gb107, 1, none⟩ = some (.slice A0_1 l0_1.length c0_1) := (blk_cell BK107.out 1).trans rfl
                      have hcz30_2 : wr.cell? ⟨gb107, 2, none⟩ = some (.slice A0_2 l0_2.length c0_2) := (blk_cell BK107.out 2).trans rfl
                      have hfz30_0 := blk_frozen BK107.out 0
                      have hfz30_1 := blk_frozen BK107.out 1
                      have hfz30_2 := blk_frozen BK107.out 2
                      have p115 : 0 ≤ (x6_3 : Int) := of_decide_eq_true (by first | (with_reducible assumption) | assumption)
                      have q115 : x6_3 < (l0_2.length : Int) := of_decide_eq_true (by first | (with_reducible assumption) | assumption)
                      obtain ⟨ad115, A115_4, c115_4, A115_5, c115_5, e115, hx115_0, hx115_1, hx115_2, hx115_3, hx115_4, hx115_5, hl115_4, hi115_4, hl115_5, hi115_5⟩ := at_T65 HR0_2.out x6_3 p115 q115
                      cases e115
                      replace hx115_0 := (HB.out.cell (World.block_lt_of_cell? w _ hx115_0)).trans hx115_0
                      replace hx115_1 := (HB.out.cell (World.block_lt_of_cell? w _ hx115_1)).trans hx115_1
                      replace hx115_2 := (HB.out.cell (World.block_lt_of_cell? w _ hx115_2)).trans hx115_2
                      replace hx115_3 := (HB.out.cell (World.block_lt_of_cell? w _ hx115_3)).trans hx115_3
                      replace hx115_4 := (HB.out.cell (World.block_lt_of_cell? w _ hx115_4)).trans hx115_4
                      replace hx115_5 := (HB.out.cell (World.block_lt_of_cell? w _ hx115_5)).trans hx115_5
                      have HR115_4 := Aside0.mk hi115_4
                      have HC115_4 := Aside0.mk hl115_4
                      clear hi115_4 hl115_4
                      have HR115_5 := Aside0.mk hi115_5
                      have HC115_5 := Aside0.mk hl115_5
                      clear hi115_5 hl115_5
                      replace p115 := eq_true p115
                      replace q115 := eq_true q115
                      go_upto_region 18 with (first | ((with_reducible refine gate_dst (N := 7) rfl ?_); (try (refine gate_guard (by rfl) ?_; dsimp only)); refine box_event ?hg (N := 7) ?hd (cs := #[.int .u8 0, .string (⟨#[]⟩ : ByteArray), .int .i64 0, .string (⟨#[]⟩ : ByteArray), .slice none 0 0, .slice none 0 0]) (t := 65) ?hr ?_; (case hd => rfl); (case hg => rfl); (case hr => first | (go_simp; done) | (go_simp; rfl)); intro gb116 hg w31 hbox hb; have n0_ := Aside0.mk (blk_below (g := gb107) (o := .cells #[.string a0_0, .slice A0_1 l0_1.length c0_1, .slice (some ad115) l0_2.length c0_2] 38 (0, 0)) (by (with_reducible repeat (first | refine blk_drewN ?_ _ | refine blk_drew ?_ | refine blk_alloc ?_ _)); exact BK107.out) hb); have n1_ := Aside0.mk (below_step (by repeat (first | (with_reducible first | exact HB.out | apply below_alloc | apply pw_below_drewN | apply below_drew1 | refine below_set ?_ GE107.out) | exact HB.out)) hb); have n2_ := Aside0.mk (hbox); have n3_ := Aside0.mk ((by rw [hg]; exact (below_size (by repeat (first | (with_reducible first | exact HB.out | apply below_alloc | apply pw_below_drewN | apply below_drew1 | refine below_set ?_ GE107.out) | exact HB.out))) : w.heap.size ≤ gb116)); have n4_ := Aside0.mk ((by rw [hg]; exact (below_size (by repeat (first | (with_reducible first | exact HB.out | apply below_alloc | apply pw_below_drewN | apply below_drew1 | refine below_set ?_ GE107.out) | exact HB.out))) : w.heap.size ≤ gb116)); have n5_ := Aside0.mk ((by rw [hg]; exact Nat.ne_of_lt (blk_lt (g := gb107) (o := .cells #[.string a0_0, .slice A0_1 l0_1.length c0_1, .slice (some ad115) l0_2.length c0_2] 38 (0, 0)) (by (with_reducible repeat (first | refine blk_drewN ?_ _ | refine blk_drew ?_ | refine blk_alloc ?_ _)); exact BK107.out)) : gb107 ≠ gb116)); have n6_ := Aside0.mk ((by rw [hg]; exact Nat.ne_of_gt (blk_lt (g := gb107) (o := .cells #[.string a0_0, .slice A0_1 l0_1.length c0_1, .slice (some ad115) l0_2.length c0_2] 38 (0, 0)) (by (with_reducible repeat (first | refine blk_drewN ?_ _ | refine blk_drew ?_ | refine blk_alloc ?_ _)); exact BK107.out)) : gb116 ≠ gb107)); clear BK107; clear HB; have BK107 := n0_; have HB := n1_; have BK116 := n2_; have GW116 := n3_; have GE116 := n4_; have NB107_116 := n5_; have NB116_107 := n6_; clear n0_ n1_ n2_ n3_ n4_ n5_ n6_; clear hb hbox hg; have hnb32 := NB116_107.out; have hnc32 := NB107_116.out; have hcz33_0 : w31.cell? ⟨gb116, 0, none⟩ = some (.int .u8 0) := (blk_cell BK116.out 0).trans rfl; have hcz33_1 : w31.cell? ⟨gb116, 1, none⟩ = some (.string (⟨#[]⟩ : ByteArray)) := (blk_cell BK116.out 1).trans rfl; have hcz33_2 : w31.cell? ⟨gb116, 2, none⟩ = some (.int .i64 0) := (blk_cell BK116.out 2).trans rfl; have hcz33_3 : w31.cell? ⟨gb116, 3, none⟩ = some (.string (⟨#[]⟩ : ByteArray)) := (blk_cell BK116.out 3).trans rfl; have hcz33_4 : w31.cell? ⟨gb116, 4, none⟩ = some (.slice none 0 0) := (blk_cell BK116.out 4).trans rfl; have hcz33_5 : w31.cell? ⟨gb116, 5, none⟩ = some (.slice none 0 0) := (blk_cell BK116.out 5).trans rfl; have hfz33_0 := blk_frozen BK116.out 0; have hfz33_1 := blk_frozen BK116.out 1; have hfz33_2 := blk_frozen BK116.out 2; have hfz33_3 := blk_frozen BK116.out 3; have hfz33_4 := blk_frozen BK116.out 4; have hfz33_5 := blk_frozen BK116.out 5))
                      (try simp only [Act.put, List.setIfInBounds_toArray, List.set_cons_zero, List.set_cons_succ])
                      go_cut [124] (fun v124 wc => ∃ (kq : Nat) (x124_28 : Bool), v124 = .bool x124_28 ∧ Aside0 (intarsiaref15_lightRule.j5 kq x6_3 x124_28 a0_0 l0_1 l0_2 ((rd_T65 l0_2 x6_3).f0) ((rd_T65 l0_2 x6_3).f1) ((rd_T65 l0_2 x6_3).f2) ((rd_T65 l0_2 x6_3).f3) ((rd_T65 l0_2 x6_3).f4) ((rd_T65 l0_2 x6_3).f5) = some r) ∧ Aside0 (kq ≤ k3) ∧ Aside0 (wc.heap[gb107]? = some (.cells #[.string a0_0, (.slice A0_1 l0_1.length c0_1), (.slice (some ad115) l0_2.length c0_2)] 38 (0, 0))) ∧ Aside0 (wc.heap[gb116]? = some (.cells #[.int .u8 ((rd_T65 l0_2 x6_3).f0), .string ((rd_T65 l0_2 x6_3).f1), .int .i64 ((rd_T65 l0_2 x6_3).f2), .string ((rd_T65 l0_2 x6_3).f3), (.slice A115_4 ((rd_T65 l0_2 x6_3).f4).length c115_4), (.slice A115_5 ((rd_T65 l0_2 x6_3).f5).length c115_5)] 65 (0, 0))) ∧ Aside0 (Below w.heap.size w wc))
                      case first =>
                        have H := HC29.out
                        clear HC29
                        by_cases c34 : (((rd_T65 l0_2 x6_3).f4).length : Int) > 10
                        · rw [if_pos c34] at H
                          have c34b0 : decide (10 < (((rd_T65 l0_2 x6_3).f4).length : Int)) = true := decide_eq_true c34
                          have c34b1 : decide (10 < ((rd_T65 l0_2 x6_3).f4).length) = true := decide_eq_true (by omega)
                          clear c34
                          (first | rw [c34b0] | (simp only [i64_w, i32_w]; rw [c34b0]) | skip)
                          have H' := Aside0.mk H
                          clear H
                          have hnb35 := NB116_107.out
                          have hnc35 := NB107_116.out
                          have hcz36_0 : w31.cell? ⟨gb116, 0, none⟩ = some (.int .u8 0) := (blk_cell BK116.out 0).trans rfl
                          have hcz36_1 : w31.cell? ⟨gb116, 1, none⟩ = some (.string (⟨#[]⟩ : ByteArray)) := (blk_cell BK116.out 1).trans rfl
                          have hcz36_2 : w31.cell? ⟨gb116, 2, none⟩ = some (.int .i64 0) := (blk_cell BK116.out 2).trans rfl
                          have hcz36_3 : w31.cell? ⟨gb116, 3, none⟩ = some (.string (⟨#[]⟩ : ByteArray)) := (blk_cell BK116.out 3).trans rfl
                          have hcz36_4 : w31.cell? ⟨gb116, 4, none⟩ = some (.slice none 0 0) := (blk_cell BK116.out 4).trans rfl
                          have hcz36_5 : w31.cell? ⟨gb116, 5, none⟩ = some (.slice none 0 0) := (blk_cell BK116.out 5).trans rfl
                          have hfz36_0 := blk_frozen BK116.out 0
                          have hfz36_1 := blk_frozen BK116.out 1
                          have hfz36_2 := blk_frozen BK116.out 2
                          have hfz36_3 := blk_frozen BK116.out 3
                          have hfz36_4 := blk_frozen BK116.out 4
                          have hfz36_5 := blk_frozen BK116.out 5
                          go_wp2
                          go_meet
                          case rel => exact ⟨_, (true), (by first | rfl | (simp; done) | (simp [*]; done)), H', ⟨by have := HJ1.out; have := HK2.out; have := HK3.out; first | omega | exact Nat.le_refl _⟩, ⟨by (with_reducible repeat (first | refine blk_drewN ?_ _ | refine blk_drew ?_ | refine blk_alloc ?_ _)); refine blk_far ?_ NB107_116.out _; (with_reducible repeat (first | refine blk_drewN ?_ _ | refine blk_drew ?_ | refine blk_alloc ?_ _)); refine blk_far ?_ NB107_116.out _; (with_reducible repeat (first | refine blk_drewN ?_ _ | refine blk_drew ?_ | refine blk_alloc ?_ _)); refine blk_far ?_ NB107_116.out _; (with_reducible repeat (first | refine blk_drewN ?_ _ | refine blk_drew ?_ | refine blk_alloc ?_ _)); refine blk_far ?_ NB107_116.out _; (with_reducible repeat (first | refine blk_drewN ?_ _ | refine blk_drew ?_ | refine blk_alloc ?_ _)); refine blk_far ?_ NB107_116.out _; (with_reducible repeat (first | refine blk_drewN ?_ _ | refine blk_drew ?_ | refine blk_alloc ?_ _)); refine blk_far ?_ NB107_116.out _; (with_reducible repeat (first | refine blk_drewN ?_ _ | refine blk_drew ?_ | refine blk_alloc ?_ _)); exact BK107.out⟩, ⟨by (with_reducible repeat (first | refine blk_drewN ?_ _ | refine blk_drew ?_ | refine blk_alloc ?_ _)); refine blk_put (cs := #[.int .u8 ((rd_T65 l0_2 x6_3).f0), .string ((rd_T65 l0_2 x6_3).f1), .int .i64 ((rd_T65 l0_2 x6_3).f2), .string ((rd_T65 l0_2 x6_3).f3), .slice A115_4 ((rd_T65 l0_2 x6_3).f4).length c115_4, .slice none 0 0]) ?_ 5 _ rfl; (with_reducible repeat (first | refine blk_drewN ?_ _ | refine blk_drew ?_ | refine blk_alloc ?_ _)); refine blk_put (cs := #[.int .u8 ((rd_T65 l0_2 x6_3).f0), .string ((rd_T65 l0_2 x6_3).f1), .int .i64 ((rd_T65 l0_2 x6_3).f2), .string ((rd_T65 l0_2 x6_3).f3), .slice none 0 0, .slice none 0 0]) ?_ 4 _ rfl; (with_reducible repeat (first | refine blk_drewN ?_ _ | refine blk_drew ?_ | refine blk_alloc ?_ _)); refine blk_put (cs := #[.int .u8 ((rd_T65 l0_2 x6_3).f0), .string ((rd_T65 l0_2 x6_3).f1), .int .i64 ((rd_T65 l0_2 x6_3).f2), .string (⟨#[]⟩ : ByteArray), .slice none 0 0, .slice none 0 0]) ?_ 3 _ rfl; (with_reducible repeat (first | refine blk_drewN ?_ _ | refine blk_drew ?_ | refine blk_alloc ?_ _)); refine blk_put (cs := #[.int .u8 ((rd_T65 l0_2 x6_3).f0), .string ((rd_T65 l0_2 x6_3).f1), .int .i64 0, .string (⟨#[]⟩ : ByteArray), .slice none 0 0, .slice none 0 0]) ?_ 2 _ rfl; (with_reducible repeat (first | refine blk_drewN ?_ _ | refine blk_drew ?_ | refine blk_alloc ?_ _)); refine blk_put (cs := #[.int .u8 ((rd_T65 l0_2 x6_3).f0), .string (⟨#[]⟩ : ByteArray), .int .i64 0, .string (⟨#[]⟩ : ByteArray), .slice none 0 0, .slice none 0 0]) ?_ 1 _ rfl; (with_reducible repeat (first | refine blk_drewN ?_ _ | refine blk_drew ?_ | refine blk_alloc ?_ _)); refine blk_put (cs := #[.int .u8 0, .string (⟨#[]⟩ : ByteArray), .int .i64 0, .string (⟨#[]⟩ : ByteArray), .slice none 0 0, .slice none 0 0]) ?_ 0 _ rfl; (with_reducible repeat (first | refine blk_drewN ?_ _ | refine blk_drew ?_ | refine blk_alloc ?_ _)); exact BK116.out⟩, ⟨by repeat (first | (with_reducible first | exact HB.out | apply below_alloc | apply pw_below_drewN | apply below_drew1 | refine below_set ?_ GE107.out | refine below_set ?_ GE116.out) | exact HB.out)⟩⟩
                        · rw [if_neg c34] at H
                          have c34b0 : decide (10 < (((rd_T65 l0_2 x6_3).f4).length : Int)) = false := decide_eq_false c34
                          have c34b1 : decide (10 < ((rd_T65 l0_2 x6_3).f4).length) = false := decide_eq_false (by omega)
                          clear c34
                          (first | rw [c34b0] | (simp only [i64_w, i32_w]; rw [c34b0]) | skip)
                          by_cases c37 : (((rd_T65 l0_2 x6_3).f5).length : Int) > 12
                          · rw [if_pos c37] at H
                            have c37b0 : decide (12 < (((rd_T65 l0_2 x6_3).f5).length : Int)) = true := decide_eq_true c37
                            have c37b1 : decide (12 < ((rd_T65 l0_2 x6_3).f5).length) = true := decide_eq_true (by omega)
                            clear c37
                            have H' := Aside0.mk H
                            clear H
                            have hnb38 := NB116_107.out
                            have hnc38 := NB107_116.out
                            have hcz39_0 : w31.cell? ⟨gb116, 0, none⟩ = some (.int .u8 0) := (blk_cell BK116.out 0).trans rfl
                            have hcz39_1 : w31.cell? ⟨gb116, 1, none⟩ = some (.string (⟨#[]⟩ : ByteArray)) := (blk_cell BK116.out 1).trans rfl
                            have hcz39_2 : w31.cell? ⟨gb116, 2, none⟩ = some (.int .i64 0) := (blk_cell BK116.out 2).trans rfl
                            have hcz39_3 : w31.cell? ⟨gb116, 3, none⟩ = some (.string (⟨#[]⟩ : ByteArray)) := (blk_cell BK116.out 3).trans rfl
                            have hcz39_4 : w31.cell? ⟨gb116, 4, none⟩ = some (.slice none 0 0) := (blk_cell BK116.out 4).trans rfl
                            have hcz39_5 : w31.cell? ⟨gb116, 5, none⟩ = some (.slice none 0 0) := (blk_cell BK116.out 5).trans rfl
                            have hfz39_0 := blk_frozen BK116.out 0
                            have hfz39_1 := blk_frozen BK116.out 1
                            have hfz39_2 := blk_frozen BK116.out 2
                            have hfz39_3 := blk_frozen BK116.out 3
                            have hfz39_4 := blk_frozen BK116.out 4
                            have hfz39_5 := blk_frozen BK116.out 5
                            go_wp2
                            go_meet
                            case rel => exact ⟨_, (true), (by first | rfl | (simp; done) | (simp [*]; done)), H', ⟨by have := HJ1.out; have := HK2.out; have := HK3.out; first | omega | exact Nat.le_refl _⟩, ⟨by (with_reducible repeat (first | refine blk_drewN ?_ _ | refine blk_drew ?_ | refine blk_alloc ?_ _)); refine blk_far ?_ NB107_116.out _; (with_reducible repeat (first | refine blk_drewN ?_ _ | refine blk_drew ?_ | refine blk_alloc ?_ _)); refine blk_far ?_ NB107_116.out _; (with_reducible repeat (first | refine blk_drewN ?_ _ | refine blk_drew ?_ | refine blk_alloc ?_ _)); refine blk_far ?_ NB107_116.out _; (with_reducible repeat (first | refine blk_drewN ?_ _ | refine blk_drew ?_ | refine blk_alloc ?_ _)); refine blk_far ?_ NB107_116.out _; (with_reducible repeat (first | refine blk_drewN ?_ _ | refine blk_drew ?_ | refine blk_alloc ?_ _)); refine blk_far ?_ NB107_116.out _; (with_reducible repeat (first | refine blk_drewN ?_ _ | refine blk_drew ?_ | refine blk_alloc ?_ _)); refine blk_far ?_ NB107_116.out _; (with_reducible repeat (first | refine blk_drewN ?_ _ | refine blk_drew ?_ | refine blk_alloc ?_ _)); exact BK107.out⟩, ⟨by (with_reducible repeat (first | refine blk_drewN ?_ _ | refine blk_drew ?_ | refine blk_alloc ?_ _)); refine blk_put (cs := #[.int .u8 ((rd_T65 l0_2 x6_3).f0), .string ((rd_T65 l0_2 x6_3).f1), .int .i64 ((rd_T65 l0_2 x6_3).f2), .string ((rd_T65 l0_2 x6_3).f3), .slice A115_4 ((rd_T65 l0_2 x6_3).f4).length c115_4, .slice none 0 0]) ?_ 5 _ rfl; (with_reducible repeat (first | refine blk_drewN ?_ _ | refine blk_drew ?_ | refine blk_alloc ?_ _)); refine blk_put (cs := #[.int .u8 ((rd_T65 l0_2 x6_3).f0), .string ((rd_T65 l0_2 x6_3).f1), .int .i64 ((rd_T65 l0_2 x6_3).f2), .string ((rd_T65 l0_2 x6_3).f3), .slice none 0 0, .slice none 0 0]) ?_ 4 _ rfl; (with_reducible repeat (first | refine blk_drewN ?_ _ | refine blk_drew ?_ | refine blk_alloc ?_ _)); refine blk_put (cs := #[.int .u8 ((rd_T65 l0_2 x6_3).f0), .string ((rd_T65 l0_2 x6_3).f1), .int .i64 ((rd_T65 l0_2 x6_3).f2), .string (⟨#[]⟩ : ByteArray), .slice none 0 0, .slice none 0 0]) ?_ 3 _ rfl; (with_reducible repeat (first | refine blk_drewN ?_ _ | refine blk_drew ?_ | refine blk_alloc ?_ _)); refine blk_put (cs := #[.int .u8 ((rd_T65 l0_2 x6_3).f0), .string ((rd_T65 l0_2 x6_3).f1), .int .i64 0, .string (⟨#[]⟩ : ByteArray), .slice none 0 0, .slice none 0 0]) ?_ 2 _ rfl; (with_reducible repeat (first | refine blk_drewN ?_ _ | refine blk_drew ?_ | refine blk_alloc ?_ _)); refine blk_put (cs := #[.int .u8 ((rd_T65 l0_2 x6_3).f0), .string (⟨#[]⟩ : ByteArray), .int .i64 0, .string (⟨#[]⟩ : ByteArray), .slice none 0 0, .slice none 0 0]) ?_ 1 _ rfl; (with_reducible repeat (first | refine blk_drewN ?_ _ | refine blk_drew ?_ | refine blk_alloc ?_ _)); refine blk_put (cs := #[.int .u8 0, .string (⟨#[]⟩ : ByteArray), .int .i64 0, .string (⟨#[]⟩ : ByteArray), .slice none 0 0, .slice none 0 0]) ?_ 0 _ rfl; (with_reducible repeat (first | refine blk_drewN ?_ _ | refine blk_drew ?_ | refine blk_alloc ?_ _)); exact BK116.out⟩, ⟨by repeat (first | (with_reducible first | exact HB.out | apply below_alloc | apply pw_below_drewN | apply below_drew1 | refine below_set ?_ GE107.out | refine below_set ?_ GE116.out) | exact HB.out)⟩⟩
                          · rw [if_neg c37] at H
                            have c37b0 : decide (12 < (((rd_T65 l0_2 x6_3).f5).length : Int)) = false := decide_eq_false c37
                            have c37b1 : decide (12 < ((rd_T65 l0_2 x6_3).f5).length) = false := decide_eq_false (by omega)
                            clear c37
                            by_cases c40 : (((rd_T65 l0_2 x6_3).f1).size : Int) > 60
                            · rw [if_pos c40] at H
                              have c40b0 : decide (60 < (((rd_T65 l0_2 x6_3).f1).size : Int)) = true := decide_eq_true c40
                              have c40b1 : decide (60 < ((rd_T65 l0_2 x6_3).f1).size) = true := decide_eq_true (by omega)
                              clear c40
                              have H' := Aside0.mk H
                              clear H
                              have hnb41 := NB116_107.out
                              have hnc41 := NB107_116.out
                              have hcz42_0 : w31.cell? ⟨gb116, 0, none⟩ = some (.int .u8 0) := (blk_cell BK116.out 0).trans rfl
                              have hcz42_1 : w31.cell? ⟨gb116, 1, none⟩ = some (.string (⟨#[]⟩ : ByteArray)) := (blk_cell BK116.out 1).trans rfl
                              have hcz42_2 : w31.cell? ⟨gb116, 2, none⟩ = some (.int .i64 0) := (blk_cell BK116.out 2).trans rfl
                              have hcz42_3 : w31.cell? ⟨gb116, 3, none⟩ = some (.string (⟨#[]⟩ : ByteArray)) := (blk_cell BK116.out 3).trans rfl
                              have hcz42_4 : w31.cell? ⟨gb116, 4, none⟩ = some (.slice none 0 0) := (blk_cell BK116.out 4).trans rfl
                              have hcz42_5 : w31.cell? ⟨gb116, 5, none⟩ = some (.slice none 0 0) := (blk_cell BK116.out 5).trans rfl
                              have hfz42_0 := blk_frozen BK116.out 0
                              have hfz42_1 := blk_frozen BK116.out 1
                              have hfz42_2 := blk_frozen BK116.out 2
                              have hfz42_3 := blk_frozen BK116.out 3
                              have hfz42_4 := blk_frozen BK116.out 4
                              have hfz42_5 := blk_frozen BK116.out 5
                              go_wp2
                              go_meet
                              case rel => exact ⟨_, (true), (by first | rfl | (simp; done) | (simp [*]; done)), H', ⟨by have := HJ1.out; have := HK2.out; have := HK3.out; first | omega | exact Nat.le_refl _⟩, ⟨by (with_reducible repeat (first | refine blk_drewN ?_ _ | refine blk_drew ?_ | refine blk_alloc ?_ _)); refine blk_far ?_ NB107_116.out _; (with_reducible repeat (first | refine blk_drewN ?_ _ | refine blk_drew ?_ | refine blk_alloc ?_ _)); refine blk_far ?_ NB107_116.out _; (with_reducible repeat (first | refine blk_drewN ?_ _ | refine blk_drew ?_ | refine blk_alloc ?_ _)); refine blk_far ?_ NB107_116.out _; (with_reducible repeat (first | refine blk_drewN ?_ _ | refine blk_drew ?_ | refine blk_alloc ?_ _)); refine blk_far ?_ NB107_116.out _; (with_reducible repeat (first | refine blk_drewN ?_ _ | refine blk_drew ?_ | refine blk_alloc ?_ _)); refine blk_far ?_ NB107_116.out _; (with_reducible repeat (first | refine blk_drewN ?_ _ | refine blk_drew ?_ | refine blk_alloc ?_ _)); refine blk_far ?_ NB107_116.out _; (with_reducible repeat (first | refine blk_drewN ?_ _ | refine blk_drew ?_ | refine blk_alloc ?_ _)); exact BK107.out⟩, ⟨by (with_reducible repeat (first | refine blk_drewN ?_ _ | refine blk_drew ?_ | refine blk_alloc ?_ _)); refine blk_put (cs := #[.int .u8 ((rd_T65 l0_2 x6_3).f0), .string ((rd_T65 l0_2 x6_3).f1), .int .i64 ((rd_T65 l0_2 x6_3).f2), .string ((rd_T65 l0_2 x6_3).f3), .slice A115_4 ((rd_T65 l0_2 x6_3).f4).length c115_4, .slice none 0 0]) ?_ 5 _ rfl; (with_reducible repeat (first | refine blk_drewN ?_ _ | refine blk_drew ?_ | refine blk_alloc ?_ _)); refine blk_put (cs := #[.int .u8 ((rd_T65 l0_2 x6_3).f0), .string ((rd_T65 l0_2 x6_3).f1), .int .i64 ((rd_T65 l0_2 x6_3).f2), .string ((rd_T65 l0_2 x6_3).f3), .slice none 0 0, .slice none 0 0]) ?_ 4 _ rfl; (with_reducible repeat (first | refine blk_drewN ?_ _ | refine blk_drew ?_ | refine blk_alloc ?_ _)); refine blk_put (cs := #[.int .u8 ((rd_T65 l0_2 x6_3).f0), .string ((rd_T65 l0_2 x6_3).f1), .int .i64 ((rd_T65 l0_2 x6_3).f2), .string (⟨#[]⟩ : ByteArray), .slice none 0 0, .slice none 0 0]) ?_ 3 _ rfl; (with_reducible repeat (first | refine blk_drewN ?_ _ | refine blk_drew ?_ | refine blk_alloc ?_ _)); refine blk_put (cs := #[.int .u8 ((rd_T65 l0_2 x6_3).f0), .string ((rd_T65 l0_2 x6_3).f1), .int .i64 0, .string (⟨#[]⟩ : ByteArray), .slice none 0 0, .slice none 0 0]) ?_ 2 _ rfl; (with_reducible repeat (first | refine blk_drewN ?_ _ | refine blk_drew ?_ | refine blk_alloc ?_ _)); refine blk_put (cs := #[.int .u8 ((rd_T65 l0_2 x6_3).f0), .string (⟨#[]⟩ : ByteArray), .int .i64 0, .string (⟨#[]⟩ : ByteArray), .slice none 0 0, .slice none 0 0]) ?_ 1 _ rfl; (with_reducible repeat (first | refine blk_drewN ?_ _ | refine blk_drew ?_ | refine blk_alloc ?_ _)); refine blk_put (cs := #[.int .u8 0, .string (⟨#[]⟩ : ByteArray), .int .i64 0, .string (⟨#[]⟩ : ByteArray), .slice none 0 0, .slice none 0 0]) ?_ 0 _ rfl; (with_reducible repeat (first | refine blk_drewN ?_ _ | refine blk_drew ?_ | refine blk_alloc ?_ _)); exact BK116.out⟩, ⟨by repeat (first | (with_reducible first | exact HB.out | apply below_alloc | apply pw_below_drewN | apply below_drew1 | refine below_set ?_ GE107.out | refine below_set ?_ GE116.out) | exact HB.out)⟩⟩
                            · rw [if_neg c40] at H
                              have c40b0 : decide (60 < (((rd_T65 l0_2 x6_3).f1).size : Int)) = false := decide_eq_false c40
                              have c40b1 : decide (60 < ((rd_T65 l0_2 x6_3).f1).size) = false := decide_eq_false (by omega)
                              clear c40
                              have H' := Aside0.mk H
                              clear H
                              have hnb43 := NB116_107.out
                              have hnc43 := NB107_116.out
                              have hcz44_0 : w31.cell? ⟨gb116, 0, none⟩ = some (.int .u8 0) := (blk_cell BK116.out 0).trans rfl
                              have hcz44_1 : w31.cell? ⟨gb116, 1, none⟩ = some (.string (⟨#[]⟩ : ByteArray)) := (blk_cell BK116.out 1).trans rfl
                              have hcz44_2 : w31.cell? ⟨gb116, 2, none⟩ = some (.int .i64 0) := (blk_cell BK116.out 2).trans rfl
                              have hcz44_3 : w31.cell? ⟨gb116, 3, none⟩ = some (.string (⟨#[]⟩ : ByteArray)) := (blk_cell BK116.out 3).trans rfl
                              have hcz44_4 : w31.cell? ⟨gb116, 4, none⟩ = some (.slice none 0 0) := (blk_cell BK116.out 4).trans rfl
                              have hcz44_5 : w31.cell? ⟨gb116, 5, none⟩ = some (.slice none 0 0) := (blk_cell BK116.out 5).trans rfl
                              have hfz44_0 := blk_frozen BK116.out 0
                              have hfz44_1 := blk_frozen BK116.out 1
                              have hfz44_2 := blk_frozen BK116.out 2
                              have hfz44_3 := blk_frozen BK116.out 3
                              have hfz44_4 := blk_frozen BK116.out 4
                              have hfz44_5 := blk_frozen BK116.out 5
                              go_wp2
                              go_meet
                              case rel => exact ⟨_, (decide ((((rd_T65 l0_2 x6_3).f3).size : Int) > 60)), (by first | rfl | (simp; done) | (simp [*]; done)), H', ⟨by have := HJ1.out; have := HK2.out; have := HK3.out; first | omega | exact Nat.le_refl _⟩, ⟨by (with_reducible repeat (first | refine blk_drewN ?_ _ | refine blk_drew ?_ | refine blk_alloc ?_ _)); refine blk_far ?_ NB107_116.out _; (with_reducible repeat (first | refine blk_drewN ?_ _ | refine blk_drew ?_ | refine blk_alloc ?_ _)); refine blk_far ?_ NB107_116.out _; (with_reducible repeat (first | refine blk_drewN ?_ _ | refine blk_drew ?_ | refine blk_alloc ?_ _)); refine blk_far ?_ NB107_116.out _; (with_reducible repeat (first | refine blk_drewN ?_ _ | refine blk_drew ?_ | refine blk_alloc ?_ _)); refine blk_far ?_ NB107_116.out _; (with_reducible repeat (first | refine blk_drewN ?_ _ | refine blk_drew ?_ | refine blk_alloc ?_ _)); refine blk_far ?_ NB107_116.out _; (with_reducible repeat (first | refine blk_drewN ?_ _ | refine blk_drew ?_ | refine blk_alloc ?_ _)); refine blk_far ?_ NB107_116.out _; (with_reducible repeat (first | refine blk_drewN ?_ _ | refine blk_drew ?_ | refine blk_alloc ?_ _)); exact BK107.out⟩, ⟨by (with_reducible repeat (first | refine blk_drewN ?_ _ | refine blk_drew ?_ | refine blk_alloc ?_ _)); refine blk_put (cs := #[.int .u8 ((rd_T65 l0_2 x6_3).f0), .string ((rd_T65 l0_2 x6_3).f1), .int .i64 ((rd_T65 l0_2 x6_3).f2), .string ((rd_T65 l0_2 x6_3).f3), .slice A115_4 ((rd_T65 l0_2 x6_3).f4).length c115_4, .slice none 0 0]) ?_ 5 _ rfl; (with_reducible repeat (first | refine blk_drewN ?_ _ | refine blk_drew ?_ | refine blk_alloc ?_ _)); refine blk_put (cs := #[.int .u8 ((rd_T65 l0_2 x6_3).f0), .string ((rd_T65 l0_2 x6_3).f1), .int .i64 ((rd_T65 l0_2 x6_3).f2), .string ((rd_T65 l0_2 x6_3).f3), .slice none 0 0, .slice none 0 0]) ?_ 4 _ rfl; (with_reducible repeat (first | refine blk_drewN ?_ _ | refine blk_drew ?_ | refine blk_alloc ?_ _)); refine blk_put (cs := #[.int .u8 ((rd_T65 l0_2 x6_3).f0), .string ((rd_T65 l0_2 x6_3).f1), .int .i64 ((rd_T65 l0_2 x6_3).f2), .string (⟨#[]⟩ : ByteArray), .slice none 0 0, .slice none 0 0]) ?_ 3 _ rfl; (with_reducible repeat (first | refine blk_drewN ?_ _ | refine blk_drew ?_ | refine blk_alloc ?_ _)); refine blk_put (cs := #[.int .u8 ((rd_T65 l0_2 x6_3).f0), .string ((rd_T65 l0_2 x6_3).f1), .int .i64 0, .string (⟨#[]⟩ : ByteArray), .slice none 0 0, .slice none 0 0]) ?_ 2 _ rfl; (with_reducible repeat (first | refine blk_drewN ?_ _ | refine blk_drew ?_ | refine blk_alloc ?_ _)); refine blk_put (cs := #[.int .u8 ((rd_T65 l0_2 x6_3).f0), .string (⟨#[]⟩ : ByteArray), .int .i64 0, .string (⟨#[]⟩ : ByteArray), .slice none 0 0, .slice none 0 0]) ?_ 1 _ rfl; (with_reducible repeat (first | refine blk_drewN ?_ _ | refine blk_drew ?_ | refine blk_alloc ?_ _)); refine blk_put (cs := #[.int .u8 0, .string (⟨#[]⟩ : ByteArray), .int .i64 0, .string (⟨#[]⟩ : ByteArray), .slice none 0 0, .slice none 0 0]) ?_ 0 _ rfl; (with_reducible repeat (first | refine blk_drewN ?_ _ | refine blk_drew ?_ | refine blk_alloc ?_ _)); exact BK116.out⟩, ⟨by repeat (first | (with_reducible first | exact HB.out | apply below_alloc | apply pw_below_drewN | apply below_drew1 | refine below_set ?_ GE107.out | refine below_set ?_ GE116.out) | exact HB.out)⟩⟩
                      case rest =>
                        clear HC29
                        try clear c1
                        try clear p1
                        try clear q1
                        try clear hx1
                        try clear c2
                        try clear p2
                        try clear c3
                        try clear c4
                        try clear c4b0
                        try clear c4b1
                        try clear c6
                        try clear c6b0
                        try clear c6b1
                        try clear p6
                        try clear c9
                        try clear c10
                        try clear c10b0
                        try clear p10
                        try clear q10
                        try clear hx10
                        try clear c11
                        try clear c11b0
                        try clear p11
                        try clear q11
                        try clear hx11
                        try clear c14
                        try clear c14b0
                        try clear c14b1
                        try clear c16
                        try clear c17
                        try clear c17b0
                        try clear c18
                        try clear c18b0
                        try clear c19
                        try clear c19b0
                        try clear c19b1
                        try clear c20
                        try clear c20b0
                        try clear c20b1
                        try clear c21
                        try clear c21b0
                        try clear c21b1
                        try clear c23
                        try clear c27
                        try clear c27b0
                        try clear c28
                        try clear c28b0
                        try clear c32
                        try clear c34
                        try clear c34b0
                        try clear c34b1
                        try clear c35
                        try clear c37
                        try clear c37b0
                        try clear c37b1
                        try clear c38
                        try clear c40
                        try clear c40b0
                        try clear c40b1
                        try clear c41
                        try clear c43
                        try clear hcz13_0
                        try clear hcz13_1
                        try clear hcz13_2
                        try clear hcz15_0
                        try clear hcz15_1
                        try clear hcz15_2
                        try clear hcz26_0
                        try clear hcz26_1
                        try clear hcz26_2
                        try clear hcz30_0
                        try clear hcz30_1
                        try clear hcz30_2
                        try clear hcz33_0
                        try clear hcz33_1
                        try clear hcz33_2
                        try clear hcz33_3
                        try clear hcz33_4
                        try clear hcz33_5
                        try clear hcz36_0
                        try clear hcz36_1
                        try clear hcz36_2
                        try clear hcz36_3
                        try clear hcz36_4
                        try clear hcz36_5
                        try clear hcz39_0
                        try clear hcz39_1
                        try clear hcz39_2
                        try clear hcz39_3
                        try clear hcz39_4
                        try clear hcz39_5
                        try clear hcz42_0
                        try clear hcz42_1
                        try clear hcz42_2
                        try clear hcz42_3
                        try clear hcz42_4
                        try clear hcz42_5
                        try clear hcz44_0
                        try clear hcz44_1
                        try clear hcz44_2
                        try clear hcz44_3
                        try clear hcz44_4
                        try clear hcz44_5
                        try clear hcz5_0
                        try clear hcz5_1
                        try clear hcz5_2
                        try clear hcz7_0
                        try clear hcz7_1
                        try clear hcz7_2
                        try clear hcz8_0
                        try clear hcz8_1
                        try clear hcz8_2
                        try clear hfz13_0
                        try clear hfz13_1
                        try clear hfz13_2
                        try clear hfz15_0
                        try clear hfz15_1
                        try clear hfz15_2
                        try clear hfz26_0
                        try clear hfz26_1
                        try clear hfz26_2
                        try clear hfz30_0
                        try clear hfz30_1
                        try clear hfz30_2
                        try clear hfz33_0
                        try clear hfz33_1
                        try clear hfz33_2
                        try clear hfz33_3
                        try clear hfz33_4
                        try clear hfz33_5
                        try clear hfz36_0
                        try clear hfz36_1
                        try clear hfz36_2
                        try clear hfz36_3
                        try clear hfz36_4
                        try clear hfz36_5
                        try clear hfz39_0
                        try clear hfz39_1
                        try clear hfz39_2
                        try clear hfz39_3
                        try clear hfz39_4
                        try clear hfz39_5
                        try clear hfz42_0
                        try clear hfz42_1
                        try clear hfz42_2
                        try clear hfz42_3
                        try clear hfz42_4
                        try clear hfz42_5
                        try clear hfz44_0
                        try clear hfz44_1
                        try clear hfz44_2
                        try clear hfz44_3
                        try clear hfz44_4
                        try clear hfz44_5
                        try clear hfz5_0
                        try clear hfz5_1
                        try clear hfz5_2
                        try clear hfz7_0
                        try clear hfz7_1
                        try clear hfz7_2
                        try clear hfz8_0
                        try clear hfz8_1
                        try clear hfz8_2
                        try clear hx108_0
                        try clear hx108_1
                        try clear hx108_2
                        try clear hx109_0
                        try clear hx109_1
                        try clear hx109_2
                        try clear hx110_0
                        try clear hx110_1
                        try clear hx110_2
                        try clear hx111_0
                        try clear hx111_1
                        try clear hx111_2
                        try clear hx112_0
                        try clear hx112_1
                        try clear hx112_2
                        try clear hx113_0
                        try clear hx113_1
                        try clear hx113_2
                        try clear hx115_0
                        try clear hx115_1
                        try clear hx115_2
                        try clear hx115_3
                        try clear hx115_4
                        try clear hx115_5
                        try clear p1
                        try clear p10
                        try clear p108
                        try clear p109
                        try clear p11
                        try clear p110
                        try clear p111
                        try clear p112
                        try clear p113
                        try clear p115
                        try clear p2
                        try clear p6
                        try clear q1
                        try clear q10
                        try clear q108
                        try clear q109
                        try clear q11
                        try clear q110
                        try clear q111
                        try clear q112
                        try clear q113
                        try clear q115
                        obtain ⟨kq, x124_28, rfl, HA, HJ28, BK107, BK116, HB⟩ := hcut
                        cases kq with
                        | zero => exact absurd HA.out (by simp [intarsiaref15_lightRule.j5])
                        | succ kj28 =>
                          have H := HA.out
                          clear HA
                          simp only [intarsiaref15_lightRule.j5] at H
                          by_cases c45 : x124_28 = true
                          · subst c45
                            have H1 : (some false) = some r := by rw [if_pos rfl] at H; exact H
                            clear H
                            have H := H1
                            clear H1
                            obtain rfl := Option.some.inj H
                            go_wp2
                            go_ret
                            exact ⟨by first | rfl | (simp [errW_none, errW_some] <;> rfl) | (simp [*, errW_none, errW_some] <;> rfl), by repeat (first | (with_reducible first | exact HB.out | apply below_alloc | apply pw_below_drewN | apply below_drew1 | refine below_set ?_ GE107.out | refine below_set ?_ GE116.out) | exact HB.out)⟩
                          · replace c45 := Bool.eq_false_iff.mpr c45
                            subst c45
                            have H1 : (intarsiaref15_lightRule.l3 kj28 x6_3 0 a0_0 l0_1 l0_2 ((rd_T65 l0_2 x6_3).f0) ((rd_T65 l0_2 x6_3).f1) ((rd_T65 l0_2 x6_3).f2) ((rd_T65 l0_2 x6_3).f3) ((rd_T65 l0_2 x6_3).f4) ((rd_T65 l0_2 x6_3).f5)) = some r := by rw [if_neg (show ¬ (false = true) by decide)] at H; exact H
                            clear H
                            have H := H1
                            clear H1
                            have H' := Aside0.mk H
                            clear H
                            go_wp2
                            go_loopg [8] kj28 (fun kq v8 w' => ∃ (x8_5 : Int), v8 = .int .i64 x8_5 ∧ Aside0 (intarsiaref15_lightRule.l3 kq x6_3 x8_5 a0_0 l0_1 l0_2 ((rd_T65 l0_2 x6_3).f0) ((rd_T65 l0_2 x6_3).f1) ((rd_T65 l0_2 x6_3).f2) ((rd_T65 l0_2 x6_3).f3) ((rd_T65 l0_2 x6_3).f4) ((rd_T65 l0_2 x6_3).f5) = some r) ∧ Aside0 (kq ≤ kj28) ∧ Aside0 (w'.heap[gb107]? = some (.cells #[.string a0_0, (.slice A0_1 l0_1.length c0_1), (.slice (some ad115) l0_2.length c0_2)] 38 (0, 0))) ∧ Aside0 (w'.heap[gb116]? = some (.cells #[.int .u8 ((rd_T65 l0_2 x6_3).f0), .string ((rd_T65 l0_2 x6_3).f1), .int .i64 ((rd_T65 l0_2 x6_3).f2), .string ((rd_T65 l0_2 x6_3).f3), (.slice A115_4 ((rd_T65 l0_2 x6_3).f4).length c115_4), (.slice A115_5 ((rd_T65 l0_2 x6_3).f5).length c115_5)] 65 (0, 0))) ∧ Aside0 (Below w.heap.size w w'))
                            case atStart => exact ⟨(0), (by first | rfl | (simp; done) | (simp [*]; done)), H', ⟨Nat.le_refl _⟩, ⟨by (with_reducible repeat (first | refine blk_drewN ?_ _ | refine blk_drew ?_ | refine blk_alloc ?_ _)); exact BK107.out⟩, ⟨by (with_reducible repeat (first | refine blk_drewN ?_ _ | refine blk_drew ?_ | refine blk_alloc ?_ _)); exact BK116.out⟩, ⟨by repeat (first | (with_reducible first | exact HB.out | apply below_alloc | apply pw_below_drewN | apply below_drew1 | refine below_set ?_ GE107.out | refine below_set ?_ GE116.out) | exact HB.out)⟩⟩
                            case round =>
                              clear H'
                              try clear c1
                              try clear p1
                              try clear q1
                              try clear hx1
                              try clear c2
                              try clear p2
                              try clear c3
                              try clear c4
                              try clear c4b0
                              try clear c4b1
                              try clear c6
                              try clear c6b0
                              try clear c6b1
                              try clear p6
                              try clear c9
                              try clear c10
                              try clear c10b0
                              try clear p10
                              try clear q10
                              try clear hx10
                              try clear c11
                              try clear c11b0
                              try clear p11
                              try clear q11
                              try clear hx11
                              try clear c14
                              try clear c14b0
                              try clear c14b1
                              try clear c16
                              try clear c17
                              try clear c17b0
                              try clear c18
                              try clear c18b0
                              try clear c19
                              try clear c19b0
                              try clear c19b1
                              try clear c20
                              try clear c20b0
                              try clear c20b1
                              try clear c21
                              try clear c21b0
                              try clear c21b1
                              try clear c23
                              try clear c27
                              try clear c27b0
                              try clear c28
                              try clear c28b0
                              try clear c32
                              try clear c34
                              try clear c34b0
                              try clear c34b1
                              try clear c35
                              try clear c37
                              try clear c37b0
                              try clear c37b1
                              try clear c38
                              try clear c40
                              try clear c40b0
                              try clear c40b1
                              try clear c41
                              try clear c43
                              try clear c45
                              try clear hcz13_0
                              try clear hcz13_1
                              try clear hcz13_2
                              try clear hcz15_0
                              try clear hcz15_1
                              try clear hcz15_2
                              try clear hcz26_0
                              try clear hcz26_1
                              try clear hcz26_2
                              try clear hcz30_0
                              try clear hcz30_1
                              try clear hcz30_2
                              try clear hcz33_0
                              try clear hcz33_1
                              try clear hcz33_2
                              try clear hcz33_3
                              try clear hcz33_4
                              try clear hcz33_5
                              try clear hcz36_0
                              try clear hcz36_1
                              try clear hcz36_2
                              try clear hcz36_3
                              try clear hcz36_4
                              try clear hcz36_5
                              try clear hcz39_0
                              try clear hcz39_1
                              try clear hcz39_2
                              try clear hcz39_3
                              try clear hcz39_4
                              try clear hcz39_5
                              try clear hcz42_0
                              try clear hcz42_1
                              try clear hcz42_2
                              try clear hcz42_3
                              try clear hcz42_4
                              try clear hcz42_5
                              try clear hcz44_0
                              try clear hcz44_1
                              try clear hcz44_2
                              try clear hcz44_3
                              try clear hcz44_4
                              try clear hcz44_5
                              try clear hcz5_0
                              try clear hcz5_1
                              try clear hcz5_2
                              try clear hcz7_0
                              try clear hcz7_1
                              try clear hcz7_2
                              try clear hcz8_0
                              try clear hcz8_1
                              try clear hcz8_2
                              try clear hfz13_0
                              try clear hfz13_1
                              try clear hfz13_2
                              try clear hfz15_0
                              try clear hfz15_1
                              try clear hfz15_2
                              try clear hfz26_0
                              try clear hfz26_1
                              try clear hfz26_2
                              try clear hfz30_0
                              try clear hfz30_1
                              try clear hfz30_2
                              try clear hfz33_0
                              try clear hfz33_1
                              try clear hfz33_2
                              try clear hfz33_3
                              try clear hfz33_4
                              try clear hfz33_5
                              try clear hfz36_0
                              try clear hfz36_1
                              try clear hfz36_2
                              try clear hfz36_3
                              try clear hfz36_4
                              try clear hfz36_5
                              try clear hfz39_0
                              try clear hfz39_1
                              try clear hfz39_2
                              try clear hfz39_3
                              try clear hfz39_4
                              try clear hfz39_5
                              try clear hfz42_0
                              try clear hfz42_1
                              try clear hfz42_2
                              try clear hfz42_3
                              try clear hfz42_4
                              try clear hfz42_5
                              try clear hfz44_0
                              try clear hfz44_1
                              try clear hfz44_2
                              try clear hfz44_3
                              try clear hfz44_4
                              try clear hfz44_5
                              try clear hfz5_0
                              try clear hfz5_1
                              try clear hfz5_2
                              try clear hfz7_0
                              try clear hfz7_1
                              try clear hfz7_2
                              try clear hfz8_0
                              try clear hfz8_1
                              try clear hfz8_2
                              try clear hx108_0
                              try clear hx108_1
                              try clear hx108_2
                              try clear hx109_0
                              try clear hx109_1
                              try clear hx109_2
                              try clear hx110_0
                              try clear hx110_1
                              try clear hx110_2
                              try clear hx111_0
                              try clear hx111_1
                              try clear hx111_2
                              try clear hx112_0
                              try clear hx112_1
                              try clear hx112_2
                              try clear hx113_0
                              try clear hx113_1
                              try clear hx113_2
                              try clear hx115_0
                              try clear hx115_1
                              try clear hx115_2
                              try clear hx115_3
                              try clear hx115_4
                              try clear hx115_5
                              try clear p1
                              try clear p10
                              try clear p108
                              try clear p109
                              try clear p11
                              try clear p110
                              try clear p111
                              try clear p112
                              try clear p113
                              try clear p115
                              try clear p2
                              try clear p6
                              try clear q1
                              try clear q10
                              try clear q108
                              try clear q109
                              try clear q11
                              try clear q110
                              try clear q111
                              try clear q112
                              try clear q113
                              try clear q115
                              obtain ⟨x8_5, rfl, HA, HK5, BK107, BK116, HB⟩ := hrel
                              cases gk with
                              | zero => exact absurd HA.out (by simp [intarsiaref15_lightRule.l3])
                              | succ k5 =>
                                have H := HA.out
                                clear HA
                                simp only [intarsiaref15_lightRule.l3] at H
                                by_cases c46 : x8_5 < (((rd_T65 l0_2 x6_3).f4).length : Int)
                                · rw [if_pos c46] at H
                                  have c46b0 : decide (x8_5 < (((rd_T65 l0_2 x6_3).f4).length : Int)) = true := decide_eq_true c46
                                  clear c46
                                  by_cases c47 : 0 ≤ x8_5
                                  · rw [if_pos c47] at H
                                    have c47b0 : decide (0 ≤ x8_5) = true := decide_eq_true c47
                                    clear c47
                                    by_cases c48 : (((rd_T67 ((rd_T65 l0_2 x6_3).f4) x8_5).f0).size : Int) > 60
                                    · rw [if_pos c48] at H
                                      have c48b0 : decide (60 < (((rd_T67 ((rd_T65 l0_2 x6_3).f4) x8_5).f0).size : Int)) = true := decide_eq_true c48
                                      have c48b1 : decide (60 < ((rd_T67 ((rd_T65 l0_2 x6_3).f4) x8_5).f0).size) = true := decide_eq_true (by omega)
                                      clear c48
                                      obtain rfl := Option.some.inj H
                                      have hnb49 := NB116_107.out
                                      have hnc49 := NB107_116.out
                                      have hcz50_0 : wr.cell? ⟨gb116, 0, none⟩ = some (.int .u8 ((rd_T65 l0_2 x6_3).f0)) := (blk_cell BK116.out 0).trans rfl
                                      have hcz50_1 : wr.cell? ⟨gb116, 1, none⟩ = some (.string ((rd_T65 l0_2 x6_3).f1)) := (blk_cell BK116.out 1).trans rfl
                                      have hcz50_2 : wr.cell? ⟨gb116, 2, none⟩ = some (.int .i64 ((rd_T65 l0_2 x6_3).f2)) := (blk_cell BK116.out 2).trans rfl
                                      have hcz50_3 : wr.cell? ⟨gb116, 3, none⟩ = some (.string ((rd_T65 l0_2 x6_3).f3)) := (blk_cell BK116.out 3).trans rfl
                                      have hcz50_4 : wr.cell? ⟨gb116, 4, none⟩ = some (.slice A115_4 ((rd_T65 l0_2 x6_3).f4).length c115_4) := (blk_cell BK116.out 4).trans rfl
                                      have hcz50_5 : wr.cell? ⟨gb116, 5, none⟩ = some (.slice A115_5 ((rd_T65 l0_2 x6_3).f5).length c115_5) := (blk_cell BK116.out 5).trans rfl
                                      have hfz50_0 := blk_frozen BK116.out 0
                                      have hfz50_1 := blk_frozen BK116.out 1
                                      have hfz50_2 := blk_frozen BK116.out 2
                                      have hfz50_3 := blk_frozen BK116.out 3
                                      have hfz50_4 := blk_frozen BK116.out 4
                                      have hfz50_5 := blk_frozen BK116.out 5
                                      have p117 : 0 ≤ (x8_5 : Int) := of_decide_eq_true (by first | (with_reducible assumption) | assumption)
                                      have q117 : x8_5 < (((rd_T65 l0_2 x6_3).f4).length : Int) := of_decide_eq_true (by first | (with_reducible assumption) | assumption)
                                      obtain ⟨ad117, A117_1, c117_1, e117, hx117_0, hx117_1, hl117_1, hi117_1⟩ := at_T67 HR115_4.out x8_5 p117 q117
                                      cases e117
                                      replace hx117_0 := (HB.out.cell (World.block_lt_of_cell? w _ hx117_0)).trans hx117_0
                                      replace hx117_1 := (HB.out.cell (World.block_lt_of_cell? w _ hx117_1)).trans hx117_1
                                      have HR117_1 := Aside0.mk hi117_1
                                      have HC117_1 := Aside0.mk hl117_1
                                      clear hi117_1 hl117_1
                                      replace p117 := eq_true p117
                                      replace q117 := eq_true q117
                                      go_wp2
                                      go_ret
                                      exact ⟨by first | rfl | (simp [errW_none, errW_some] <;> rfl) | (simp [*, errW_none, errW_some] <;> rfl), by repeat (first | (with_reducible first | exact HB.out | apply below_alloc | apply pw_below_drewN | apply below_drew1 | refine below_set ?_ GE107.out | refine below_set ?_ GE116.out) | exact HB.out)⟩
                                    · rw [if_neg c48] at H
                                      have c48b0 : decide (60 < (((rd_T67 ((rd_T65 l0_2 x6_3).f4) x8_5).f0).size : Int)) = false := decide_eq_false c48
                                      have c48b1 : decide (60 < ((rd_T67 ((rd_T65 l0_2 x6_3).f4) x8_5).f0).size) = false := decide_eq_false (by omega)
                                      clear c48
                                      replace H := Option.bind_eq_some_iff.mp H
                                      obtain ⟨t119, A510, H⟩ := H
                                      replace H : (if t119 = true then (intarsiaref15_lightRule.l3 k5 x6_3 (wrap64 (x8_5 + 1)) a0_0 l0_1 l0_2 ((rd_T65 l0_2 x6_3).f0) ((rd_T65 l0_2 x6_3).f1) ((rd_T65 l0_2 x6_3).f2) ((rd_T65 l0_2 x6_3).f3) ((rd_T65 l0_2 x6_3).f4) ((rd_T65 l0_2 x6_3).f5)) else (some false)) = some r := H
                                      have A51 := Aside0.mk A510
                                      clear A510
                                      by_cases c52 : t119 = true
                                      · subst c52
                                        have H1 : (intarsiaref15_lightRule.l3 k5 x6_3 (wrap64 (x8_5 + 1)) a0_0 l0_1 l0_2 ((rd_T65 l0_2 x6_3).f0) ((rd_T65 l0_2 x6_3).f1) ((rd_T65 l0_2 x6_3).f2) ((rd_T65 l0_2 x6_3).f3) ((rd_T65 l0_2 x6_3).f4) ((rd_T65 l0_2 x6_3).f5)) = some r := by rw [if_pos rfl] at H; exact H
                                        clear H
                                        have H := H1
                                        clear H1
                                        have H' := Aside0.mk H
                                        clear H
                                        have hnb53 := NB116_107.out
                                        have hnc53 := NB107_116.out
                                        have hcz54_0 : wr.cell? ⟨gb116, 0, none⟩ = some (.int .u8 ((rd_T65 l0_2 x6_3).f0)) := (blk_cell BK116.out 0).trans rfl
                                        have hcz54_1 : wr.cell? ⟨gb116, 1, none⟩ = some (.string ((rd_T65 l0_2 x6_3).f1)) := (blk_cell BK116.out 1).trans rfl
                                        have hcz54_2 : wr.cell? ⟨gb116, 2, none⟩ = some (.int .i64 ((rd_T65 l0_2 x6_3).f2)) := (blk_cell BK116.out 2).trans rfl
                                        have hcz54_3 : wr.cell? ⟨gb116, 3, none⟩ = some (.string ((rd_T65 l0_2 x6_3).f3)) := (blk_cell BK116.out 3).trans rfl
                                        have hcz54_4 : wr.cell? ⟨gb116, 4, none⟩ = some (.slice A115_4 ((rd_T65 l0_2 x6_3).f4).length c115_4) := (blk_cell BK116.out 4).trans rfl
                                        have hcz54_5 : wr.cell? ⟨gb116, 5, none⟩ = some (.slice A115_5 ((rd_T65 l0_2 x6_3).f5).length c115_5) := (blk_cell BK116.out 5).trans rfl
                                        have hfz54_0 := blk_frozen BK116.out 0
                                        have hfz54_1 := blk_frozen BK116.out 1
                                        have hfz54_2 := blk_frozen BK116.out 2
                                        have hfz54_3 := blk_frozen BK116.out 3
                                        have hfz54_4 := blk_frozen BK116.out 4
                                        have hfz54_5 := blk_frozen BK116.out 5
                                        have p117 : 0 ≤ (x8_5 : Int) := of_decide_eq_true (by first | (with_reducible assumption) | assumption)
                                        have q117 : x8_5 < (((rd_T65 l0_2 x6_3).f4).length : Int) := of_decide_eq_true (by first | (with_reducible assumption) | assumption)
                                        obtain ⟨ad117, A117_1, c117_1, e117, hx117_0, hx117_1, hl117_1, hi117_1⟩ := at_T67 HR115_4.out x8_5 p117 q117
                                        cases e117
                                        replace hx117_0 := (HB.out.cell (World.block_lt_of_cell? w _ hx117_0)).trans hx117_0
                                        replace hx117_1 := (HB.out.cell (World.block_lt_of_cell? w _ hx117_1)).trans hx117_1
                                        have HR117_1 := Aside0.mk hi117_1
                                        have HC117_1 := Aside0.mk hl117_1
                                        clear hi117_1 hl117_1
                                        replace p117 := eq_true p117
                                        replace q117 := eq_true q117
                                        have p118 : 0 ≤ (x8_5 : Int) := of_decide_eq_true (by first | (with_reducible assumption) | assumption)
                                        have q118 : x8_5 < (((rd_T65 l0_2 x6_3).f4).length : Int) := of_decide_eq_true (by first | (with_reducible assumption) | assumption)
                                        obtain ⟨ad118, A118_1, c118_1, e118, hx118_0, hx118_1, hl118_1, hi118_1⟩ := at_T67 HR115_4.out x8_5 p118 q118
                                        obtain rfl : ad117 = ad118 := (by injection e118)
                                        replace hx118_0 := (HB.out.cell (World.block_lt_of_cell? w _ hx118_0)).trans hx118_0
                                        replace hx118_1 := (HB.out.cell (World.block_lt_of_cell? w _ hx118_1)).trans hx118_1
                                        have HR118_1 := Aside0.mk hi118_1
                                        have HC118_1 := Aside0.mk hl118_1
                                        clear hi118_1 hl118_1
                                        replace p118 := eq_true p118
                                        replace q118 := eq_true q118
                                        have ea_ := Option.some.inj (hx117_1.symm.trans hx118_1)
                                        injection ea_ with ea_ en_ ec_
                                        subst ea_
                                        subst ec_
                                        clear en_
                                        go_wp2_with (first | (go_at_call 32; (with_reducible refine (intarsiaref15_lightItems.calls k5 _ _ ((rd_T67 ((rd_T65 l0_2 x6_3).f4) x8_5).f1) true _ ?side1 ?side2 A51.out).mono ?_); (case side1 => repeat (first | exact (Kd.C_below HR118_1.out HB.out) | (with_reducible refine Kd.C_alloc ?_ _) | (with_reducible refine Kd.C_drewN ?_ _) | (with_reducible refine Kd.C_drew ?_))); (case side2 => exact HC118_1.out); rintro e w' ⟨rfl, ⟨nd, rfl⟩⟩))
                                        go_roundg k5
                                        case measure => have := HJ1.out; have := HK2.out; have := HK3.out; have := HJ28.out; have := HK5.out; omega
                                        case rel => exact ⟨(wrap64 (x8_5 + 1)), (by first | rfl | (simp; done) | (simp [*]; done)), H', ⟨by have := HJ1.out; have := HK2.out; have := HK3.out; have := HJ28.out; have := HK5.out; omega⟩, ⟨by (with_reducible repeat (first | refine blk_drewN ?_ _ | refine blk_drew ?_ | refine blk_alloc ?_ _)); exact BK107.out⟩, ⟨by (with_reducible repeat (first | refine blk_drewN ?_ _ | refine blk_drew ?_ | refine blk_alloc ?_ _)); exact BK116.out⟩, ⟨by repeat (first | (with_reducible first | exact HB.out | apply below_alloc | apply pw_below_drewN | apply below_drew1 | refine below_set ?_ GE107.out | refine below_set ?_ GE116.out) | exact HB.out)⟩⟩
                                      · replace c52 := Bool.eq_false_iff.mpr c52
                                        subst c52
                                        have H1 : (some false) = some r := by rw [if_neg (show ¬ (false = true) by decide)] at H; exact H
                                        clear H
                                        have H := H1
                                        clear H1
                                        obtain rfl := Option.some.inj H
                                        have hnb55 := NB116_107.out
                                        have hnc55 := NB107_116.out
                                        have hcz56_0 : wr.cell? ⟨gb116, 0, none⟩ = some (.int .u8 ((rd_T65 l0_2 x6_3).f0)) := (blk_cell BK116.out 0).trans rfl
                                        have hcz56_1 : wr.cell? ⟨gb116, 1, none⟩ = some (.string ((rd_T65 l0_2 x6_3).f1)) := (blk_cell BK116.out 1).trans rfl
                                        have hcz56_2 : wr.cell? ⟨gb116, 2, none⟩ = some (.int .i64 ((rd_T65 l0_2 x6_3).f2)) := (blk_cell BK116.out 2).trans rfl
                                        have hcz56_3 : wr.cell? ⟨gb116, 3, none⟩ = some (.string ((rd_T65 l0_2 x6_3).f3)) := (blk_cell BK116.out 3).trans rfl
                                        have hcz56_4 : wr.cell? ⟨gb116, 4, none⟩ = some (.slice A115_4 ((rd_T65 l0_2 x6_3).f4).length c115_4) := (blk_cell BK116.out 4).trans rfl
                                        have hcz56_5 : wr.cell? ⟨gb116, 5, none⟩ = some (.slice A115_5 ((rd_T65 l0_2 x6_3).f5).length c115_5) := (blk_cell BK116.out 5).trans rfl
                                        have hfz56_0 := blk_frozen BK116.out 0
                                        have hfz56_1 := blk_frozen BK116.out 1
                                        have hfz56_2 := blk_frozen BK116.out 2
                                        have hfz56_3 := blk_frozen BK116.out 3
                                        have hfz56_4 := blk_frozen BK116.out 4
                                        have hfz56_5 := blk_frozen BK116.out 5
                                        have p117 : 0 ≤ (x8_5 : Int) := of_decide_eq_true (by first | (with_reducible assumption) | assumption)
                                        have q117 : x8_5 < (((rd_T65 l0_2 x6_3).f4).length : Int) := of_decide_eq_true (by first | (with_reducible assumption) | assumption)
                                        obtain ⟨ad117, A117_1, c117_1, e117, hx117_0, hx117_1, hl117_1, hi117_1⟩ := at_T67 HR115_4.out x8_5 p117 q117
                                        cases e117
                                        replace hx117_0 := (HB.out.cell (World.block_lt_of_cell? w _ hx117_0)).trans hx117_0
                                        replace hx117_1 := (HB.out.cell (World.block_lt_of_cell? w _ hx117_1)).trans hx117_1
                                        have HR117_1 := Aside0.mk hi117_1
                                        have HC117_1 := Aside0.mk hl117_1
                                        clear hi117_1 hl117_1
                                        replace p117 := eq_true p117
                                        replace q117 := eq_true q117
                                        have p118 : 0 ≤ (x8_5 : Int) := of_decide_eq_true (by first | (with_reducible assumption) | assumption)
                                        have q118 : x8_5 < (((rd_T65 l0_2 x6_3).f4).length : Int) := of_decide_eq_true (by first | (with_reducible assumption) | assumption)
                                        obtain ⟨ad118, A118_1, c118_1, e118, hx118_0, hx118_1, hl118_1, hi118_1⟩ := at_T67 HR115_4.out x8_5 p118 q118
                                        obtain rfl : ad117 = ad118 := (by injection e118)
                                        replace hx118_0 := (HB.out.cell (World.block_lt_of_cell? w _ hx118_0)).trans hx118_0
                                        replace hx118_1 := (HB.out.cell (World.block_lt_of_cell? w _ hx118_1)).trans hx118_1
                                        have HR118_1 := Aside0.mk hi118_1
                                        have HC118_1 := Aside0.mk hl118_1
                                        clear hi118_1 hl118_1
                                        replace p118 := eq_true p118
                                        replace q118 := eq_true q118
                                        have ea_ := Option.some.inj (hx117_1.symm.trans hx118_1)
                                        injection ea_ with ea_ en_ ec_
                                        subst ea_
                                        subst ec_
                                        clear en_
                                        go_wp2_with (first | (go_at_call 32; (with_reducible refine (intarsiaref15_lightItems.calls k5 _ _ ((rd_T67 ((rd_T65 l0_2 x6_3).f4) x8_5).f1) false _ ?side1 ?side2 A51.out).mono ?_); (case side1 => repeat (first | exact (Kd.C_below HR118_1.out HB.out) | (with_reducible refine Kd.C_alloc ?_ _) | (with_reducible refine Kd.C_drewN ?_ _) | (with_reducible refine Kd.C_drew ?_))); (case side2 => exact HC118_1.out); rintro e w' ⟨rfl, ⟨nd, rfl⟩⟩))
                                        go_ret
                                        exact ⟨by first | rfl | (simp [errW_none, errW_some] <;> rfl) | (simp [*, errW_none, errW_some] <;> rfl), by repeat (first | (with_reducible first | exact HB.out | apply below_alloc | apply pw_below_drewN | apply below_drew1 | refine below_set ?_ GE107.out | refine below_set ?_ GE116.out) | exact HB.out)⟩
                                  · rw [if_neg c47] at H
                                    exact absurd H (by simp)
                                · rw [if_neg c46] at H
                                  have c46b0 : decide (x8_5 < (((rd_T65 l0_2 x6_3).f4).length : Int)) = false := decide_eq_false c46
                                  clear c46
                                  have H' := Aside0.mk H
                                  clear H
                                  have hnb57 := NB116_107.out
                                  have hnc57 := NB107_116.out
                                  have hcz58_0 : wr.cell? ⟨gb116, 0, none⟩ = some (.int .u8 ((rd_T65 l0_2 x6_3).f0)) := (blk_cell BK116.out 0).trans rfl
                                  have hcz58_1 : wr.cell? ⟨gb116, 1, none⟩ = some (.string ((rd_T65 l0_2 x6_3).f1)) := (blk_cell BK116.out 1).trans rfl
                                  have hcz58_2 : wr.cell? ⟨gb116, 2, none⟩ = some (.int .i64 ((rd_T65 l0_2 x6_3).f2)) := (blk_cell BK116.out 2).trans rfl
                                  have hcz58_3 : wr.cell? ⟨gb116, 3, none⟩ = some (.string ((rd_T65 l0_2 x6_3).f3)) := (blk_cell BK116.out 3).trans rfl
                                  have hcz58_4 : wr.cell? ⟨gb116, 4, none⟩ = some (.slice A115_4 ((rd_T65 l0_2 x6_3).f4).length c115_4) := (blk_cell BK116.out 4).trans rfl
                                  have hcz58_5 : wr.cell? ⟨gb116, 5, none⟩ = some (.slice A115_5 ((rd_T65 l0_2 x6_3).f5).length c115_5) := (blk_cell BK116.out 5).trans rfl
                                  have hfz58_0 := blk_frozen BK116.out 0
                                  have hfz58_1 := blk_frozen BK116.out 1
                                  have hfz58_2 := blk_frozen BK116.out 2
                                  have hfz58_3 := blk_frozen BK116.out 3
                                  have hfz58_4 := blk_frozen BK116.out 4
                                  have hfz58_5 := blk_frozen BK116.out 5
                                  go_wp2
                                  go_loopg [9] k5 (fun kq v9 w' => ∃ (x9_6 : Int), v9 = .int .i64 x9_6 ∧ Aside0 (intarsiaref15_lightRule.l4 kq x6_3 x9_6 a0_0 l0_1 l0_2 ((rd_T65 l0_2 x6_3).f0) ((rd_T65 l0_2 x6_3).f1) ((rd_T65 l0_2 x6_3).f2) ((rd_T65 l0_2 x6_3).f3) ((rd_T65 l0_2 x6_3).f4) ((rd_T65 l0_2 x6_3).f5) = some r) ∧ Aside0 (kq ≤ k5) ∧ Aside0 (w'.heap[gb107]? = some (.cells #[.string a0_0, (.slice A0_1 l0_1.length c0_1), (.slice (some ad115) l0_2.length c0_2)] 38 (0, 0))) ∧ Aside0 (w'.heap[gb116]? = some (.cells #[.int .u8 ((rd_T65 l0_2 x6_3).f0), .string ((rd_T65 l0_2 x6_3).f1), .int .i64 ((rd_T65 l0_2 x6_3).f2), .string ((rd_T65 l0_2 x6_3).f3), (.slice A115_4 ((rd_T65 l0_2 x6_3).f4).length c115_4), (.slice A115_5 ((rd_T65 l0_2 x6_3).f5).length c115_5)] 65 (0, 0))) ∧ Aside0 (Below w.heap.size w w'))
                                  case atStart => exact ⟨(0), (by first | rfl | (simp; done) | (simp [*]; done)), H', ⟨Nat.le_refl _⟩, ⟨by (with_reducible repeat (first | refine blk_drewN ?_ _ | refine blk_drew ?_ | refine blk_alloc ?_ _)); exact BK107.out⟩, ⟨by (with_reducible repeat (first | refine blk_drewN ?_ _ | refine blk_drew ?_ | refine blk_alloc ?_ _)); exact BK116.out⟩, ⟨by repeat (first | (with_reducible first | exact HB.out | apply below_alloc | apply pw_below_drewN | apply below_drew1 | refine below_set ?_ GE107.out | refine below_set ?_ GE116.out) | exact HB.out)⟩⟩
                                  case round =>
                                    clear H'
                                    try clear c1
                                    try clear p1
                                    try clear q1
                                    try clear hx1
                                    try clear c2
                                    try clear p2
                                    try clear c3
                                    try clear c4
                                    try clear c4b0
                                    try clear c4b1
                                    try clear c5
                                    try clear c6
                                    try clear c6b0
                                    try clear c6b1
                                    try clear p6
                                    try clear c9
                                    try clear c10
                                    try clear c10b0
                                    try clear p10
                                    try clear q10
                                    try clear hx10
                                    try clear c11
                                    try clear c11b0
                                    try clear p11
                                    try clear q11
                                    try clear hx11
                                    try clear c14
                                    try clear c14b0
                                    try clear c14b1
                                    try clear c16
                                    try clear c17
                                    try clear c17b0
                                    try clear c18
                                    try clear c18b0
                                    try clear c19
                                    try clear c19b0
                                    try clear c19b1
                                    try clear c20
                                    try clear c20b0
                                    try clear c20b1
                                    try clear c21
                                    try clear c21b0
                                    try clear c21b1
                                    try clear c23
                                    try clear c27
                                    try clear c27b0
                                    try clear c28
                                    try clear c28b0
                                    try clear c32
                                    try clear c34
                                    try clear c34b0
                                    try clear c34b1
                                    try clear c35
                                    try clear c37
                                    try clear c37b0
                                    try clear c37b1
                                    try clear c38
                                    try clear c40
                                    try clear c40b0
                                    try clear c40b1
                                    try clear c41
                                    try clear c43
                                    try clear c45
                                    try clear c46
                                    try clear c46b0
                                    try clear c47
                                    try clear c47b0
                                    try clear c48
                                    try clear c48b0
                                    try clear c48b1
                                    try clear c49
                                    try clear c52
                                    try clear c53
                                    try clear c55
                                    try clear c57
                                    try clear hcz13_0
                                    try clear hcz13_1
                                    try clear hcz13_2
                                    try clear hcz15_0
                                    try clear hcz15_1
                                    try clear hcz15_2
                                    try clear hcz26_0
                                    try clear hcz26_1
                                    try clear hcz26_2
                                    try clear hcz30_0
                                    try clear hcz30_1
                                    try clear hcz30_2
                                    try clear hcz33_0
                                    try clear hcz33_1
                                    try clear hcz33_2
                                    try clear hcz33_3
                                    try clear hcz33_4
                                    try clear hcz33_5
                                    try clear hcz36_0
                                    try clear hcz36_1
                                    try clear hcz36_2
                                    try clear hcz36_3
                                    try clear hcz36_4
                                    try clear hcz36_5
                                    try clear hcz39_0
                                    try clear hcz39_1
                                    try clear hcz39_2
                                    try clear hcz39_3
                                    try clear hcz39_4
                                    try clear hcz39_5
                                    try clear hcz42_0
                                    try clear hcz42_1
                                    try clear hcz42_2
                                    try clear hcz42_3
                                    try clear hcz42_4
                                    try clear hcz42_5
                                    try clear hcz44_0
                                    try clear hcz44_1
                                    try clear hcz44_2
                                    try clear hcz44_3
                                    try clear hcz44_4
                                    try clear hcz44_5
                                    try clear hcz50_0
                                    try clear hcz50_1
                                    try clear hcz50_2
                                    try clear hcz50_3
                                    try clear hcz50_4
                                    try clear hcz50_5
                                    try clear hcz54_0
                                    try clear hcz54_1
                                    try clear hcz54_2
                                    try clear hcz54_3
                                    try clear hcz54_4
                                    try clear hcz54_5
                                    try clear hcz56_0
                                    try clear hcz56_1
                                    try clear hcz56_2
                                    try clear hcz56_3
                                    try clear hcz56_4
                                    try clear hcz56_5
                                    try clear hcz58_0
                                    try clear hcz58_1
                                    try clear hcz58_2
                                    try clear hcz58_3
                                    try clear hcz58_4
                                    try clear hcz58_5
                                    try clear hcz5_0
                                    try clear hcz5_1
                                    try clear hcz5_2
                                    try clear hcz7_0
                                    try clear hcz7_1
                                    try clear hcz7_2
                                    try clear hcz8_0
                                    try clear hcz8_1
                                    try clear hcz8_2
                                    try clear hfz13_0
                                    try clear hfz13_1
                                    try clear hfz13_2
                                    try clear hfz15_0
                                    try clear hfz15_1
                                    try clear hfz15_2
                                    try clear hfz26_0
                                    try clear hfz26_1
                                    try clear hfz26_2
                                    try clear hfz30_0
                                    try clear hfz30_1
                                    try clear hfz30_2
                                    try clear hfz33_0
                                    try clear hfz33_1
                                    try clear hfz33_2
                                    try clear hfz33_3
                                    try clear hfz33_4
                                    try clear hfz33_5
                                    try clear hfz36_0
                                    try clear hfz36_1
                                    try clear hfz36_2
                                    try clear hfz36_3
                                    try clear hfz36_4
                                    try clear hfz36_5
                                    try clear hfz39_0
                                    try clear hfz39_1
                                    try clear hfz39_2
                                    try clear hfz39_3
                                    try clear hfz39_4
                                    try clear hfz39_5
                                    try clear hfz42_0
                                    try clear hfz42_1
                                    try clear hfz42_2
                                    try clear hfz42_3
                                    try clear hfz42_4
                                    try clear hfz42_5
                                    try clear hfz44_0
                                    try clear hfz44_1
                                    try clear hfz44_2
                                    try clear hfz44_3
                                    try clear hfz44_4
                                    try clear hfz44_5
                                    try clear hfz50_0
                                    try clear hfz50_1
                                    try clear hfz50_2
                                    try clear hfz50_3
                                    try clear hfz50_4
                                    try clear hfz50_5
                                    try clear hfz54_0
                                    try clear hfz54_1
                                    try clear hfz54_2
                                    try clear hfz54_3
                                    try clear hfz54_4
                                    try clear hfz54_5
                                    try clear hfz56_0
                                    try clear hfz56_1
                                    try clear hfz56_2
                                    try clear hfz56_3
                                    try clear hfz56_4
                                    try clear hfz56_5
                                    try clear hfz58_0
                                    try clear hfz58_1
                                    try clear hfz58_2
                                    try clear hfz58_3
                                    try clear hfz58_4
                                    try clear hfz58_5
                                    try clear hfz5_0
                                    try clear hfz5_1
                                    try clear hfz5_2
                                    try clear hfz7_0
                                    try clear hfz7_1
                                    try clear hfz7_2
                                    try clear hfz8_0
                                    try clear hfz8_1
                                    try clear hfz8_2
                                    try clear hx108_0
                                    try clear hx108_1
                                    try clear hx108_2
                                    try clear hx109_0
                                    try clear hx109_1
                                    try clear hx109_2
                                    try clear hx110_0
                                    try clear hx110_1
                                    try clear hx110_2
                                    try clear hx111_0
                                    try clear hx111_1
                                    try clear hx111_2
                                    try clear hx112_0
                                    try clear hx112_1
                                    try clear hx112_2
                                    try clear hx113_0
                                    try clear hx113_1
                                    try clear hx113_2
                                    try clear hx115_0
                                    try clear hx115_1
                                    try clear hx115_2
                                    try clear hx115_3
                                    try clear hx115_4
                                    try clear hx115_5
                                    try clear hx117_0
                                    try clear hx117_1
                                    try clear hx118_0
                                    try clear hx118_1
                                    try clear p1
                                    try clear p10
                                    try clear p108
                                    try clear p109
                                    try clear p11
                                    try clear p110
                                    try clear p111
                                    try clear p112
                                    try clear p113
                                    try clear p115
                                    try clear p117
                                    try clear p118
                                    try clear p2
                                    try clear p6
                                    try clear q1
                                    try clear q10
                                    try clear q108
                                    try clear q109
                                    try clear q11
                                    try clear q110
                                    try clear q111
                                    try clear q112
                                    try clear q113
                                    try clear q115
                                    try clear q117
                                    try clear q118
                                    obtain ⟨x9_6, rfl, HA, HK6, BK107, BK116, HB⟩ := hrel
                                    cases gk with
                                    | zero => exact absurd HA.out (by simp [intarsiaref15_lightRule.l4])
                                    | succ k6 =>
                                      have H := HA.out
                                      clear HA
                                      simp only [intarsiaref15_lightRule.l4] at H
                                      by_cases c59 : x9_6 < (((rd_T65 l0_2 x6_3).f5).length : Int)
                                      · rw [if_pos c59] at H
                                        have c59b0 : decide (x9_6 < (((rd_T65 l0_2 x6_3).f5).length : Int)) = true := decide_eq_true c59
                                        clear c59
                                        by_cases c60 : 0 ≤ x9_6
                                        · rw [if_pos c60] at H
                                          have c60b0 : decide (0 ≤ x9_6) = true := decide_eq_true c60
                                          clear c60
                                          replace H := Option.bind_eq_some_iff.mp H
                                          obtain ⟨t121, A610, H⟩ := H
                                          replace H : (if t121 = true then (intarsiaref15_lightRule.l4 k6 x6_3 (wrap64 (x9_6 + 1)) a0_0 l0_1 l0_2 ((rd_T65 l0_2 x6_3).f0) ((rd_T65 l0_2 x6_3).f1) ((rd_T65 l0_2 x6_3).f2) ((rd_T65 l0_2 x6_3).f3) ((rd_T65 l0_2 x6_3).f4) ((rd_T65 l0_2 x6_3).f5)) else (some false)) = some r := H
                                          have A61 := Aside0.mk A610
                                          clear A610
                                          by_cases c62 : t121 = true
                                          · subst c62
                                            have H1 : (intarsiaref15_lightRule.l4 k6 x6_3 (wrap64 (x9_6 + 1)) a0_0 l0_1 l0_2 ((rd_T65 l0_2 x6_3).f0) ((rd_T65 l0_2 x6_3).f1) ((rd_T65 l0_2 x6_3).f2) ((rd_T65 l0_2 x6_3).f3) ((rd_T65 l0_2 x6_3).f4) ((rd_T65 l0_2 x6_3).f5)) = some r := by rw [if_pos rfl] at H; exact H
                                            clear H
                                            have H := H1
                                            clear H1
                                            have H' := Aside0.mk H
                                            clear H
                                            have hnb63 := NB116_107.out
                                            have hnc63 := NB107_116.out
                                            have hcz64_0 : wr.cell? ⟨gb116, 0, none⟩ = some (.int .u8 ((rd_T65 l0_2 x6_3).f0)) := (blk_cell BK116.out 0).trans rfl
                                            have hcz64_1 : wr.cell? ⟨gb116, 1, none⟩ = some (.string ((rd_T65 l0_2 x6_3).f1)) := (blk_cell BK116.out 1).trans rfl
                                            have hcz64_2 : wr.cell? ⟨gb116, 2, none⟩ = some (.int .i64 ((rd_T65 l0_2 x6_3).f2)) := (blk_cell BK116.out 2).trans rfl
                                            have hcz64_3 : wr.cell? ⟨gb116, 3, none⟩ = some (.string ((rd_T65 l0_2 x6_3).f3)) := (blk_cell BK116.out 3).trans rfl
                                            have hcz64_4 : wr.cell? ⟨gb116, 4, none⟩ = some (.slice A115_4 ((rd_T65 l0_2 x6_3).f4).length c115_4) := (blk_cell BK116.out 4).trans rfl
                                            have hcz64_5 : wr.cell? ⟨gb116, 5, none⟩ = some (.slice A115_5 ((rd_T65 l0_2 x6_3).f5).length c115_5) := (blk_cell BK116.out 5).trans rfl
                                            have hfz64_0 := blk_frozen BK116.out 0
                                            have hfz64_1 := blk_frozen BK116.out 1
                                            have hfz64_2 := blk_frozen BK116.out 2
                                            have hfz64_3 := blk_frozen BK116.out 3
                                            have hfz64_4 := blk_frozen BK116.out 4
                                            have hfz64_5 := blk_frozen BK116.out 5
                                            have p120 : 0 ≤ (x9_6 : Int) := of_decide_eq_true (by first | (with_reducible assumption) | assumption)
                                            have q120 : x9_6 < (((rd_T65 l0_2 x6_3).f5).length : Int) := of_decide_eq_true (by first | (with_reducible assumption) | assumption)
                                            obtain ⟨ad120, A120_0, c120_0, e120, hx120_0, hl120_0, hi120_0⟩ := at_L12 HR115_5.out x9_6 p120 q120
                                            cases e120
                                            replace hx120_0 := (HB.out.cell (World.block_lt_of_cell? w _ hx120_0)).trans hx120_0
                                            have HR120_0 := Aside0.mk hi120_0
                                            have HC120_0 := Aside0.mk hl120_0
                                            clear hi120_0 hl120_0
                                            replace p120 := eq_true p120
                                            replace q120 := eq_true q120
                                            go_wp2_with (first | ((with_reducible refine gate_callee (f := 32) rfl ?_); refine goesL_ (some 162) rfl rfl Try.func32 (by kernel_rfl) rfl #[.slice A120_0 (rd_L12 ((rd_T65 l0_2 x6_3).f5) x9_6).length c120_0] rfl (by (try simp only [List.map_toArray, List.map_cons, List.map_nil]); first | done | rfl | (simp only [List.length_drop, List.length_take]; rfl)) ?_; (with_reducible refine (intarsiaref15_lightItems.calls k6 _ _ (rd_L12 ((rd_T65 l0_2 x6_3).f5) x9_6) true _ ?side1 ?side2 A61.out).mono ?_); (case side1 => repeat (first | exact (Kd.C_below HR120_0.out HB.out) | (with_reducible refine Kd.C_alloc ?_ _) | (with_reducible refine Kd.C_drewN ?_ _) | (with_reducible refine Kd.C_drew ?_))); (case side2 => exact HC120_0.out); rintro e w' ⟨rfl, ⟨nd, rfl⟩⟩; refine ⟨_, rfl, ?_⟩))
                                            go_roundg k6
                                            case measure => have := HJ1.out; have := HK2.out; have := HK3.out; have := HJ28.out; have := HK5.out; have := HK6.out; omega
                                            case rel => exact ⟨(wrap64 (x9_6 + 1)), (by first | rfl | (simp; done) | (simp [*]; done)), H', ⟨by have := HJ1.out; have := HK2.out; have := HK3.out; have := HJ28.out; have := HK5.out; have := HK6.out; omega⟩, ⟨by (with_reducible repeat (first | refine blk_drewN ?_ _ | refine blk_drew ?_ | refine blk_alloc ?_ _)); exact BK107.out⟩, ⟨by (with_reducible repeat (first | refine blk_drewN ?_ _ | refine blk_drew ?_ | refine blk_alloc ?_ _)); exact BK116.out⟩, ⟨by repeat (first | (with_reducible first | exact HB.out | apply below_alloc | apply pw_below_drewN | apply below_drew1 | refine below_set ?_ GE107.out | refine below_set ?_ GE116.out) | exact HB.out)⟩⟩
                                          · replace c62 := Bool.eq_false_iff.mpr c62
                                            subst c62
                                            have H1 : (some false) = some r := by rw [if_neg (show ¬ (false = true) by decide)] at H; exact H
                                            clear H
                                            have H := H1
                                            clear H1
                                            obtain rfl := Option.some.inj H
                                            have hnb65 := NB116_107.out
                                            have hnc65 := NB107_116.out
                                            have hcz66_0 : wr.cell? ⟨gb116, 0, none⟩ = some (.int .u8 ((rd_T65 l0_2 x6_3).f0)) := (blk_cell BK116.out 0).trans rfl
                                            have hcz66_1 : wr.cell? ⟨gb116, 1, none⟩ = some (.string ((rd_T65 l0_2 x6_3).f1)) := (blk_cell BK116.out 1).trans rfl
                                            have hcz66_2 : wr.cell? ⟨gb116, 2, none⟩ = some (.int .i64 ((rd_T65 l0_2 x6_3).f2)) := (blk_cell BK116.out 2).trans rfl
                                            have hcz66_3 : wr.cell? ⟨gb116, 3, none⟩ = some (.string ((rd_T65 l0_2 x6_3).f3)) := (blk_cell BK116.out 3).trans rfl
                                            have hcz66_4 : wr.cell? ⟨gb116, 4, none⟩ = some (.slice A115_4 ((rd_T65 l0_2 x6_3).f4).length c115_4) := (blk_cell BK116.out 4).trans rfl
                                            have hcz66_5 : wr.cell? ⟨gb116, 5, none⟩ = some (.slice A115_5 ((rd_T65 l0_2 x6_3).f5).length c115_5) := (blk_cell BK116.out 5).trans rfl
                                            have hfz66_0 := blk_frozen BK116.out 0
                                            have hfz66_1 := blk_frozen BK116.out 1
                                            have hfz66_2 := blk_frozen BK116.out 2
                                            have hfz66_3 := blk_frozen BK116.out 3
                                            have hfz66_4 := blk_frozen BK116.out 4
                                            have hfz66_5 := blk_frozen BK116.out 5
                                            have p120 : 0 ≤ (x9_6 : Int) := of_decide_eq_true (by first | (with_reducible assumption) | assumption)
                                            have q120 : x9_6 < (((rd_T65 l0_2 x6_3).f5).length : Int) := of_decide_eq_true (by first | (with_reducible assumption) | assumption)
                                            obtain ⟨ad120, A120_0, c120_0, e120, hx120_0, hl120_0, hi120_0⟩ := at_L12 HR115_5.out x9_6 p120 q120
                                            cases e120
                                            replace hx120_0 := (HB.out.cell (World.block_lt_of_cell? w _ hx120_0)).trans hx120_0
                                            have HR120_0 := Aside0.mk hi120_0
                                            have HC120_0 := Aside0.mk hl120_0
                                            clear hi120_0 hl120_0
                                            replace p120 := eq_true p120
                                            replace q120 := eq_true q120
                                            go_wp2_with (first | ((with_reducible refine gate_callee (f := 32) rfl ?_); refine goesL_ (some 162) rfl rfl Try.func32 (by kernel_rfl) rfl #[.slice A120_0 (rd_L12 ((rd_T65 l0_2 x6_3).f5) x9_6).length c120_0] rfl (by (try simp only [List.map_toArray, List.map_cons, List.map_nil]); first | done | rfl | (simp only [List.length_drop, List.length_take]; rfl)) ?_; (with_reducible refine (intarsiaref15_lightItems.calls k6 _ _ (rd_L12 ((rd_T65 l0_2 x6_3).f5) x9_6) false _ ?side1 ?side2 A61.out).mono ?_); (case side1 => repeat (first | exact (Kd.C_below HR120_0.out HB.out) | (with_reducible refine Kd.C_alloc ?_ _) | (with_reducible refine Kd.C_drewN ?_ _) | (with_reducible refine Kd.C_drew ?_))); (case side2 => exact HC120_0.out); rintro e w' ⟨rfl, ⟨nd, rfl⟩⟩; refine ⟨_, rfl, ?_⟩))
                                            go_ret
                                            exact ⟨by first | rfl | (simp [errW_none, errW_some] <;> rfl) | (simp [*, errW_none, errW_some] <;> rfl), by repeat (first | (with_reducible first | exact HB.out | apply below_alloc | apply pw_below_drewN | apply below_drew1 | refine below_set ?_ GE107.out | refine below_set ?_ GE116.out) | exact HB.out)⟩
                                        · rw [if_neg c60] at H
                                          exact absurd H (by simp)
                                      · rw [if_neg c59] at H
                                        have c59b0 : decide (x9_6 < (((rd_T65 l0_2 x6_3).f5).length : Int)) = false := decide_eq_false c59
                                        clear c59
                                        have H' := Aside0.mk H
                                        clear H
                                        have hnb67 := NB116_107.out
                                        have hnc67 := NB107_116.out
                                        have hcz68_0 : wr.cell? ⟨gb116, 0, none⟩ = some (.int .u8 ((rd_T65 l0_2 x6_3).f0)) := (blk_cell BK116.out 0).trans rfl
                                        have hcz68_1 : wr.cell? ⟨gb116, 1, none⟩ = some (.string ((rd_T65 l0_2 x6_3).f1)) := (blk_cell BK116.out 1).trans rfl
                                        have hcz68_2 : wr.cell? ⟨gb116, 2, none⟩ = some (.int .i64 ((rd_T65 l0_2 x6_3).f2)) := (blk_cell BK116.out 2).trans rfl
                                        have hcz68_3 : wr.cell? ⟨gb116, 3, none⟩ = some (.string ((rd_T65 l0_2 x6_3).f3)) := (blk_cell BK116.out 3).trans rfl
                                        have hcz68_4 : wr.cell? ⟨gb116, 4, none⟩ = some (.slice A115_4 ((rd_T65 l0_2 x6_3).f4).length c115_4) := (blk_cell BK116.out 4).trans rfl
                                        have hcz68_5 : wr.cell? ⟨gb116, 5, none⟩ = some (.slice A115_5 ((rd_T65 l0_2 x6_3).f5).length c115_5) := (blk_cell BK116.out 5).trans rfl
                                        have hfz68_0 := blk_frozen BK116.out 0
                                        have hfz68_1 := blk_frozen BK116.out 1
                                        have hfz68_2 := blk_frozen BK116.out 2
                                        have hfz68_3 := blk_frozen BK116.out 3
                                        have hfz68_4 := blk_frozen BK116.out 4
                                        have hfz68_5 := blk_frozen BK116.out 5
                                        go_wp2
                                        go_roundg k6
                                        case measure => have := HJ1.out; have := HK2.out; have := HK3.out; have := HJ28.out; have := HK5.out; have := HK6.out; omega
                                        case rel => exact ⟨(wrap64 (x6_3 + 1)), (by first | rfl | (simp; done) | (simp [*]; done)), H', ⟨by have := HJ1.out; have := HK2.out; have := HK3.out; have := HJ28.out; have := HK5.out; have := HK6.out; omega⟩, ⟨by (with_reducible repeat (first | refine blk_drewN ?_ _ | refine blk_drew ?_ | refine blk_alloc ?_ _)); exact BK107.out⟩, ⟨by repeat (first | (with_reducible first | exact HB.out | apply below_alloc | apply pw_below_drewN | apply below_drew1 | refine below_set ?_ GE107.out | refine below_set ?_ GE116.out) | exact HB.out)⟩⟩
                    · rw [if_neg c28] at H
                      exact absurd H (by simp)
                  · rw [if_neg c27] at H
                    have c27b0 : decide (x6_3 < (l0_2.length : Int)) = false := decide_eq_false c27
                    clear c27
                    obtain rfl := Option.some.inj H
                    have hcz69_0 : wr.cell? ⟨gb107, 0, none⟩ = some (.string a0_0) := (blk_cell BK107.out 0).trans rfl
                    have hcz69_1 : wr.cell? ⟨gb107, 1, none⟩ = some (.slice A0_1 l0_1.length c0_1) := (blk_cell BK107.out 1).trans rfl
                    have hcz69_2 : wr.cell? ⟨gb107, 2, none⟩ = some (.slice A0_2 l0_2.length c0_2) := (blk_cell BK107.out 2).trans rfl
                    have hfz69_0 := blk_frozen BK107.out 0
                    have hfz69_1 := blk_frozen BK107.out 1
                    have hfz69_2 := blk_frozen BK107.out 2
                    go_wp2
                    go_ret
                    exact ⟨by first | rfl | (simp [errW_none, errW_some] <;> rfl) | (simp [*, errW_none, errW_some] <;> rfl), by repeat (first | (with_reducible first | exact HB.out | apply below_alloc | apply pw_below_drewN | apply below_drew1 | refine below_set ?_ GE107.out) | exact HB.out)⟩

end Go.Proofs.Ytlbcnkmojoinfaa.MCk
