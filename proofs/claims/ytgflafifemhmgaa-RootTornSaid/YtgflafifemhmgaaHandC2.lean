/- The contracts of num.Reader's Err and took, and of num.New. -/
import Derived.Test.YtgflafifemhmgaaHandC1
import Derived.Test.YtgflafifemhmgaaWShare
import Derived.Test.YtgflafifemhmgaaWN
import Derived.LaidEqlPtr
import Derived.Lib.Builder
import Derived.Laws.Slices
namespace Go.Proofs.Ytgflafifemhmgaa.Hand
open Go.RowKit Go.Proofs.YtgflafifemhmgaaW.PrintWords Go.Proofs.YtgflafifemhmgaaW.PrintLast Go.Proofs.YtgflafifemhmgaaW.PrintMore

/-- A reader at a block: what is left, and its error. -/
def Rdr (w : World) (g : Nat) (l : List Int) (e : Int) : Prop := ∃ A c, l.length ≤ c ∧ w.heap[g]? = some (.cells #[.slice A l.length c, .int .i64 e] 93 (0, 0)) ∧ Kd.F (Kd.int .u8) w (fun k => k ≠ g) A l.length l

set_option maxHeartbeats 2000000 in
set_option maxRecDepth 100000 in
theorem num_Err (g : Nat) (v : Value) (e : Int) (w : World) (h : w.heap[g]? = some (.cells #[v, .int .i64 e] 93 (0, 0))) :
    Calls Try.prog 57 #[.pointer (some ⟨g, 0, none⟩)] w fun ex w' => ex = .returned (.int .i64 e) ∧ w' = w := by
  have c1 : w.cell? ⟨g, 1, none⟩ = some (.int .i64 e) := by rw [Lib.cell_of_heap h]; rfl
  go_enter Try.func57, Try.ntmps57
  go_wp2
  go_ret
  exact ⟨rfl, rfl⟩

set_option maxHeartbeats 2000000 in
set_option maxRecDepth 100000 in
theorem num_took (g : Nat) (l : List Int) (n : Int) (used : Nat) (B : Nat) (w : World) (h : Rdr w g l 0) (hu : used ≤ l.length) (hB : B ≤ g) :
    Calls Try.prog 59 #[.pointer (some ⟨g, 0, none⟩), .int .i64 n, .int .i64 used, .int .i64 0] w fun ex w' => ex = .returned (.int .i64 n) ∧ Rdr w' g (l.drop used) 0 ∧ Below B w w' := by
  obtain ⟨A, c, hc, hg, hF⟩ := h
  have c0 : w.cell? ⟨g, 0, none⟩ = some (.slice A l.length c) := by rw [Lib.cell_of_heap hg]; rfl
  have f0 : w.frozen? ⟨g, 0, none⟩ = false := Lib.frozen_of_heap hg 0
  obtain ⟨i0, hi0, _, hsz, _⟩ := info_parts infoU8
  have q1 : (used : Int) ≤ (l.length : Int) := by omega
  have q0 : (0 : Int) ≤ (used : Int) := by omega
  have hcut := cut_from (P := Try.prog) 22 5 .i64 Try.underlying22 hi0 1 hsz A l.length c (used : Int) q0 q1
  have hr := Kd.F_cut (m := used) (c := c) hF hu hc
  rw [Int.toNat_natCast] at hcut
  obtain ⟨A2, hA2⟩ : ∃ A1, A1 = (if c = used then A else (A : Option Addr).map (·.add (used * 1))) := ⟨_, rfl⟩
  replace hr : Kd.F (Kd.int .u8) w (fun k => k ≠ g) A2 (l.drop used).length (l.drop used) := by rw [hA2]; exact hr
  rw [← hA2] at hcut
  have HG := Aside0.mk hg
  have HR := Aside0.mk hr
  have HC := Aside0.mk hc
  have HU := Aside0.mk hu
  clear hg hr hF hc hu hA2 hsz hi0
  go_enter Try.func59, Try.ntmps59
  go_wp2
  go_ret
  refine ⟨rfl, ⟨A2, c - used, ?_, ?_, ?_⟩, ?_⟩
  · rw [List.length_drop]; have := HC.out; have := HU.out; omega
  · rw [heap_setCell_same _ g 0 _ 93 _ HG.out, List.length_drop]; rfl
  · exact Kd.F_far HR.out (p := ⟨g, 0, none⟩) (fun k hk => hk) _
  · exact (Below.refl B w).setCell (p := ⟨g, 0, none⟩) hB _
theorem num_New (A0 : Option Addr) (c0 : Nat) (l0 : List Int) (w : World) (hr0 : Kd.C (Kd.int .u8) w A0 l0.length l0) (hc0 : l0.length ≤ c0) (hl : l0.length < 140737488355328) :
    Calls Try.prog 38 #[.slice A0 l0.length c0] w fun e w' => ∃ g, w.heap.size ≤ g ∧ e = .returned (.pointer (some ⟨g, 0, none⟩)) ∧ Rdr w' g l0 0 ∧ Below w.heap.size w w' := by
  have HR0 := Aside0.mk hr0
  have HC0 := Aside0.mk hc0
  clear hr0 hc0
  go_enter Try.func38, Try.ntmps38
  go_wp2_with fail
  go_at_call 40
  refine (bytes_Clone.calls A0 c0 l0 l0 _ HR0.out HC0.out (by unfold bytes_Clone.f; rw [if_pos hl])).mono ?_
  rintro e w1 ⟨v, rfl, hr, hb⟩
  obtain ⟨A, c, rfl⟩ := Kd.R_slice hr
  have hV := Kd.V_at (Kd.R_V (base' := 0) (Kd.R_elderB hr w1.heap.size (Nat.le_refl _)))
  have HV := Aside0.mk hV
  have HB := Aside0.mk hb
  clear hV hr hb
  go_wp2
  go_ret
  refine ⟨w1.heap.size, HB.out.size, rfl, ⟨A, c, HV.out.2.1, ?_, ?_⟩, HB.out.alloc HB.out.size _⟩
  · exact heap_alloc_new w1 _
  · exact Kd.F_mono (Kd.F_alloc HV.out.2.2 _) (fun k hk => hk.2)
end Go.Proofs.Ytgflafifemhmgaa.Hand
