/- The contract of slices.Grow of nothing. -/
import Derived.Test.YtgflafifemhmgaaHandC3
import Derived.Test.YtgflafifemhmgaaWZeros
namespace Go.Proofs.Ytgflafifemhmgaa.Hand
open Go.RowKit Go.Proofs.YtgflafifemhmgaaW.PrintWords Go.Proofs.YtgflafifemhmgaaW.PrintLast Go.Proofs.YtgflafifemhmgaaW.PrintMore
/-- What slices.Grow tells of no numbers. -/
def slices_Grow_int_int.f (l : List Int) (n : Int) : Option (List Int) := if l = [] ∧ 0 ≤ n ∧ n < 1000000 then some [] else none
set_option maxHeartbeats 2000000 in
set_option maxRecDepth 100000 in
theorem infoI64 : (Try.prog.info? 3).map (fun i => (i.zero, i.size, i.bytes)) = some (some (.int .i64 0), 1, 8) := by kernel_rfl
set_option maxHeartbeats 2000000 in
set_option maxRecDepth 100000 in
theorem slices_Grow_int_int.calls (A0 : Option Addr) (c0 : Nat) (l0 : List Int) (a1 : Int) (r : List Int) (w : World) (hr0 : Kd.C (Kd.int .i64) w A0 l0.length l0) (hc0 : l0.length ≤ c0) (h : slices_Grow_int_int.f l0 a1 = some r) (h0 : c0 = 0 := by rfl) (hA : A0 = none := by rfl) :
    Calls Try.prog 62 #[.slice A0 l0.length c0, .int .i64 a1] w fun e w' => ∃ v0_ : Value, e = .returned (v0_) ∧ Kd.R (Kd.int .i64) 3 w' w.heap.size (fun _ => True) v0_ r ∧ Below w.heap.size w w' := by
  unfold slices_Grow_int_int.f at h
  by_cases hc : l0 = [] ∧ 0 ≤ a1 ∧ a1 < 1000000
  · rw [if_pos hc] at h
    obtain rfl := Option.some.inj h
    obtain ⟨rfl, hn0, hn1⟩ := hc
    subst h0 hA
    have b1 : decide (a1 < 0) = false := decide_eq_false (by omega)
    have H0 := Aside0.mk hn0
    have H1 := Aside0.mk hn1
    clear hn0 hn1
    clear hr0 hc0 h
    obtain ⟨i0, hi, hz0, hz1, hz2⟩ := info_parts infoI64
    go_enter Try.func62, Try.ntmps62
    have e1 : wrap64 a1 = a1 := by unfold wrap64; have := H0.out; have := H1.out; omega
    have q0 : (0 : Int) ≤ 0 := Int.le_refl 0
    go_wp2_with (first
      | (at_builtin; go_loud (refine Kd.R_append_zeros (Kd.int .i64) (w0 := w) w.heap.size rfl (.tmp 20) (.tmp 21) 35 3 3 (.int .i64 0) 8 rfl Try.underlying35 Try.underlying3 infoI64 rfl (by decide) (by omega) (.slice none 0 0) [] 0 (wrap64 a1) (fun _ => True) rfl rfl rfl (fun _ _ => trivial) (Kd.R_nil _ _ _ _ _) (by rw [e1]; exact H0.out) (Below.refl _ _) (Nat.le_refl _) (by have := H1.out; have := H0.out; rw [e1]; simp; omega) ?_; intro v1 w1 hr1 hb1 hg1 hat; obtain ⟨A1, c1, rfl⟩ := Kd.R_slice hr1; have HR1 := Aside0.mk hr1; have HB1 := Aside0.mk hb1; clear hr1 hb1 hg1 hat; have hcut := cut_to (P := Try.prog) 35 3 .i64 Try.underlying35 hi A1 (([] : List Int) ++ List.replicate (wrap64 a1).toNat 0).length c1 0 q0 (by omega) (Kd.R_reads' HR1.out).2.1))
      | fail)
    · go_ret
      exact ⟨_, rfl, Kd.R_take (m := 0) HR1.out (Nat.zero_le _), HB1.out⟩
    · go_ret
      exact ⟨_, rfl, Kd.R_nil _ _ _ _ _, Below.refl _ _⟩
  · rw [if_neg hc] at h
    cases h
end Go.Proofs.Ytgflafifemhmgaa.Hand
