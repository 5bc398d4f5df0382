/- The walk of the law CheckExprs. -/
import Derived.Test.YtlbcnkmojoinfaaHandF9
namespace Go.Proofs.Ytlbcnkmojoinfaa.MCk
open Go.RowKit Go.Maps Go.Proofs.Ytlbcnkmojoinfaa.Hand Go.Proofs.Ytlbcnkmojoinfaa.ChecksV Go.Proofs.YtlbcnkmojoinfaaW.PrintWords Go.Proofs.YtlbcnkmojoinfaaW.PrintLast Go.Proofs.YtlbcnkmojoinfaaW.PrintMore
set_option linter.unusedVariables false
set_option linter.unusedSimpArgs false
theorem below_drawn {w w' : World} (h : Drawn0 w w') : Below w.heap.size w w' := by
  obtain ⟨nd, rfl⟩ := h
  exact pw_below_drewN (Below.refl _ _) _
set_option maxHeartbeats 8000000 in
set_option maxRecDepth 100000 in
theorem CheckExprs_calls (l : List S80) (A : Option Addr) (c : Nat) (b : List ByteArray) (B : Option Addr) (d : Nat) (w : World) (hC : Kd.C k80 w A l.length l) (hc : l.length ≤ c) (hD : Kd.C Kd.string w B b.length b) (hd : b.length ≤ d) :
    Calls Try.prog 4 #[.slice A l.length c, .slice B b.length d] w fun e w' => e = .returned (.bool true) ∧ Below w.heap.size w w' := by
  have HC := Aside0.mk hC
  have HL := Aside0.mk hc
  have HD := Aside0.mk hD
  have HM := Aside0.mk hd
  clear hC hc hD hd
  go_enter Try.func4, Try.ntmps4
  by_cases h1 : l.length ≤ 40
  · have b1 : decide ((40 : Int) < (l.length : Int)) = false := decide_eq_false (by omega)
    by_cases h2 : b.length ≤ 30
    · have b2 : decide ((30 : Int) < (b.length : Int)) = false := decide_eq_false (by omega)
      have H1 := Aside0.mk h1
      have H2 := Aside0.mk h2
      clear h1 h2
      go_wp2_with fail
      go_at_call 16
      refine (check_Expr.calls 101001 A c l B d b (exprT b l) w HC.out HL.out HD.out HM.out (expr_is l b (by have := H1.out; omega) (by have := H2.out; omega))).mono ?_
      rintro ex w1 ⟨rfl, hb⟩
      have HB := Aside0.mk hb
      clear hb
      go_wp2_with fail
      go_at_call 17
      refine (intarsiaref17_Expr.calls 101001 A c l B d b (exprT b l) w1 (Kd.C_below HC.out HB.out) HL.out (Kd.C_below HD.out HB.out) HM.out (rexpr_is l b (by have := H1.out; omega) (by have := H2.out; omega))).mono ?_
      rintro ex w2 ⟨rfl, hb⟩
      have HB2 := Aside0.mk (below_step HB.out (below_drawn hb))
      clear hb
      have hee : (exprT b l == exprT b l) = true := beq_self_eq_true _
      go_wp2_with fail
      go_at_call 8
      refine (awake_calls w2).mono ?_
      rintro ex w3 ⟨rfl, hb⟩
      have HB3 := Aside0.mk (below_step HB2.out hb)
      clear hb
      go_wp2_with fail
      go_ret
      exact ⟨rfl, HB3.out⟩
    · have b2 : decide ((30 : Int) < (b.length : Int)) = true := decide_eq_true (by omega)
      clear h1 h2
      go_wp2_with fail
      go_at_call 8
      refine (awake_calls w).mono ?_
      rintro ex w1 ⟨rfl, hb⟩
      have HB := Aside0.mk hb
      clear hb
      go_wp2_with fail
      go_ret
      exact ⟨rfl, HB.out⟩
  · have b1 : decide ((40 : Int) < (l.length : Int)) = true := decide_eq_true (by omega)
    clear h1
    go_wp2_with fail
    go_at_call 8
    refine (awake_calls w).mono ?_
    rintro ex w1 ⟨rfl, hb⟩
    have HB := Aside0.mk hb
    clear hb
    go_wp2_with fail
    go_ret
    exact ⟨rfl, HB.out⟩
end Go.Proofs.Ytlbcnkmojoinfaa.MCk
