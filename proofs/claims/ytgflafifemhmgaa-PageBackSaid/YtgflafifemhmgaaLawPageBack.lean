/- The row of PageBack: its struct parameter is opened by hand. -/
import Derived.Test.YtgflafifemhmgaaRows
import Derived.Test.YtgflafifemhmgaaMPgx9
import Derived.Test.YtgflafifemhmgaaPurePageBack
import Derived.Deep.Strs
import Derived.WalkKit
import Derived.ProofKit
import Derived.OpenShut
import Derived.ShutString
import Derived.ChangeOld
import Derived.Below
import Derived.SizedLaws
import Derived.ChangeSame
import Derived.Lib.SmallJoins
namespace Go.Proofs.Ytgflafifemhmgaa.pageBack
open Go.ChangeShapes Go.WideShapes Go.ChangeAt Go.RowKit Go.Joins Go.Proofs.YtgflafifemhmgaaW.PrintWords Go.Proofs.YtgflafifemhmgaaW.PrintLast
set_option linter.unusedVariables false
theorem own : ownKnob Try.prog.godebug = none := by kernel_rfl
theorem laidOut : laidOutB Try.prog = true := by kernel_rfl
theorem cells46 : Try.prog.cellsOf 46 = 3 := by kernel_rfl
def IsRow (k : IntKind) (w : World) (a : Option Addr) (len cap : Nat) (zs : List Int) : Prop :=
  (a = none ∧ len = 0 ∧ cap = 0 ∧ zs = []) ∨
  ∃ x, a = some x ∧ len ≤ cap ∧ cap ≤ maxLen ∧ zs.length = cap ∧ (∀ i, i < zs.length → w.cell? (x.add i) = some (.int k (zs.getD i 0))) ∧ ∀ n ∈ zs, (Lit.int k n).wf = true
set_option maxRecDepth 100000 in
theorem lifted (os : Os) (started : os.Started) (H : Type) (enc : TypeId × Value → H) :
    ReturnsInHanded {} Try.checked os 6 .any (Rows.pageBackSpec.pre6 enc Try.prog Try.f6 Rows.pageBackRow.domain false) (Rows.pageBackSpec.post enc Try.prog Try.f6 false true false false) := by
  refine returnsInHanded_of_change_sized (C := Try.checked) own started (by kernel_rfl) Try.func6
    (ChangeSpec.witness6 (enc := enc) (C := Try.checked) false ⟨#[], #[.int .i64 0, .int .i64 0, .agg #[.slice none 0 0, .int .u8 0, .int .u8 0]], []⟩ 8 (by kernel_rfl) (by kernel_rfl) (by kernel_rfl) (by kernel_rfl)) ?_
  intro W base args ds gs before hval0 hW hcnd hsz0 _
  have hval : ∀ (j : Nat) t v, Try.f6.params[j]? = some t → args[j]? = some v → Value.okWide Try.prog W .any base t v := hval0
  have hW' := hW
  obtain ⟨p, q, hA0, hV, rfl, hfz, hnd⟩ := hW
  have hA : DataW.TrodAll enc Try.prog W 0 (fun _ => true) true Try.f6.params.toList args.toList ds p := hA0
  rw [Try.params6] at hA hval
  obtain ⟨v0, vs0, d0, ds0, p0, q0, hargs, rfl, rfl, h0, r0⟩ := trodAll_cons hA
  obtain ⟨v1, vs1, d1, ds1, p1, q1, rfl, rfl, rfl, h1, r1⟩ := trodAll_cons r0
  obtain ⟨v2, vs2, d2, ds2, p2, q2, rfl, rfl, rfl, h2, r2⟩ := trodAll_cons r1
  obtain ⟨rfl, rfl, rfl⟩ := trodAll_nil r2
  obtain rfl : args = #[v0, v1, v2] := by cases args; simp_all
  obtain ⟨rfl, rfl⟩ := trodVars_none hV
  obtain ⟨a0, rfl, rfl, rfl, w0⟩ := open_int Try.underlying3 (hval 0 3 v0 rfl rfl) h0
  obtain ⟨a1, rfl, rfl, rfl, w1⟩ := open_int Try.underlying3 (hval 1 3 v1 rfl rfl) h1
  have k2 := h2
  have lt2 : ∀ x ∈ p2, x.block < W.heap.size := by obtain ⟨m, hm⟩ := k2; exact DataW.trod_lt m _ _ _ hm
  obtain ⟨cs, rfl, hcs⟩ := okWide_struct Try.underlying46 (hval 2 46 v2 rfl rfl)
  rw [cells46] at hcs
  obtain ⟨c0, c1, c2, rfl⟩ := array3 hcs
  obtain ⟨A2, len2, cap2, z2, a3, a4, hc0, hc1, hc2, hrow, w3, w4⟩ : ∃ (A : Option Addr) (len cap : Nat) (zs : List Int) (a b : Int), c0 = .slice A len cap ∧ c1 = .int .u8 a ∧ c2 = .int .u8 b ∧ IsRow .u8 W A len cap zs ∧ (Lit.int .u8 a).wf = true ∧ (Lit.int .u8 b).wf = true := by
    obtain ⟨fuel, hf⟩ := h2
    obtain ⟨y0, y1, y2, n, -, -, t0, t1, t2⟩ := Go.Deep.trod_struct3 Try.underlying46 hf
    obtain ⟨a, ea, -, wa⟩ := DataW.trod_int Try.underlying5 t1
    obtain ⟨b, eb, -, wb⟩ := DataW.trod_int Try.underlying5 t2
    have ea' : [c1] = [.int .u8 a] := ea
    have eb' : [c2] = [.int .u8 b] := eb
    have s1' : DataW.trod enc Try.prog W 0 (fun _ => true) true n 22 [c0] = some y0 := t0
    rcases open_ints Try.underlying22 Try.underlying5 (by kernel_rfl) s1' with ⟨hcs, _⟩ | ⟨x, l, c, zs, hcs, _, hl, hm, hz, _, hcell, hwz⟩
    · exact ⟨none, 0, 0, [], a, b, (List.cons.inj hcs).1, (List.cons.inj ea').1, (List.cons.inj eb').1, .inl ⟨rfl, rfl, rfl, rfl⟩, wa, wb⟩
    · exact ⟨some x, l, c, zs, a, b, (List.cons.inj hcs).1, (List.cons.inj ea').1, (List.cons.inj eb').1, .inr ⟨_, rfl, hl, hm, by simpa using hz, hcell, hwz⟩, wa, wb⟩
  subst hc0 hc1 hc2
  obtain ⟨l2, rfl, hr2, hm2, hw2, hcp2⟩ := ReadsInt.ofRowC hrow
  clear hA0 hval0 hsz0
  refine (MPg.intarsialaw06_PageBack.calls 3001 a0 a1 A2 _ l2 a3 a4 true W (Kd.C_of_reads (d := (0 : Int)) (h1 := fun _ => rfl) hr2) hcp2 (Pure.back a0 a1 l2 a3 a4 (fun x hx => Crc.wf_byte (hw2 x hx)) (Crc.wf_byte w3) (Crc.wf_byte w4))).mono fun e W' ⟨he, bel⟩ => ?_
  subst he
  exact ⟨_, rfl, _, _, _, [], _, [], hW', trodAll_mk1 (shut_bool Try.underlying4 _), (trodAll_cons_mk (shut_int Try.underlying3 w0) (trodAll_cons_mk (shut_int Try.underlying3 w1) (trodAll_cons_mk (Below.trod laidOut (by kernel_rfl) (of_decide_eq_true (by kernel_rfl)) k2 bel lt2) trodAll_mk0))), rfl, bel.frame _, fun h => by cases h⟩
theorem over : Rows.pageBackRow.holds Try.pinned (OpenSpec.ofChange Rows.pageBackSpec) :=
  OpenClaim.holds_of_wide 6 Try.f6 rfl rfl rfl rfl rfl rfl rfl ⟨rfl, rfl, rfl, rfl, rfl⟩ rfl rfl rfl rfl rfl (by kernel_rfl) Try.func6 (by kernel_rfl)
    (of_decide_eq_true (by kernel_rfl)) (by unfold Func.isWrapper; first | (rw [if_pos (by decide +kernel)]; kernel_rfl) | (rw [if_neg (by decide +kernel)]; exact ⟨rfl, rfl⟩))
    (fun os started H enc _ => lifted os started H enc)
theorem proved : Rows.PageBackSaid := over
#print axioms proved
end Go.Proofs.Ytgflafifemhmgaa.pageBack
namespace Go.Proofs.Ytgflafifemhmgaa
/-- The row, under a short name, for the claim. -/
theorem pageBack_holds : Rows.PageBackSaid := pageBack.proved
end Go.Proofs.Ytgflafifemhmgaa
