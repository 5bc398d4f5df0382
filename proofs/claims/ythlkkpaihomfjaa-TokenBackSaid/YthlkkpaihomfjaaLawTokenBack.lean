/- The row of TokenBack: its struct parameter is opened by hand. -/
import Derived.Test.YthlkkpaihomfjaaRows
import Derived.Test.YthlkkpaihomfjaaMTokx9
import Derived.Test.YthlkkpaihomfjaaTags
import Derived.WalkKit
import Derived.ProofKit
import Derived.OpenShut
import Derived.ShutString
import Derived.ChangeOld
import Derived.Below
import Derived.SizedLaws
import Derived.ChangeSame
import Derived.Lib.SmallJoins
namespace Go.Proofs.Ythlkkpaihomfjaa.tokenBack
open Go.ChangeShapes Go.WideShapes Go.ChangeAt Go.RowKit Go.Joins Go.Proofs.YthlkkpaihomfjaaW.PrintWords Go.Proofs.YthlkkpaihomfjaaW.PrintLast
set_option linter.unusedVariables false
theorem own : ownKnob Try.prog.godebug = none := by kernel_rfl
theorem laidOut : laidOutB Try.prog = true := by kernel_rfl
theorem cells31 : Try.prog.cellsOf 31 = 3 := by kernel_rfl
theorem cells29 : Try.prog.cellsOf 29 = 2 := by kernel_rfl
theorem byte_of {x : Int} (h : (Lit.int .u8 x).wf = true) : 0 ≤ x ∧ x ≤ 255 := by
  have := of_decide_eq_true (p := IntKind.u8.min ≤ x ∧ x ≤ IntKind.u8.max) (by simpa [Lit.wf] using h)
  have h1 : IntKind.u8.min = 0 := by decide
  have h2 : IntKind.u8.max = 255 := by decide
  omega
def IsRow (k : IntKind) (w : World) (a : Option Addr) (len cap : Nat) (zs : List Int) : Prop :=
  (a = none ∧ len = 0 ∧ cap = 0 ∧ zs = []) ∨
  ∃ x, a = some x ∧ len ≤ cap ∧ cap ≤ maxLen ∧ zs.length = cap ∧ (∀ i, i < zs.length → w.cell? (x.add i) = some (.int k (zs.getD i 0))) ∧ ∀ n ∈ zs, (Lit.int k n).wf = true
set_option maxRecDepth 100000 in
theorem lifted (os : Os) (started : os.Started) (H : Type) (enc : TypeId × Value → H) :
    ReturnsInHanded {} Try.checked os 6 .any (Rows.tokenBackSpec.pre6 enc Try.prog Try.f6 Rows.tokenBackRow.domain false) (Rows.tokenBackSpec.post enc Try.prog Try.f6 false true false false) := by
  refine returnsInHanded_of_change_sized (C := Try.checked) own started (by kernel_rfl) Try.func6
    (ChangeSpec.witness6 (enc := enc) (C := Try.checked) false ⟨#[], #[.int .u8 0, .int .i64 0, .agg #[.int .i64 0, .slice none 0 0, .bool false]], []⟩ 8 (by kernel_rfl) (by kernel_rfl) (by kernel_rfl) (by kernel_rfl)) ?_
  intro W base args ds gs before hval0 hW hcnd hsz0 _
  have hval : ∀ (j : Nat) t v, Try.f6.params[j]? = some t → args[j]? = some v → Value.okWide Try.prog W .any base t v := hval0
  have hW' := hW
  obtain ⟨p, q, hA0, hV, rfl, hfz, hnd⟩ := hW
  have hA : DataW.TrodAll enc Try.prog W 0 (fun _ => true) true Try.f6.params.toList args.toList ds p := hA0
  rw [Try.params6] at hA hval
  obtain ⟨v0, vs0, d0, ds0, p0, q0, hargs, rfl, rfl, h0, r0⟩ := trodAll_cons hA
  obtain ⟨v1, vs1, d1, ds1, p1, q1, rfl, rfl, rfl, h1, r1⟩ := trodAll_cons r0
  obtain ⟨v2, vs2, d2, ds2, p2, q2, rfl, rfl, rfl, h2, r2⟩ := trodAll_cons r1
  obtain ⟨rfl, rfl, rfl⟩ := trodAll_nil r2
  obtain rfl : args = #[v0, v1, v2] := by cases args; simp_all
  obtain ⟨rfl, rfl⟩ := trodVars_none hV
  obtain ⟨a0, rfl, rfl, rfl, w0⟩ := open_int Try.underlying5 (hval 0 5 v0 rfl rfl) h0
  obtain ⟨a1, rfl, rfl, rfl, w1⟩ := open_int Try.underlying3 (hval 1 3 v1 rfl rfl) h1
  have k2 := h2
  have lt2 : ∀ x ∈ p2, x.block < W.heap.size := by obtain ⟨m, hm⟩ := k2; exact DataW.trod_lt m _ _ _ hm
  obtain ⟨cs, rfl, hcs⟩ := okWide_struct Try.underlying31 (hval 2 31 v2 rfl rfl)
  rw [cells31] at hcs
  obtain ⟨c0, c1, c2, rfl⟩ := array3 hcs
  obtain ⟨a2, A2, len2, cap2, z2, b2, hc0, hc1, hc2, hrow⟩ : ∃ (a : Int) (A : Option Addr) (len cap : Nat) (zs : List Int) (b : Bool), c0 = .int .i64 a ∧ c1 = .slice A len cap ∧ c2 = .bool b ∧ IsRow .i64 W A len cap zs := by
    obtain ⟨fuel, hf⟩ := h2
    obtain ⟨y0, y1, n, -, -, t0, t1⟩ := trod_struct2 Try.underlying31 hf
    obtain ⟨z0, z1, n2, -, -, s0, s1⟩ := trod_struct2 Try.underlying29 t0
    obtain ⟨b, eb, -⟩ := DataW.trod_bool Try.underlying4 t1
    obtain ⟨a, ea, -⟩ := DataW.trod_int Try.underlying3 s0
    have eb' : [c2] = [.bool b] := eb
    have ea' : [c0] = [.int .i64 a] := ea
    have s1' : DataW.trod enc Try.prog W 0 (fun _ => true) true n2 22 [c1] = some z1 := s1
    rcases open_ints Try.underlying22 Try.underlying3 (by kernel_rfl) s1' with ⟨hcs, _⟩ | ⟨x, l, c, zs, hcs, _, hl, hm, hz, _, hcell, hwz⟩
    · exact ⟨a, none, 0, 0, [], b, (List.cons.inj ea').1, (List.cons.inj hcs).1, (List.cons.inj eb').1, .inl ⟨rfl, rfl, rfl, rfl⟩⟩
    · exact ⟨a, some x, l, c, zs, b, (List.cons.inj ea').1, (List.cons.inj hcs).1, (List.cons.inj eb').1, .inr ⟨_, rfl, hl, hm, by simpa using hz, hcell, hwz⟩⟩
  subst hc0 hc1 hc2
  obtain ⟨l2, rfl, hr2, hm2, hw2, hcp2⟩ := ReadsInt.ofRowC hrow
  clear hA0 hval0 hsz0
  refine (MTok.intarsialaw23_TokenBack.calls 40 a0 a1 a2 A2 _ l2 b2 true W (Kd.C_of_reads (d := (0 : Int)) (h1 := fun _ => rfl) hr2) hcp2 (Tags.back a0 a1 a2 l2 b2 (byte_of w0))).mono fun e W' ⟨he, bel⟩ => ?_
  subst he
  exact ⟨_, rfl, _, _, _, [], _, [], hW', trodAll_mk1 (shut_bool Try.underlying4 _), (trodAll_cons_mk (shut_int Try.underlying5 w0) (trodAll_cons_mk (shut_int Try.underlying3 w1) (trodAll_cons_mk (Below.trod laidOut (by kernel_rfl) (of_decide_eq_true (by kernel_rfl)) k2 bel lt2) trodAll_mk0))), rfl, bel.frame _, fun h => by cases h⟩
theorem over : Rows.tokenBackRow.holds Try.pinned (OpenSpec.ofChange Rows.tokenBackSpec) :=
  OpenClaim.holds_of_wide 6 Try.f6 rfl rfl rfl rfl rfl rfl rfl ⟨rfl, rfl, rfl, rfl, rfl⟩ rfl rfl rfl rfl rfl (by kernel_rfl) Try.func6 (by kernel_rfl)
    (of_decide_eq_true (by kernel_rfl)) (by unfold Func.isWrapper; first | (rw [if_pos (by decide +kernel)]; kernel_rfl) | (rw [if_neg (by decide +kernel)]; exact ⟨rfl, rfl⟩))
    (fun os started H enc _ => lifted os started H enc)
theorem proved : Rows.TokenBackSaid := over
#print axioms proved
end Go.Proofs.Ythlkkpaihomfjaa.tokenBack
namespace Go.Proofs.Ythlkkpaihomfjaa
/-- The row, under a short name, for the claim. -/
theorem tokenBack_holds : Rows.TokenBackSaid := tokenBack.proved
end Go.Proofs.Ythlkkpaihomfjaa
