/- The row of DirChanges: its struct parameters are opened by hand. -/
import Derived.Test.YtiapecjiedhaoaaRows
import Derived.Test.YtiapecjiedhaoaaChanges
import Derived.Test.YtiapecjiedhaoaaPChanges
import Derived.WalkKit
import Derived.ProofKit
import Derived.OpenShut
import Derived.ShutString
import Derived.ChangeOld
import Derived.Below
import Derived.SizedLaws
import Derived.ChangeSame
import Derived.ChangeMaps5
import Derived.Deep.Strs
import Derived.Lib.SmallJoins
namespace Go.Proofs.Ytiapecjiedhaoaa.dirChanges
open Go.ChangeShapes Go.WideShapes Go.ChangeAt Go.RowKit Go.Joins Go.Proofs.YtiapecjiedhaoaaW.PrintWords Go.Proofs.YtiapecjiedhaoaaW.PrintLast
open Go.ChangeMaps (open_string shut_string)
set_option linter.unusedVariables false
theorem own : ownKnob Try.prog.godebug = none := by kernel_rfl
theorem laidOut : laidOutB Try.prog = true := by kernel_rfl
theorem cells24 : Try.prog.cellsOf 24 = 2 := by kernel_rfl
theorem cells44 : Try.prog.cellsOf 44 = 3 := by kernel_rfl
def IsRow (k : IntKind) (w : World) (a : Option Addr) (len cap : Nat) (zs : List Int) : Prop :=
  (a = none ∧ len = 0 ∧ cap = 0 ∧ zs = []) ∨
  ∃ x, a = some x ∧ len ≤ cap ∧ cap ≤ maxLen ∧ zs.length = cap ∧ (∀ i, i < zs.length → w.cell? (x.add i) = some (.int k (zs.getD i 0))) ∧ ∀ n ∈ zs, (Lit.int k n).wf = true
set_option maxRecDepth 100000 in
theorem lifted (os : Os) (started : os.Started) (H : Type) (enc : TypeId × Value → H) :
    ReturnsInHanded {} Try.checked os 4 .any (Rows.dirChangesSpec.pre6 enc Try.prog Try.f4 Rows.dirChangesRow.domain false) (Rows.dirChangesSpec.post enc Try.prog Try.f4 false true false false) := by
  refine returnsInHanded_of_change_sized (C := Try.checked) own started (by kernel_rfl) Try.func4
    (ChangeSpec.witness6 (enc := enc) (C := Try.checked) false ⟨#[], #[.agg #[.int .i64 0, .slice none 0 0], .agg #[.int .i64 0, .int .i64 0, .int .i64 0], .slice none 0 0], []⟩ 8 (by kernel_rfl) (by kernel_rfl) (by kernel_rfl) (by kernel_rfl)) ?_
  intro W base args ds gs before hval0 hW hcnd hsz0 _
  have hval : ∀ (j : Nat) t v, Try.f4.params[j]? = some t → args[j]? = some v → Value.okWide Try.prog W .any base t v := hval0
  have hW' := hW
  obtain ⟨p, q, hA0, hV, rfl, hfz, hnd⟩ := hW
  have hA : DataW.TrodAll enc Try.prog W 0 (fun _ => true) true Try.f4.params.toList args.toList ds p := hA0
  rw [Try.params4] at hA hval
  obtain ⟨v0, vs0, d0, ds0, p0, q0, hargs, rfl, rfl, h0, r0⟩ := trodAll_cons hA
  obtain ⟨v1, vs1, d1, ds1, p1, q1, rfl, rfl, rfl, h1, r1⟩ := trodAll_cons r0
  obtain ⟨v2, vs2, d2, ds2, p2, q2, rfl, rfl, rfl, h2, r2⟩ := trodAll_cons r1
  obtain ⟨rfl, rfl, rfl⟩ := trodAll_nil r2
  obtain rfl : args = #[v0, v1, v2] := by cases args; simp_all
  obtain ⟨rfl, rfl⟩ := trodVars_none hV
  have k0 := h0
  have lt0 : ∀ x ∈ p0, x.block < W.heap.size := by obtain ⟨m, hm⟩ := k0; exact DataW.trod_lt m _ _ _ hm
  have k1 := h1
  have lt1 : ∀ x ∈ p1, x.block < W.heap.size := by obtain ⟨m, hm⟩ := k1; exact DataW.trod_lt m _ _ _ hm
  have k2 := h2
  have lt2 : ∀ x ∈ p2, x.block < W.heap.size := by obtain ⟨m, hm⟩ := k2; exact DataW.trod_lt m _ _ _ hm
  obtain ⟨cs0, rfl, hcs0⟩ := okWide_struct Try.underlying24 (hval 0 24 v0 rfl rfl)
  rw [cells24] at hcs0
  obtain ⟨x0, y0, rfl⟩ := array2 hcs0
  obtain ⟨a0, A0, len0, cap0, z0, hx0, hy0, hrow0⟩ : ∃ (a : Int) (A : Option Addr) (len cap : Nat) (zs : List Int), x0 = .int .i64 a ∧ y0 = .slice A len cap ∧ IsRow .i64 W A len cap zs := by
    obtain ⟨fuel, hf⟩ := h0
    obtain ⟨u0, u1, n, -, -, t0, t1⟩ := trod_struct2 Try.underlying24 hf
    obtain ⟨a, ea, -⟩ := DataW.trod_int Try.underlying3 t0
    have ea' : [x0] = [.int .i64 a] := ea
    have s1' : DataW.trod enc Try.prog W 0 (fun _ => true) true n 22 [y0] = some u1 := t1
    rcases open_ints Try.underlying22 Try.underlying3 (by kernel_rfl) s1' with ⟨hcs, _⟩ | ⟨x, l, c, zs, hcs, _, hl, hm, hz, _, hcell, hwz⟩
    · exact ⟨a, none, 0, 0, [], (List.cons.inj ea').1, (List.cons.inj hcs).1, .inl ⟨rfl, rfl, rfl, rfl⟩⟩
    · exact ⟨a, some x, l, c, zs, (List.cons.inj ea').1, (List.cons.inj hcs).1, .inr ⟨_, rfl, hl, hm, by simpa using hz, hcell, hwz⟩⟩
  subst hx0 hy0
  obtain ⟨l0, rfl, hr0, hm0, hw0, hcp0⟩ := ReadsInt.ofRowC hrow0
  obtain ⟨cs1, rfl, hcs1⟩ := okWide_struct Try.underlying44 (hval 1 44 v1 rfl rfl)
  rw [cells44] at hcs1
  obtain ⟨x1, y1, z1, rfl⟩ := array3 hcs1
  obtain ⟨a1, b1, c1, hx1, hy1, hz1, wa1, wb1, wc1⟩ : ∃ (a b c : Int), x1 = .int .i64 a ∧ y1 = .int .i64 b ∧ z1 = .int .i64 c ∧ (Lit.int .i64 a).wf = true ∧ (Lit.int .i64 b).wf = true ∧ (Lit.int .i64 c).wf = true := by
    obtain ⟨fuel, hf⟩ := h1
    obtain ⟨u0, u1, u2, n, -, -, t0, t1, t2⟩ := Go.Deep.trod_struct3 Try.underlying44 hf
    obtain ⟨a, ea, -, wa⟩ := DataW.trod_int Try.underlying3 t0
    obtain ⟨b, eb, -, wb⟩ := DataW.trod_int Try.underlying3 t1
    obtain ⟨c, ec, -, wc⟩ := DataW.trod_int Try.underlying3 t2
    have ea' : [x1] = [.int .i64 a] := ea
    have eb' : [y1] = [.int .i64 b] := eb
    have ec' : [z1] = [.int .i64 c] := ec
    exact ⟨a, b, c, (List.cons.inj ea').1, (List.cons.inj eb').1, (List.cons.inj ec').1, wa, wb, wc⟩
  subst hx1 hy1 hz1
  obtain ⟨B2, len2, cap2, rfl⟩ := okWide_slice Try.underlying27 (hval 2 27 v2 rfl rfl)
  obtain ⟨zs2, hrow2⟩ : ∃ zs, IsRow .u8 W B2 len2 cap2 zs := by
    obtain ⟨fuel, hf⟩ := h2
    rcases open_ints Try.underlying27 Try.underlying5 (by kernel_rfl) hf with ⟨hcs, _⟩ | ⟨x, l, c, zs, hcs, _, hl, hm, hz, _, hcell, hwz⟩
    · simp [Value.cells] at hcs
      obtain ⟨rfl, rfl, rfl⟩ := hcs
      exact ⟨[], .inl ⟨rfl, rfl, rfl, rfl⟩⟩
    · simp [Value.cells] at hcs
      obtain ⟨rfl, rfl, rfl⟩ := hcs
      exact ⟨zs, .inr ⟨_, rfl, hl, hm, by simpa using hz, hcell, hwz⟩⟩
  obtain ⟨b2, rfl, hr2, hm2, hw2, hcp2⟩ := ReadsInt.ofRowC hrow2
  clear hA0 hval0 hsz0
  obtain ⟨k, hk⟩ := Dirs.changes a0 l0 a1 b1 c1 b2 (fun x hx => Dirs.byte_wf (hw2 x hx))
  refine (MDir.intarsialaw11_DirChanges.calls k a0 A0 _ l0 a1 b1 c1 B2 _ b2 true W (Kd.C_of_reads (d := (0 : Int)) (h1 := fun _ => rfl) hr0) hcp0 (Kd.C_of_reads (d := (0 : Int)) (h1 := fun _ => rfl) hr2) hcp2 hk rfl).mono fun e W' ⟨he, bel⟩ => ?_
  subst he
  exact ⟨_, rfl, _, _, _, [], _, [], hW', trodAll_mk1 (shut_bool Try.underlying4 _), (trodAll_cons_mk (Below.trod laidOut (by kernel_rfl) (of_decide_eq_true (by kernel_rfl)) k0 bel lt0) (trodAll_cons_mk (Below.trod laidOut (by kernel_rfl) (of_decide_eq_true (by kernel_rfl)) k1 bel lt1) (trodAll_cons_mk (Below.trod laidOut (by kernel_rfl) (of_decide_eq_true (by kernel_rfl)) k2 bel lt2) trodAll_mk0))), rfl, bel.frame _, fun h => by cases h⟩
theorem over : Rows.dirChangesRow.holds Try.pinned (OpenSpec.ofChange Rows.dirChangesSpec) :=
  OpenClaim.holds_of_wide 4 Try.f4 rfl rfl rfl rfl rfl rfl rfl ⟨rfl, rfl, rfl, rfl, rfl⟩ rfl rfl rfl rfl rfl (by kernel_rfl) Try.func4 (by kernel_rfl)
    (of_decide_eq_true (by kernel_rfl)) (by unfold Func.isWrapper; first | (rw [if_pos (by decide +kernel)]; kernel_rfl) | (rw [if_neg (by decide +kernel)]; exact ⟨rfl, rfl⟩))
    (fun os started H enc _ => lifted os started H enc)
theorem proved : Rows.DirChangesSaid := over
#print axioms proved
end Go.Proofs.Ytiapecjiedhaoaa.dirChanges
namespace Go.Proofs.Ytiapecjiedhaoaa
/-- The row, under a short name, for the claim. -/
theorem dirChanges_holds : Rows.DirChangesSaid := dirChanges.proved
end Go.Proofs.Ytiapecjiedhaoaa
