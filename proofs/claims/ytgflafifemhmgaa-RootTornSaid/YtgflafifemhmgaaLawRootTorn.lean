/- The row of RootTorn: its parameters are opened by hand. -/
import Derived.Test.YtgflafifemhmgaaRows
import Derived.Test.YtgflafifemhmgaaTorn
import Derived.WalkKit
import Derived.ProofKit
import Derived.OpenShut
import Derived.ShutString
import Derived.ChangeOld
import Derived.Below
import Derived.SizedLaws
import Derived.ChangeSame
import Derived.Deep.Strs
import Derived.Lib.SmallJoins
namespace Go.Proofs.Ytgflafifemhmgaa.rootTorn
open Go.ChangeShapes Go.WideShapes Go.ChangeAt Go.RowKit Go.Joins Go.Proofs.Ytgflafifemhmgaa.Crc Go.Proofs.Ytgflafifemhmgaa.RootV Go.Proofs.YtgflafifemhmgaaW.PrintWords Go.Proofs.YtgflafifemhmgaaW.PrintLast
set_option linter.unusedVariables false
theorem own : ownKnob Try.prog.godebug = none := by kernel_rfl
theorem laidOut : laidOutB Try.prog = true := by kernel_rfl
theorem cells52 : Try.prog.cellsOf 52 = 6 := by kernel_rfl
def IsRow (k : IntKind) (w : World) (a : Option Addr) (len cap : Nat) (zs : List Int) : Prop :=
  (a = none ∧ len = 0 ∧ cap = 0 ∧ zs = []) ∨
  ∃ x, a = some x ∧ len ≤ cap ∧ cap ≤ maxLen ∧ zs.length = cap ∧ (∀ i, i < zs.length → w.cell? (x.add i) = some (.int k (zs.getD i 0))) ∧ ∀ n ∈ zs, (Lit.int k n).wf = true
theorem array6 {α : Type} {cs : Array α} (h : cs.size = 6) : ∃ c0 c1 c2 c3 c4 c5, cs = #[c0, c1, c2, c3, c4, c5] := by
  obtain ⟨l⟩ := cs
  match l, h with
  | [c0, c1, c2, c3, c4, c5], _ => exact ⟨c0, c1, c2, c3, c4, c5, rfl⟩
theorem trod_struct6 {H : Type} {enc : TypeId × Value → H} {P : Program} {w : World} {base : Nat} {spare : Nat → Bool} {held : Bool} {t : TypeId} {f0 f1 f2 f3 f4 f5 : Field} {fuel : Nat} {cs : List Value} {x : DataW H × List MemPlace} (ht : P.underlying t = some (.struct #[f0, f1, f2, f3, f4, f5])) (h : DataW.trod enc P w base spare held fuel t cs = some x) :
    ∃ y0 y1 y2 y3 y4 y5 n, DataW.trod enc P w base spare held n f0.type ((cs.drop f0.offset).take (P.cellsOf f0.type)) = some y0 ∧
      DataW.trod enc P w base spare held n f1.type ((cs.drop f1.offset).take (P.cellsOf f1.type)) = some y1 ∧ DataW.trod enc P w base spare held n f2.type ((cs.drop f2.offset).take (P.cellsOf f2.type)) = some y2 ∧
      DataW.trod enc P w base spare held n f3.type ((cs.drop f3.offset).take (P.cellsOf f3.type)) = some y3 ∧ DataW.trod enc P w base spare held n f4.type ((cs.drop f4.offset).take (P.cellsOf f4.type)) = some y4 ∧
      DataW.trod enc P w base spare held n f5.type ((cs.drop f5.offset).take (P.cellsOf f5.type)) = some y5 := by
  obtain ⟨xs, n, _, rfl, hl, hlen, hf⟩ := DataW.trod_struct ht h
  match xs, hlen with
  | [y0, y1, y2, y3, y4, y5], _ => exact ⟨y0, y1, y2, y3, y4, y5, n, by simpa using hf 0 f0 rfl, by simpa using hf 1 f1 rfl, by simpa using hf 2 f2 rfl, by simpa using hf 3 f3 rfl, by simpa using hf 4 f4 rfl, by simpa using hf 5 f5 rfl⟩
theorem open_row {H : Type} {enc : TypeId × Value → H} {W : World} {m : Nat} {x : Value} {u : DataW H × List MemPlace} (h : DataW.trod enc Try.prog W 0 (fun _ => true) true m 35 [x] = some u) : ∃ A len cap zs, x = .slice A len cap ∧ IsRow .i64 W A len cap zs := by
  rcases open_ints Try.underlying35 Try.underlying3 (by kernel_rfl) h with ⟨hcs, _⟩ | ⟨x, l, c, zs, hcs, _, hl, hm, hz, _, hcell, hwz⟩
  · exact ⟨none, 0, 0, [], (List.cons.inj hcs).1, .inl ⟨rfl, rfl, rfl, rfl⟩⟩
  · exact ⟨some x, l, c, zs, (List.cons.inj hcs).1, .inr ⟨_, rfl, hl, hm, by simpa using hz, hcell, hwz⟩⟩
theorem wf_i64 {x : Int} (h : (Lit.int .i64 x).wf = true) : -9223372036854775808 ≤ x ∧ x < 9223372036854775808 := by
  have := of_decide_eq_true (p := IntKind.i64.min ≤ x ∧ x ≤ IntKind.i64.max) (by simpa [Lit.wf] using h)
  have h1 : IntKind.i64.min = -9223372036854775808 := by decide
  have h2 : IntKind.i64.max = 9223372036854775807 := by decide
  omega
theorem wf_u16 {x : Int} (h : (Lit.int .u16 x).wf = true) : 0 ≤ x ∧ x < 65536 := by
  have := of_decide_eq_true (p := IntKind.u16.min ≤ x ∧ x ≤ IntKind.u16.max) (by simpa [Lit.wf] using h)
  have h1 : IntKind.u16.min = 0 := by decide
  have h2 : IntKind.u16.max = 65535 := by decide
  omega
set_option maxRecDepth 100000 in
theorem lifted (os : Os) (started : os.Started) (H : Type) (enc : TypeId × Value → H) :
    ReturnsInHanded {} Try.checked os 11 .any (Rows.rootTornSpec.pre6 enc Try.prog Try.f11 Rows.rootTornRow.domain false) (Rows.rootTornSpec.post enc Try.prog Try.f11 false true false false) := by
  refine returnsInHanded_of_change_sized (C := Try.checked) own started (by kernel_rfl) Try.func11
    (ChangeSpec.witness6 (enc := enc) (C := Try.checked) false ⟨#[], #[.agg #[.int .i64 0, .int .i64 0, .int .i64 0, .int .i64 0, .slice none 0 0, .slice none 0 0], .agg #[.int .i64 0, .int .i64 0, .int .i64 0, .int .i64 0, .slice none 0 0, .slice none 0 0], .int .u16 0], []⟩ 8 (by kernel_rfl) (by kernel_rfl) (by kernel_rfl) (by kernel_rfl)) ?_
  intro W base args ds gs before hval0 hW hcnd hsz0 _
  have hval : ∀ (j : Nat) t v, Try.f11.params[j]? = some t → args[j]? = some v → Value.okWide Try.prog W .any base t v := hval0
  have hW' := hW
  obtain ⟨p, q, hA0, hV, rfl, hfz, hnd⟩ := hW
  have hA : DataW.TrodAll enc Try.prog W 0 (fun _ => true) true Try.f11.params.toList args.toList ds p := hA0
  rw [Try.params11] at hA hval
  obtain ⟨v0, vs0, d0, ds0, p0, q0, hargs, rfl, rfl, h0, r0⟩ := trodAll_cons hA
  obtain ⟨v1, vs1, d1, ds1, p1, q1, rfl, rfl, rfl, h1, r1⟩ := trodAll_cons r0
  obtain ⟨v2, vs2, d2, ds2, p2, q2, rfl, rfl, rfl, h2, r2⟩ := trodAll_cons r1
  obtain ⟨rfl, rfl, rfl⟩ := trodAll_nil r2
  obtain rfl : args = #[v0, v1, v2] := by cases args; simp_all
  obtain ⟨rfl, rfl⟩ := trodVars_none hV
  have k0 := h0
  have lt0 : ∀ x ∈ p0, x.block < W.heap.size := by obtain ⟨m, hm⟩ := k0; exact DataW.trod_lt m _ _ _ hm
  have k1 := h1
  have lt1 : ∀ x ∈ p1, x.block < W.heap.size := by obtain ⟨m, hm⟩ := k1; exact DataW.trod_lt m _ _ _ hm
  have k2 := h2
  have lt2 : ∀ x ∈ p2, x.block < W.heap.size := by obtain ⟨m, hm⟩ := k2; exact DataW.trod_lt m _ _ _ hm
  obtain ⟨cs0, rfl, hcs0⟩ := okWide_struct Try.underlying52 (hval 0 52 v0 rfl rfl)
  rw [cells52] at hcs0
  obtain ⟨x00, x01, x02, x03, x04, x05, rfl⟩ := array6 hcs0
  obtain ⟨e0, b0, n0, s0, A0, lenA0, capA0, zA0, B0, lenB0, capB0, zB0, hx00, hx01, hx02, hx03, hx04, hx05, hrowA0, hrowB0, we0⟩ : ∃ (e b n s : Int) (A : Option Addr) (lenA capA : Nat) (zA : List Int) (B : Option Addr) (lenB capB : Nat) (zB : List Int), x00 = .int .i64 e ∧ x01 = .int .i64 b ∧ x02 = .int .i64 n ∧ x03 = .int .i64 s ∧ x04 = .slice A lenA capA ∧ x05 = .slice B lenB capB ∧ IsRow .i64 W A lenA capA zA ∧ IsRow .i64 W B lenB capB zB ∧ (Lit.int .i64 e).wf = true := by
    obtain ⟨fuel, hf⟩ := h0
    obtain ⟨u0, u1, u2, u3, u4, u5, m, t0, t1, t2, t3, t4, t5⟩ := trod_struct6 Try.underlying52 hf
    obtain ⟨e, ee, -, wee⟩ := DataW.trod_int Try.underlying3 t0
    obtain ⟨b, eb, -⟩ := DataW.trod_int Try.underlying3 t1
    obtain ⟨n, en, -⟩ := DataW.trod_int Try.underlying3 t2
    obtain ⟨s, es, -⟩ := DataW.trod_int Try.underlying3 t3
    have ee' : [x00] = [.int .i64 e] := ee
    have eb' : [x01] = [.int .i64 b] := eb
    have en' : [x02] = [.int .i64 n] := en
    have es' : [x03] = [.int .i64 s] := es
    obtain ⟨A, lenA, capA, zA, hA4, hrA⟩ := open_row t4
    obtain ⟨B, lenB, capB, zB, hB5, hrB⟩ := open_row t5
    exact ⟨e, b, n, s, A, lenA, capA, zA, B, lenB, capB, zB, (List.cons.inj ee').1, (List.cons.inj eb').1, (List.cons.inj en').1, (List.cons.inj es').1, hA4, hB5, hrA, hrB, wee⟩
  subst hx00 hx01 hx02 hx03 hx04 hx05
  obtain ⟨lA0, rfl, hrA0, hmA0, hwA0, hcpA0⟩ := ReadsInt.ofRowC hrowA0
  obtain ⟨lB0, rfl, hrB0, hmB0, hwB0, hcpB0⟩ := ReadsInt.ofRowC hrowB0
  obtain ⟨cs1, rfl, hcs1⟩ := okWide_struct Try.underlying52 (hval 1 52 v1 rfl rfl)
  rw [cells52] at hcs1
  obtain ⟨x10, x11, x12, x13, x14, x15, rfl⟩ := array6 hcs1
  obtain ⟨e1, b1, n1, s1, A1, lenA1, capA1, zA1, B1, lenB1, capB1, zB1, hx10, hx11, hx12, hx13, hx14, hx15, hrowA1, hrowB1, we1⟩ : ∃ (e b n s : Int) (A : Option Addr) (lenA capA : Nat) (zA : List Int) (B : Option Addr) (lenB capB : Nat) (zB : List Int), x10 = .int .i64 e ∧ x11 = .int .i64 b ∧ x12 = .int .i64 n ∧ x13 = .int .i64 s ∧ x14 = .slice A lenA capA ∧ x15 = .slice B lenB capB ∧ IsRow .i64 W A lenA capA zA ∧ IsRow .i64 W B lenB capB zB ∧ (Lit.int .i64 e).wf = true := by
    obtain ⟨fuel, hf⟩ := h1
    obtain ⟨u0, u1, u2, u3, u4, u5, m, t0, t1, t2, t3, t4, t5⟩ := trod_struct6 Try.underlying52 hf
    obtain ⟨e, ee, -, wee⟩ := DataW.trod_int Try.underlying3 t0
    obtain ⟨b, eb, -⟩ := DataW.trod_int Try.underlying3 t1
    obtain ⟨n, en, -⟩ := DataW.trod_int Try.underlying3 t2
    obtain ⟨s, es, -⟩ := DataW.trod_int Try.underlying3 t3
    have ee' : [x10] = [.int .i64 e] := ee
    have eb' : [x11] = [.int .i64 b] := eb
    have en' : [x12] = [.int .i64 n] := en
    have es' : [x13] = [.int .i64 s] := es
    obtain ⟨A, lenA, capA, zA, hA4, hrA⟩ := open_row t4
    obtain ⟨B, lenB, capB, zB, hB5, hrB⟩ := open_row t5
    exact ⟨e, b, n, s, A, lenA, capA, zA, B, lenB, capB, zB, (List.cons.inj ee').1, (List.cons.inj eb').1, (List.cons.inj en').1, (List.cons.inj es').1, hA4, hB5, hrA, hrB, wee⟩
  subst hx10 hx11 hx12 hx13 hx14 hx15
  obtain ⟨lA1, rfl, hrA1, hmA1, hwA1, hcpA1⟩ := ReadsInt.ofRowC hrowA1
  obtain ⟨lB1, rfl, hrB1, hmB1, hwB1, hcpB1⟩ := ReadsInt.ofRowC hrowB1
  obtain ⟨a2, rfl, rfl, rfl, w2⟩ := open_int Try.underlying49 (hval 2 49 v2 rfl rfl) h2
  clear hA0 hval0 hsz0
  refine (MRt.RootTorn_calls ⟨e0, b0, n0, s0, lA0, lB0⟩ A0 _ B0 _ ⟨e1, b1, n1, s1, lA1, lB1⟩ A1 _ B1 _ a2 W (Kd.C_of_reads (d := (0 : Int)) (h1 := fun _ => rfl) hrA0) hcpA0 (Kd.C_of_reads (d := (0 : Int)) (h1 := fun _ => rfl) hrB0) hcpB0 (wf_i64 we0) (Kd.C_of_reads (d := (0 : Int)) (h1 := fun _ => rfl) hrA1) hcpA1 (Kd.C_of_reads (d := (0 : Int)) (h1 := fun _ => rfl) hrB1) hcpB1 (wf_i64 we1) (wf_u16 w2)).mono fun e W' ⟨he, bel⟩ => ?_
  subst he
  exact ⟨_, rfl, _, _, _, [], _, [], hW', trodAll_mk1 (shut_bool Try.underlying4 _), (trodAll_cons_mk (Below.trod laidOut (by kernel_rfl) (of_decide_eq_true (by kernel_rfl)) k0 bel lt0) (trodAll_cons_mk (Below.trod laidOut (by kernel_rfl) (of_decide_eq_true (by kernel_rfl)) k1 bel lt1) (trodAll_cons_mk (Below.trod laidOut (by kernel_rfl) (of_decide_eq_true (by kernel_rfl)) k2 bel lt2) trodAll_mk0))), rfl, bel.frame _, fun h => by cases h⟩
theorem over : Rows.rootTornRow.holds Try.pinned (OpenSpec.ofChange Rows.rootTornSpec) :=
  OpenClaim.holds_of_wide 11 Try.f11 rfl rfl rfl rfl rfl rfl rfl ⟨rfl, rfl, rfl, rfl, rfl⟩ rfl rfl rfl rfl rfl (by kernel_rfl) Try.func11 (by kernel_rfl)
    (of_decide_eq_true (by kernel_rfl)) (by unfold Func.isWrapper; first | (rw [if_pos (by decide +kernel)]; kernel_rfl) | (rw [if_neg (by decide +kernel)]; exact ⟨rfl, rfl⟩))
    (fun os started H enc _ => lifted os started H enc)
theorem proved : Rows.RootTornSaid := over
#print axioms proved
end Go.Proofs.Ytgflafifemhmgaa.rootTorn
namespace Go.Proofs.Ytgflafifemhmgaa
/-- The row, under a short name, for the claim. -/
theorem rootTorn_holds : Rows.RootTornSaid := rootTorn.proved
end Go.Proofs.Ytgflafifemhmgaa
