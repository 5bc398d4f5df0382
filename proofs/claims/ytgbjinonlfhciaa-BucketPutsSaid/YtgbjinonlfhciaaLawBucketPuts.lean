/- The row of BucketPuts: whatever the input, it tells true, and the input reads as it did. Its parameters are opened by hand. -/
import Derived.Test.YtgbjinonlfhciaaRows
import Derived.Test.YtgbjinonlfhciaaOpens
import Derived.Test.YtgbjinonlfhciaaPuts
import Derived.WalkKit
import Derived.ProofKit
import Derived.OpenShut
import Derived.ShutString
import Derived.ChangeOld
import Derived.ChangeMaps5
import Derived.Below
import Derived.SizedLaws
import Derived.ChangeSame
import Derived.Lib.SmallJoins
namespace Go.Proofs.Ytgbjinonlfhciaa.bucketPuts
open Go.ChangeShapes Go.WideShapes Go.ChangeAt Go.RowKit Go.Joins Go.Proofs.YtgbjinonlfhciaaW.PrintWords Go.Proofs.YtgbjinonlfhciaaW.PrintLast
open Go.ChangeMaps (open_string shut_string)
set_option linter.unusedVariables false
theorem own : ownKnob Try.prog.godebug = none := by kernel_rfl
theorem laidOut : laidOutB Try.prog = true := by kernel_rfl
theorem wf_i64 {x : Int} (h : (Lit.int .i64 x).wf = true) : -9223372036854775808 ≤ x ∧ x < 9223372036854775808 := by
  have := of_decide_eq_true (p := IntKind.i64.min ≤ x ∧ x ≤ IntKind.i64.max) (by simpa [Lit.wf] using h)
  have h1 : IntKind.i64.min = -9223372036854775808 := by decide
  have h2 : IntKind.i64.max = 9223372036854775807 := by decide
  omega
/-- The cells of a row of bytes hold bytes. -/
theorem bytes_of {H : Type} {enc : TypeId × Value → H} {W : World} {a : Option Addr} {len cap : Nat} {D : DataW H} {ps : List MemPlace} (h : DataW.Trod enc Try.prog W 0 (fun _ => true) true 43 (.slice a len cap) D ps) {x : List Int} (hx : len = x.length) (hC : Kd.C (Kd.int .u8) W a x.length x) : ∀ v ∈ x, BkV.Byte v := by
  obtain ⟨fuel, hf⟩ := h
  intro v hv
  obtain ⟨i, hi, hiv⟩ := List.mem_iff_getElem.mp hv
  obtain ⟨ad, e1, hc1⟩ := Kd.at_int hC (i : Int) (by omega) (by omega)
  rcases open_ints Try.underlying43 Try.underlying5 (by kernel_rfl) hf with ⟨hcs, _⟩ | ⟨ad2, l, c, zs, hcs, _, hl, hm, hz, _, hcell, hwz⟩
  · simp [Value.cells] at hcs
    omega
  · simp [Value.cells] at hcs
    obtain ⟨rfl, rfl, rfl⟩ := hcs
    obtain rfl : ad2 = ad := by injection e1
    have hz2 : zs.length = cap := by simpa using hz
    have hlt : i < zs.length := by omega
    have h2 := hcell i hlt
    rw [Int.toNat_natCast] at hc1
    rw [hc1] at h2
    have h3 : rd x (i : Int) = zs.getD i 0 := by injection h2 with h2; injection h2
    have h4 : rd x (i : Int) = v := by
      unfold rd
      rw [Int.toNat_natCast, List.getD_eq_getElem?_getD, List.getElem?_eq_getElem hi]
      exact hiv
    have h5 : zs.getD i 0 = zs[i] := by rw [List.getD_eq_getElem?_getD, List.getElem?_eq_getElem hlt]; rfl
    have h6 := hwz _ (List.getElem_mem hlt)
    rw [← h5, ← h3, h4] at h6
    have h7 := of_decide_eq_true (p := IntKind.u8.min ≤ v ∧ v ≤ IntKind.u8.max) (by simpa [Lit.wf] using h6)
    have m0 : IntKind.u8.min = 0 := by decide
    have m1 : IntKind.u8.max = 255 := by decide
    exact ⟨by omega, by omega⟩
set_option maxRecDepth 100000 in
theorem lifted (os : Os) (started : os.Started) (H : Type) (enc : TypeId × Value → H) :
    ReturnsInHanded {} Try.checked os 5 .any (Rows.bucketPutsSpec.pre6 enc Try.prog Try.f5 Rows.bucketPutsRow.domain false) (Rows.bucketPutsSpec.post enc Try.prog Try.f5 false true false false) := by
  refine returnsInHanded_of_change_sized (C := Try.checked) own started (by kernel_rfl) Try.func5
    (ChangeSpec.witness6 (enc := enc) (C := Try.checked) false ⟨#[], #[.agg #[.int .i64 0, .int .i64 0, .slice none 0 0], .agg #[.int .i64 0, .int .i64 0, .slice none 0 0], .slice none 0 0], []⟩ 8 (by kernel_rfl) (by kernel_rfl) (by kernel_rfl) (by kernel_rfl)) ?_
  intro W base args ds gs before hval0 hW hcnd hsz0 _
  have hval : ∀ (j : Nat) t v, Try.f5.params[j]? = some t → args[j]? = some v → Value.okWide Try.prog W .any base t v := hval0
  have hW' := hW
  obtain ⟨p, q, hA0, hV, rfl, hfz, hnd⟩ := hW
  have hA : DataW.TrodAll enc Try.prog W 0 (fun _ => true) true Try.f5.params.toList args.toList ds p := hA0
  rw [Try.params5] at hA hval
  obtain ⟨v0, vs0, d0, ds0, p0, q0, hargs, rfl, rfl, h0, r0⟩ := trodAll_cons hA
  obtain ⟨v1, vs1, d1, ds1, p1, q1, rfl, rfl, rfl, h1, r1⟩ := trodAll_cons r0
  obtain ⟨v2, vs2, d2, ds2, p2, q2, rfl, rfl, rfl, h2, r2⟩ := trodAll_cons r1
  obtain ⟨rfl, rfl, rfl⟩ := trodAll_nil r2
  obtain rfl : args = #[v0, v1, v2] := by cases args; simp_all
  obtain ⟨rfl, rfl⟩ := trodVars_none hV
  have k0 := h0
  have lt0 : ∀ x ∈ p0, x.block < W.heap.size := by obtain ⟨m, hm⟩ := k0; exact DataW.trod_lt m _ _ _ hm
  obtain ⟨cs0, rfl, hcs0⟩ := okWide_struct Try.underlying42 (hval 0 42 v0 rfl rfl)
  obtain ⟨⟨x0, y0, z0⟩, hK0⟩ := Opens.arg_agg Opens.o42 h0
  obtain ⟨_, _, he0, rfl, ⟨_, _, rfl, rfl, ⟨A0, c0, rfl, hc0, hC0⟩⟩⟩ := hK0
  obtain rfl : cs0 = #[.int .i64 x0, .int .i64 y0, .slice A0 z0.length c0] := Array.toList_inj.mp he0
  have k1 := h1
  have lt1 : ∀ x ∈ p1, x.block < W.heap.size := by obtain ⟨m, hm⟩ := k1; exact DataW.trod_lt m _ _ _ hm
  obtain ⟨cs1, rfl, hcs1⟩ := okWide_struct Try.underlying42 (hval 1 42 v1 rfl rfl)
  obtain ⟨⟨x1, y1, z1⟩, hK1⟩ := Opens.arg_agg Opens.o42 h1
  obtain ⟨_, _, he1, rfl, ⟨_, _, rfl, rfl, ⟨A1, c1, rfl, hc1, hC1⟩⟩⟩ := hK1
  obtain rfl : cs1 = #[.int .i64 x1, .int .i64 y1, .slice A1 z1.length c1] := Array.toList_inj.mp he1
  have k2 := h2
  have lt2 : ∀ x ∈ p2, x.block < W.heap.size := by obtain ⟨m, hm⟩ := k2; exact DataW.trod_lt m _ _ _ hm
  obtain ⟨A2, n2, c2, rfl⟩ := okWide_slice Try.underlying43 (hval 2 43 v2 rfl rfl)
  obtain ⟨x2, rfl, hc2, hC2⟩ := Opens.arg_slice Opens.o43 h2
  have hB2 := bytes_of h2 rfl hC2
  clear hA0 hval0 hsz0
  refine (MBk.BucketPuts_calls x0 y0 z0 A0 c0 x1 y1 z1 A1 c1 x2 A2 c2 W hC0 hc0 hC1 hc1 hC2 hc2 hB2).mono fun e W' ⟨he, bel⟩ => ?_
  subst he
  exact ⟨_, rfl, _, _, _, [], _, [], hW', trodAll_mk1 (shut_bool Try.underlying4 _), (trodAll_cons_mk (Below.trod laidOut (by kernel_rfl) (of_decide_eq_true (by kernel_rfl)) k0 bel lt0) (trodAll_cons_mk (Below.trod laidOut (by kernel_rfl) (of_decide_eq_true (by kernel_rfl)) k1 bel lt1) (trodAll_cons_mk (Below.trod laidOut (by kernel_rfl) (of_decide_eq_true (by kernel_rfl)) k2 bel lt2) trodAll_mk0))), rfl, bel.frame _, fun h => by cases h⟩
theorem over : Rows.bucketPutsRow.holds Try.pinned (OpenSpec.ofChange Rows.bucketPutsSpec) :=
  OpenClaim.holds_of_wide 5 Try.f5 rfl rfl rfl rfl rfl rfl rfl ⟨rfl, rfl, rfl, rfl, rfl⟩ rfl rfl rfl rfl rfl (by kernel_rfl) Try.func5 (by kernel_rfl)
    (of_decide_eq_true (by kernel_rfl)) (by unfold Func.isWrapper; first | (rw [if_pos (by decide +kernel)]; kernel_rfl) | (rw [if_neg (by decide +kernel)]; exact ⟨rfl, rfl⟩))
    (fun os started H enc _ => lifted os started H enc)
theorem proved : Rows.BucketPutsSaid := over
#print axioms proved
end Go.Proofs.Ytgbjinonlfhciaa.bucketPuts
namespace Go.Proofs.Ytgbjinonlfhciaa
/-- The row, under a short name, for the claim. -/
theorem bucketPuts_holds : Rows.BucketPutsSaid := bucketPuts.proved
end Go.Proofs.Ytgbjinonlfhciaa
