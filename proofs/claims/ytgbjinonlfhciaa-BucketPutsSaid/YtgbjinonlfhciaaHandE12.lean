/- The contract of awake; what Same, Vals tell. -/
import Derived.Test.YtgbjinonlfhciaaHandE11
namespace Go.Proofs.Ytgbjinonlfhciaa.BkV
open Go.RowKit Go.Proofs.Ytgbjinonlfhciaa.MBk Go.Proofs.YtgbjinonlfhciaaW.PrintWords Go.Proofs.YtgbjinonlfhciaaW.PrintLast
/-- Are pairs the same? -/
def samesT : List S27 → List S27 → Bool
  | [], [] => true
  | x :: r, y :: q => eqT x y && samesT r q
  | _, _ => false
theorem sames_iff : ∀ {a b : List S27}, samesT a b = true ↔ a = b
  | [], [] => ⟨fun _ => rfl, fun _ => rfl⟩
  | [], _ :: _ => ⟨fun h => (by cases h), fun h => (by cases h)⟩
  | _ :: _, [] => ⟨fun h => (by cases h), fun h => (by cases h)⟩
  | x :: r, y :: q => by
    rw [samesT, Bool.and_eq_true, eqT_iff, sames_iff, List.cons.injEq]
theorem sames_self (a : List S27) : samesT a a = true := sames_iff.mpr rfl
theorem same_l (a b : List S27) (hab : a.length = b.length) (hl : a.length ≤ 1000) (d : Nat) : ∀ (k j : Nat), j + d = a.length → api_Pair_38.l0 (k + d + 1) a b (a.length : Int) (j : Int) = some (samesT (a.drop j) (b.drop j)) := by
  induction d with
  | zero =>
    intro k j hj
    rw [api_Pair_38.l0, if_neg (by omega), List.drop_of_length_le (by omega), List.drop_of_length_le (by omega)]
    rfl
  | succ d ih =>
    intro k j hj
    have h1 : j < a.length := by omega
    have h2 : j < b.length := by omega
    rw [show k + (d + 1) + 1 = (k + d + 1) + 1 by omega, api_Pair_38.l0, if_pos (by omega), if_pos (by omega), if_pos (by omega), if_pos (by omega), rd27 a j h1, rd27 b j h2, add1 (by omega), List.drop_eq_getElem_cons h1, List.drop_eq_getElem_cons h2, samesT]
    by_cases he : eqT a[j] b[j] = true
    · rw [he, Bool.true_and, ← ih k (j + 1) (by omega)]
      unfold eqT at he
      rw [if_neg (by rw [← Bool.not_and, he]; decide)]
    · have he2 := Bool.eq_false_iff.mpr he
      rw [he2, Bool.false_and]
      unfold eqT at he2
      rw [if_pos (by rw [← Bool.not_and, he2]; rfl)]
theorem same_is (d n d' n' : Int) (a b : List S27) (hl : a.length ≤ 1000) : bucket_Same.f 1001 d n a d' n' b = some (decide (d = d') && (decide (n = n') && samesT a b)) := by
  unfold bucket_Same.f api_Pair_38.f
  by_cases h1 : d = d'
  · rw [if_pos h1, decide_eq_true h1, Bool.true_and]
    by_cases h2 : n = n'
    · rw [if_pos h2, decide_eq_true h2, Bool.true_and]
      by_cases h3 : a.length = b.length
      · rw [if_pos (by omega)]
        have := same_l a b h3 hl a.length (1000 - a.length) 0 (by omega)
        rw [show 1000 - a.length + a.length + 1 = 1001 by omega, List.drop_zero, List.drop_zero] at this
        exact congrArg (fun o => o.bind fun t => some t) this
      · rw [if_neg (by omega), Option.bind_some]
        congr 1
        cases hs : samesT a b with
        | false => rfl
        | true => exact absurd (by rw [sames_iff.mp hs]) h3
    · rw [if_neg h2, decide_eq_false h2]
      rfl
  · rw [if_neg h1, decide_eq_false h1]
    rfl
def kv : S27 := ⟨⟨#[107]⟩, ⟨#[118, 119]⟩⟩
def jj : S27 := ⟨⟨#[106]⟩, ⟨#[]⟩⟩
def bs9 : List Int := [1, 0, 0, 1, 1, 107, 2, 118, 119]
theorem aw_put : putT 1 0 [kv] = (bs9, 0) := by kernel_rfl
theorem aw_get : getT bs9 = ((1, 0, [kv]), 0) := by kernel_rfl
theorem aw_add : addT [kv] jj = ([jj, kv], true) := by
  have h1 : eqT jj kv = false := by unfold eqT; rw [Lib.toList_data, Lib.toList_data]; rfl
  have h2 : lessT jj kv = true := by unfold lessT; rw [Lib.toList_data, Lib.toList_data]; rfl
  unfold addT
  rw [if_neg (by rw [List.any_cons, h1]; decide)]
  unfold insT
  rw [posN, if_pos h2]
  rfl
theorem aw_bytes : ∀ x ∈ bs9, Byte x := by
  intro x hx
  unfold bs9 at hx
  simp at hx
  unfold Byte
  omega
theorem aw_few : FewP [kv] := ⟨by decide, fun y hy => by obtain rfl := List.mem_singleton.mp hy; exact (show (1 : Nat) ≤ 1000 ∧ (2 : Nat) ≤ 1000 by decide)⟩
theorem aw_vals : bucket_Vals.f 10 1 0 [kv] ⟨#[107]⟩ = some [⟨#[118, 119]⟩] := by
  unfold bucket_Vals.f
  have w1 : wrap64 (0 + 1) = 1 := by decide +kernel
  have h0 : (rd_T27 [kv] 0).f0.toList = (⟨#[107]⟩ : ByteArray).toList := rfl
  rw [show (10 : Nat) = 8 + 1 + 1 from rfl, bucket_Vals.l0, if_pos (by decide), if_pos (by decide), if_pos (by decide), if_pos h0, if_pos (by decide), w1, bucket_Vals.l0, if_neg (by decide)]
  rfl
end Go.Proofs.Ytgbjinonlfhciaa.BkV
namespace Go.Proofs.Ytgbjinonlfhciaa.MBk
open Go.RowKit Go.Proofs.Ytgbjinonlfhciaa.BkV Go.Proofs.YtgbjinonlfhciaaW.PrintWords Go.Proofs.YtgbjinonlfhciaaW.PrintLast Go.Proofs.YtgbjinonlfhciaaW.PrintMore
set_option linter.unusedVariables false
set_option linter.unusedSimpArgs false
set_option maxHeartbeats 8000000 in
set_option maxRecDepth 100000 in
theorem awake_calls (w : World) : Calls Try.prog 7 #[] w fun e w' => e = .returned (.bool true) ∧ Below w.heap.size w w' := by
  go_enter Try.func7, Try.ntmps7
  go_upto_region 2 with fail
  have hW1 := below_alloc (Below.refl w.heap.size w) (Obj.cells #[Value.string ⟨#[107]⟩, Value.string ⟨#[118, 119]⟩] 27)
  have hN1 := blk_new w (Obj.cells #[Value.string ⟨#[107]⟩, Value.string ⟨#[118, 119]⟩] 27)
  have hS1 : (w.alloc (Obj.cells #[Value.string ⟨#[107]⟩, Value.string ⟨#[118, 119]⟩] 27)).heap.size = w.heap.size + 1 := World.size_alloc _ _
  obtain ⟨g, hg⟩ : ∃ g, g = w.heap.size := ⟨_, rfl⟩
  rw [← hg] at hN1 hS1 ⊢
  generalize w.alloc (Obj.cells #[Value.string ⟨#[107]⟩, Value.string ⟨#[118, 119]⟩] 27) = W1 at hW1 hN1 hS1 ⊢
  have hW2 := below_alloc (Below.refl W1.heap.size W1) (Obj.cells #[Value.int IntKind.i64 1, Value.int IntKind.i64 0, Value.slice (some ⟨g, 0, none⟩) 1 1] 25)
  have hN2 := blk_new W1 (Obj.cells #[Value.int IntKind.i64 1, Value.int IntKind.i64 0, Value.slice (some ⟨g, 0, none⟩) 1 1] 25)
  rw [hS1] at hN2
  generalize W1.alloc (Obj.cells #[Value.int IntKind.i64 1, Value.int IntKind.i64 0, Value.slice (some ⟨g, 0, none⟩) 1 1] 25) = W2 at hW2 hN2 ⊢
  have HB := Aside0.mk (below_step hW1 hW2)
  have K1 := Aside0.mk hN2
  have hrd := one_reads (x := kv) (blk_below hN1 hW2)
  have HC := Aside0.mk (show Kd.C k27 W2 (some ⟨g, 0, none⟩) 1 [kv] from hrd.imp_ (Below.refl _ _) (fun p cs hp => by rw [hp]; exact k27_mk _ _))
  clear hW1 hN1 hS1 hW2 hN2 hg hrd
  have k0 := blk_cell K1.out 0
  have k1 := blk_cell K1.out 1
  have k2 := blk_cell K1.out 2
  go_wp2_with fail
  go_at_call 20
  have hp := bucket_Put 1 0 [kv] (some ⟨g, 0, none⟩) 1 W2 HC.out (Nat.le_refl _) aw_few
  rw [aw_put] at hp
  refine hp.mono ?_
  clear hp k0 k1 k2
  rintro ex W3 ⟨v, rfl, hv, hb⟩
  obtain ⟨T, cT, rfl⟩ := Kd.R_slice hv
  have HV := Aside0.mk (Kd.R_reads' hv).2.2
  have HVc := Aside0.mk (Kd.R_reads' hv).2.1
  have nB := Aside0.mk (below_step HB.out hb)
  have n1 := Aside0.mk (blk_below K1.out hb)
  have nC := Aside0.mk (Kd.C_below HC.out hb)
  clear hv hb HB K1 HC
  have HB := nB
  have K1 := n1
  have HC := nC
  clear nB n1 nC
  go_wp2_with fail
  go_at_call 22
  have hp := bucket_Get bs9 T cT W3 HV.out HVc.out aw_bytes (by decide)
  rw [aw_get] at hp
  refine hp.mono ?_
  clear hp
  rintro ex W4 ⟨v, rfl, hv, hb⟩
  obtain ⟨T2, c2, rfl⟩ := Kd.R_slice hv
  have HV2 := Aside0.mk (Kd.R_reads' hv).2.2
  have HV2c := Aside0.mk (Kd.R_reads' hv).2.1
  have nB := Aside0.mk (below_step HB.out hb)
  have n1 := Aside0.mk (blk_below K1.out hb)
  have nC := Aside0.mk (Kd.C_below HC.out hb)
  have nV := Aside0.mk (Kd.C_below HV.out hb)
  clear hv hb HB K1 HC HV
  have HB := nB
  have K1 := n1
  have HC := nC
  have HV := nV
  clear nB n1 nC nV
  go_upto_region 4 with fail
  have hW1 := below_alloc (Below.refl W4.heap.size W4) (Obj.cells #[Value.int IntKind.i64 1, Value.int IntKind.i64 0, Value.slice T2 1 c2] 25)
  have hN1 := blk_new W4 (Obj.cells #[Value.int IntKind.i64 1, Value.int IntKind.i64 0, Value.slice T2 1 c2] 25)
  obtain ⟨g2, hg2⟩ : ∃ g, g = W4.heap.size := ⟨_, rfl⟩
  rw [← hg2] at hN1 ⊢
  clear hg2
  generalize W4.alloc (Obj.cells #[Value.int IntKind.i64 1, Value.int IntKind.i64 0, Value.slice T2 1 c2] 25) = W5 at hW1 hN1 ⊢
  have K2 := Aside0.mk hN1
  have nB := Aside0.mk (below_step HB.out hW1)
  have n1 := Aside0.mk (blk_below K1.out hW1)
  have nC := Aside0.mk (Kd.C_below HC.out hW1)
  have nV := Aside0.mk (Kd.C_below HV.out hW1)
  have nV2 := Aside0.mk (Kd.C_below HV2.out hW1)
  clear hW1 hN1 HB K1 HC HV HV2
  have HB := nB
  have K1 := n1
  have HC := nC
  have HV := nV
  have HV2 := nV2
  clear nB n1 nC nV nV2
  have k0 := blk_cell K1.out 0
  have k1 := blk_cell K1.out 1
  have k2 := blk_cell K1.out 2
  go_wp2_with fail
  go_at_call 8
  have hp := bucket_Add 1 0 [kv] (some ⟨g, 0, none⟩) 1 jj W5 HC.out (Nat.le_refl _) (by decide)
  rw [aw_add] at hp
  refine hp.mono ?_
  clear hp k0 k1 k2
  rintro ex W6 ⟨v, rfl, hv, hb⟩
  obtain ⟨T3, c3, rfl⟩ := Kd.R_slice hv
  have HV3 := Aside0.mk (Kd.R_reads' hv).2.2
  have nB := Aside0.mk (below_step HB.out hb)
  have n1 := Aside0.mk (blk_below K1.out hb)
  have n2 := Aside0.mk (blk_below K2.out hb)
  have nC := Aside0.mk (Kd.C_below HC.out hb)
  have nV := Aside0.mk (Kd.C_below HV.out hb)
  have nV2 := Aside0.mk (Kd.C_below HV2.out hb)
  clear hv hb HB K1 K2 HC HV HV2
  have HB := nB
  have K1 := n1
  have K2 := n2
  have HC := nC
  have HV := nV
  have HV2 := nV2
  clear nB n1 n2 nC nV nV2
  go_upto_region 5 with fail
  have hW1 := below_alloc (Below.refl W6.heap.size W6) (Obj.cells #[Value.int IntKind.i64 1, Value.int IntKind.i64 0, Value.slice T3 2 c3] 25)
  have hN1 := blk_new W6 (Obj.cells #[Value.int IntKind.i64 1, Value.int IntKind.i64 0, Value.slice T3 2 c3] 25)
  obtain ⟨g3, hg3⟩ : ∃ g, g = W6.heap.size := ⟨_, rfl⟩
  rw [← hg3] at hN1 ⊢
  clear hg3
  generalize W6.alloc (Obj.cells #[Value.int IntKind.i64 1, Value.int IntKind.i64 0, Value.slice T3 2 c3] 25) = W7 at hW1 hN1 ⊢
  have K3 := Aside0.mk hN1
  have nB := Aside0.mk (below_step HB.out hW1)
  have n1 := Aside0.mk (blk_below K1.out hW1)
  have n2 := Aside0.mk (blk_below K2.out hW1)
  have nC := Aside0.mk (Kd.C_below HC.out hW1)
  have nV := Aside0.mk (Kd.C_below HV.out hW1)
  have nV2 := Aside0.mk (Kd.C_below HV2.out hW1)
  have nV3 := Aside0.mk (Kd.C_below HV3.out hW1)
  clear hW1 hN1 HB K1 K2 HC HV HV2 HV3
  have HB := nB
  have K1 := n1
  have K2 := n2
  have HC := nC
  have HV := nV
  have HV2 := nV2
  have HV3 := nV3
  clear nB n1 n2 nC nV nV2 nV3
  have hconv := Kd.C_string (P := Try.prog) (c := cT) Try.underlying43 Try.underlying5 Try.underlying9 HV.out
  have hsl : ((strOfNums bs9).toList = [1, 0, 0, 1, 1, 107, 2, 118, 119]) = True := eq_true (by kernel_rfl)
  have hsb : ((strOfNums bs9).toList == [1, 0, 0, 1, 1, 107, 2, 118, 119]) = true := by kernel_rfl
  have k0 := blk_cell K1.out 0
  have k1 := blk_cell K1.out 1
  have k2 := blk_cell K1.out 2
  have m0 := blk_cell K2.out 0
  have m1 := blk_cell K2.out 1
  have m2 := blk_cell K2.out 2
  go_wp2_with fail
  go_at_call 12
  refine (bucket_Same.calls 1001 1 0 (some ⟨g, 0, none⟩) 1 [kv] 1 0 T2 c2 [kv] true W7 HC.out (Nat.le_refl _) HV2.out HV2c.out (by rw [same_is 1 0 1 0 [kv] [kv] (by decide), sames_self]; rfl)).mono ?_
  clear k0 k1 k2 m0 m1 m2 hconv
  rintro ex W8 ⟨rfl, hb⟩
  have nHB := Aside0.mk (below_step HB.out hb)
  have nK1 := Aside0.mk (blk_below K1.out hb)
  have nK2 := Aside0.mk (blk_below K2.out hb)
  have nK3 := Aside0.mk (blk_below K3.out hb)
  have nHC := Aside0.mk (Kd.C_below HC.out hb)
  have nHV3 := Aside0.mk (Kd.C_below HV3.out hb)
  clear hb HB K1 K2 K3 HC HV3
  have HB := nHB
  have K1 := nK1
  have K2 := nK2
  have K3 := nK3
  have HC := nHC
  have HV3 := nHV3
  clear nHB nK1 nK2 nK3 nHC nHV3
  have k0 := blk_cell K1.out 0
  have k1 := blk_cell K1.out 1
  have k2 := blk_cell K1.out 2
  have m0 := blk_cell K3.out 0
  have m1 := blk_cell K3.out 1
  have m2 := blk_cell K3.out 2
  obtain ⟨ad, e1, hx0, hx1⟩ := at_T27 HV3.out 0 (by decide) (by decide)
  subst e1
  have ead : ad.add ((0 : Int).toNat * 2) = ad := by cases ad; rfl
  rw [ead] at hx0 hx1
  rw [show (rd_T27 [jj, kv] 0) = jj from rfl] at hx0 hx1
  have hjl : (jj.f0.toList = [106]) = True := eq_true (by unfold jj; rw [Lib.toList_data])
  have hjb : (jj.f0.toList == [106]) = true := by unfold jj; rw [Lib.toList_data]; rfl
  go_wp2_with fail
  go_at_call 13
  have hz := size_is 1 0 [kv] aw_few
  rw [show sizeN [kv] = 9 from by kernel_rfl] at hz
  refine (bucket_Size.calls 1001 1 0 (some ⟨g, 0, none⟩) 1 [kv] 9 W8 HC.out (Nat.le_refl _) hz).mono ?_
  clear k0 k1 k2 m0 m1 m2 hx0 hx1 hz
  rintro ex W9 ⟨rfl, hb⟩
  have nHB := Aside0.mk (below_step HB.out hb)
  have nK1 := Aside0.mk (blk_below K1.out hb)
  have nHC := Aside0.mk (Kd.C_below HC.out hb)
  clear hb HB K1 HC
  have HB := nHB
  have K1 := nK1
  have HC := nHC
  clear nHB nK1 nHC
  clear K2 K3 HV3
  have k0 := blk_cell K1.out 0
  have k1 := blk_cell K1.out 1
  have k2 := blk_cell K1.out 2
  go_wp2_with fail
  go_at_call 26
  refine (bucket_Vals.calls 10 1 0 (some ⟨g, 0, none⟩) 1 [kv] ⟨#[107]⟩ _ W9 HC.out (Nat.le_refl _) aw_vals).mono ?_
  clear k0 k1 k2
  rintro ex WA ⟨v, rfl, hv, hb⟩
  obtain ⟨T4, c4, rfl⟩ := Kd.R_slice hv
  have HE := Aside0.mk (below_step HB.out hb)
  clear hv hb HB K1 HC
  go_wp2_with fail
  go_ret
  exact ⟨rfl, HE.out⟩
end Go.Proofs.Ytgbjinonlfhciaa.MBk
