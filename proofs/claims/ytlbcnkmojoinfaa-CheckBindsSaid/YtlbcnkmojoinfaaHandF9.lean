/- The contract of awake. -/
import Derived.Test.YtlbcnkmojoinfaaHandF8
namespace Go.Proofs.Ytlbcnkmojoinfaa.MCk
open Go.RowKit Go.Maps Go.Proofs.Ytlbcnkmojoinfaa.Hand Go.Proofs.Ytlbcnkmojoinfaa.ChecksV Go.Proofs.YtlbcnkmojoinfaaW.PrintWords Go.Proofs.YtlbcnkmojoinfaaW.PrintLast Go.Proofs.YtlbcnkmojoinfaaW.PrintMore
set_option linter.unusedVariables false
set_option linter.unusedSimpArgs false
/-- A row of one element, out of its block. -/
theorem C_one {α : Type} (d : Kd α) {w : World} {g : Nat} {t : TypeId} {cs : List Value} {x : α} (hb : w.heap[g]? = some (.cells cs.toArray t (0, 0))) (hK : d.K w x cs) : Kd.C d w (some ⟨g, 0, none⟩) 1 [x] := by
  refine ⟨rfl, by decide, fun _ => ⟨_, rfl, fun j p hj => ?_⟩⟩
  have hj0 : j = 0 := by
    rcases j with _ | j
    · rfl
    · simp at hj
  subst hj0
  simp at hj
  subst hj
  refine ⟨cs, d.K_len hK, hK, fun i u hu => ?_⟩
  have := blk_cell hb i
  rw [List.getElem?_toArray, hu] at this
  rw [← this]
  congr 1
  rw [Addr.add_lit]
  congr 1
  omega
def cP : ByteArray := ⟨#[112]⟩
def cC : ByteArray := ⟨#[99]⟩
def cX : ByteArray := ⟨#[120]⟩
def tst (n : Int) : S61 := ⟨n, cX, ⟨0, 0, ⟨#[]⟩⟩⟩
def aCs : List S30 := [⟨cC, [cP]⟩]
def aAs (n : Int) : List S57 := [⟨cP, [], [tst n]⟩]
theorem cond0 : condT aCs false cC (aAs 0) [] = ([cX], 0) := by simp [condT, findS, attrsT, bindsT, hasN, aCs, aAs, tst, cP, cC, cX, Lib.toList_data]
theorem cond4 : condT aCs false cC (aAs 4) [] = ([], 20) := by simp [condT, findS, attrsT, bindsT, hasN, aCs, aAs, tst, cP, cC, cX, Lib.toList_data]
theorem prog0 : programT aCs [] = 0 := by simp [programT, classesT, rulesT, dupN, hasN, aCs, cP, cC, Lib.toList_data]
theorem rule9 : ruleT aCs z38 = 9 := by simp [ruleT, z38]
theorem fewC : FewC aCs := ⟨by decide, fun c hc => by obtain rfl := List.mem_singleton.mp hc; exact ⟨by decide, by decide, fun a ha => by obtain rfl := List.mem_singleton.mp ha; decide⟩⟩
theorem fewA (n : Int) : FewA (aAs n) := by simp [FewA, aAs]
theorem sizeA (n : Int) : ∀ a ∈ aAs n, a.f0.size ≤ 1000000 := fun a ha => by obtain rfl := List.mem_singleton.mp ha; show (1 : Nat) ≤ 1000000; decide
theorem fewR : FewRule z38 := by simp [FewRule, z38]
theorem fewRs : FewRs [] := by simp [FewRs]
theorem aC30 {w : World} {g : Nat} (h0 : w.heap[g]? = some (.cells #[.string cP] 9 (0, 0))) (h1 : w.heap[g + 1]? = some (.cells #[.string cC, .slice (some ⟨g, 0, none⟩) 1 1] 30 (0, 0))) : Kd.C k30 w (some ⟨g + 1, 0, none⟩) 1 aCs :=
  C_one k30 (cs := [.string cC, .slice (some ⟨g, 0, none⟩) 1 1]) h1 (k30_mk w ⟨cC, [cP]⟩ (Nat.le_refl _) (C_one Kd.string (cs := [.string cP]) h0 rfl))
theorem aC57 {w : World} {g : Nat} (n : Int) (h2 : w.heap[g + 1 + 1]? = some (.cells #[.int .u8 n, .string cX, .int .u8 0, .int .i64 0, .string ⟨#[]⟩] 61 (0, 0))) (h3 : w.heap[g + 1 + 1 + 1]? = some (.cells #[.string cP, .slice none 0 0, .slice (some ⟨g + 1 + 1, 0, none⟩) 1 1] 57 (0, 0))) : Kd.C k57 w (some ⟨g + 1 + 1 + 1, 0, none⟩) 1 (aAs n) :=
  C_one k57 (cs := [.string cP, .slice none 0 0, .slice (some ⟨g + 1 + 1, 0, none⟩) 1 1]) h3 (k57_mk w ⟨cP, [], [tst n]⟩ (Nat.le_refl _) (Kd.C_nil _ _) (Nat.le_refl _) (C_one k61 (cs := [.int .u8 n, .string cX, .int .u8 0, .int .i64 0, .string ⟨#[]⟩]) h2 (k61_mk w (tst n))))
set_option maxHeartbeats 8000000 in
set_option maxRecDepth 100000 in
theorem awake_calls (w : World) : Calls Try.prog 8 #[] w fun e w' => e = .returned (.bool true) ∧ Below w.heap.size w w' := by
  go_enter Try.func8, Try.ntmps8
  go_upto_region 3 with fail
  obtain ⟨g, hg_g⟩ : ∃ g, g = w.heap.size := ⟨_, rfl⟩
  have hW_W1 := below_alloc (Below.refl w.heap.size w) (Obj.cells #[Value.string ⟨#[112]⟩] 9)
  have hN_W1 := blk_new w (Obj.cells #[Value.string ⟨#[112]⟩] 9)
  have hS_W1 : (w.alloc (Obj.cells #[Value.string ⟨#[112]⟩] 9)).heap.size = w.heap.size + 1 := World.size_alloc _ _
  rw [← hg_g] at hN_W1 hS_W1 ⊢
  generalize w.alloc (Obj.cells #[Value.string ⟨#[112]⟩] 9) = W1 at hW_W1 hN_W1 hS_W1 ⊢
  have hW_W2 := below_alloc (Below.refl W1.heap.size W1) (Obj.cells #[Value.string ⟨#[99]⟩, Value.slice (some ⟨g, 0, none⟩) 1 1] 30)
  have hN_W2 := blk_new W1 (Obj.cells #[Value.string ⟨#[99]⟩, Value.slice (some ⟨g, 0, none⟩) 1 1] 30)
  have hS_W2 : (W1.alloc (Obj.cells #[Value.string ⟨#[99]⟩, Value.slice (some ⟨g, 0, none⟩) 1 1] 30)).heap.size = W1.heap.size + 1 := World.size_alloc _ _
  rw [hS_W1] at hN_W2 hS_W2
  generalize W1.alloc (Obj.cells #[Value.string ⟨#[99]⟩, Value.slice (some ⟨g, 0, none⟩) 1 1] 30) = W2 at hW_W2 hN_W2 hS_W2 ⊢
  have hW_W3 := below_alloc (Below.refl W2.heap.size W2) (Obj.cells #[Value.int IntKind.u8 0, Value.string ⟨#[120]⟩, Value.int IntKind.u8 0, Value.int IntKind.i64 0, Value.string ⟨#[]⟩] 61)
  have hN_W3 := blk_new W2 (Obj.cells #[Value.int IntKind.u8 0, Value.string ⟨#[120]⟩, Value.int IntKind.u8 0, Value.int IntKind.i64 0, Value.string ⟨#[]⟩] 61)
  have hS_W3 : (W2.alloc (Obj.cells #[Value.int IntKind.u8 0, Value.string ⟨#[120]⟩, Value.int IntKind.u8 0, Value.int IntKind.i64 0, Value.string ⟨#[]⟩] 61)).heap.size = W2.heap.size + 1 := World.size_alloc _ _
  rw [hS_W2] at hN_W3 hS_W3
  generalize W2.alloc (Obj.cells #[Value.int IntKind.u8 0, Value.string ⟨#[120]⟩, Value.int IntKind.u8 0, Value.int IntKind.i64 0, Value.string ⟨#[]⟩] 61) = W3 at hW_W3 hN_W3 hS_W3 ⊢
  have hW_W4 := below_alloc (Below.refl W3.heap.size W3) (Obj.cells #[Value.string ⟨#[112]⟩, Value.slice none 0 0, Value.slice (some ⟨g + 1 + 1, 0, none⟩) 1 1] 57)
  have hN_W4 := blk_new W3 (Obj.cells #[Value.string ⟨#[112]⟩, Value.slice none 0 0, Value.slice (some ⟨g + 1 + 1, 0, none⟩) 1 1] 57)
  have hS_W4 : (W3.alloc (Obj.cells #[Value.string ⟨#[112]⟩, Value.slice none 0 0, Value.slice (some ⟨g + 1 + 1, 0, none⟩) 1 1] 57)).heap.size = W3.heap.size + 1 := World.size_alloc _ _
  rw [hS_W3] at hN_W4 hS_W4
  generalize W3.alloc (Obj.cells #[Value.string ⟨#[112]⟩, Value.slice none 0 0, Value.slice (some ⟨g + 1 + 1, 0, none⟩) 1 1] 57) = W4 at hW_W4 hN_W4 hS_W4 ⊢
  have hW_W5 := below_alloc (Below.refl W4.heap.size W4) (Obj.cells #[Value.bool false, Value.string ⟨#[99]⟩, Value.slice (some ⟨g + 1 + 1 + 1, 0, none⟩) 1 1] 44)
  have hN_W5 := blk_new W4 (Obj.cells #[Value.bool false, Value.string ⟨#[99]⟩, Value.slice (some ⟨g + 1 + 1 + 1, 0, none⟩) 1 1] 44)
  have hS_W5 : (W4.alloc (Obj.cells #[Value.bool false, Value.string ⟨#[99]⟩, Value.slice (some ⟨g + 1 + 1 + 1, 0, none⟩) 1 1] 44)).heap.size = W4.heap.size + 1 := World.size_alloc _ _
  rw [hS_W4] at hN_W5 hS_W5
  generalize W4.alloc (Obj.cells #[Value.bool false, Value.string ⟨#[99]⟩, Value.slice (some ⟨g + 1 + 1 + 1, 0, none⟩) 1 1] 44) = W5 at hW_W5 hN_W5 hS_W5 ⊢
  have hb12 := below_step hW_W1 hW_W2
  have hb13 := below_step hb12 hW_W3
  have hb14 := below_step hb13 hW_W4
  have HB := Aside0.mk (below_step hb14 hW_W5)
  have K0 := Aside0.mk (blk_below (blk_below (blk_below (blk_below hN_W1 hW_W2) hW_W3) hW_W4) hW_W5)
  have K1 := Aside0.mk (blk_below (blk_below (blk_below hN_W2 hW_W3) hW_W4) hW_W5)
  have K2 := Aside0.mk (blk_below (blk_below hN_W3 hW_W4) hW_W5)
  have K3 := Aside0.mk (blk_below hN_W4 hW_W5)
  have K4 := Aside0.mk hN_W5
  have HG := Aside0.mk (show w.heap.size ≤ g by omega)
  have HZ := Aside0.mk (show g + 1 + 1 + 1 + 1 < W5.heap.size by omega)
  clear hb12 hb13 hb14 hW_W1 hW_W2 hW_W3 hW_W4 hW_W5 hN_W1 hN_W2 hN_W3 hN_W4 hN_W5 hS_W1 hS_W2 hS_W3 hS_W4 hS_W5 hg_g
  have k0 := blk_cell K4.out 0
  have k1 := blk_cell K4.out 1
  have k2 := blk_cell K4.out 2
  go_wp2_with fail
  go_at_call 13
  have hc := check_Cond aCs (some ⟨g + 1, 0, none⟩) 1 false cC (aAs 0) (some ⟨g + 1 + 1 + 1, 0, none⟩) 1 [] none 0 W5 (aC30 K0.out K1.out) (Nat.le_refl _) (aC57 0 K2.out K3.out) (Nat.le_refl _) (Kd.C_nil _ _) (Nat.le_refl _) (by decide) (fun c hc => (fewC.2 c hc).2.1) (fewA 0) (by decide) (sizeA 0)
  rw [cond0] at hc
  refine hc.mono ?_
  clear hc k0 k1 k2
  rintro ex W6 ⟨v, rfl, hv, hb⟩
  obtain ⟨T, cT, rfl⟩ := Kd.R_slice hv
  have HBV := Aside0.mk hb
  have HRV := Aside0.mk hv
  have N0 := Aside0.mk (blk_below K0.out hb)
  have N1 := Aside0.mk (blk_below K1.out hb)
  have N2 := Aside0.mk (blk_below K2.out hb)
  have N3 := Aside0.mk (blk_below K3.out hb)
  have N4 := Aside0.mk (blk_below K4.out hb)
  clear hv hb K0 K1 K2 K3 K4
  have k2 := blk_cell N4.out 2
  have m2 := blk_cell N3.out 2
  have n0 := blk_cell N2.out 0
  have f0 := blk_frozen N2.out 0
  go_upto_region 5 with fail
  clear k2 m2 n0 f0
  have hsz := HZ.out
  have hne : ∀ k, k ≠ g + 1 + 1 → (W6.setCell ⟨g + 1 + 1, 0, none⟩ (Value.int IntKind.u8 4)).heap[k]? = W6.heap[k]? := fun k hk => heap_setCell_other _ _ _ _ hk
  have M0 := Aside0.mk ((hne g (by omega)).trans N0.out)
  have M1 := Aside0.mk ((hne (g + 1) (by omega)).trans N1.out)
  have M2 := Aside0.mk (heap_setCell_same W6 (g + 1 + 1) 0 _ 61 (Value.int IntKind.u8 4) N2.out)
  have M3 := Aside0.mk ((hne (g + 1 + 1 + 1) (by omega)).trans N3.out)
  have M4 := Aside0.mk ((hne (g + 1 + 1 + 1 + 1) (by omega)).trans N4.out)
  have MR := Aside0.mk (Kd.R_far (p := ⟨g + 1 + 1, 0, none⟩) (Kd.R_bound HRV.out) (fun k hk => by have := hk.2.1; show k ≠ g + 1 + 1; omega) (Value.int IntKind.u8 4))
  have MB := Aside0.mk ((below_step HB.out HBV.out).setCell (p := ⟨g + 1 + 1, 0, none⟩) (show w.heap.size ≤ g + 1 + 1 by have := HG.out; omega) (Value.int IntKind.u8 4))
  have MS := Aside0.mk (show g + 1 + 1 + 1 + 1 < (W6.setCell ⟨g + 1 + 1, 0, none⟩ (Value.int IntKind.u8 4)).heap.size by have := blk_lt M4.out; omega)
  clear hsz hne N0 N1 N2 N3 N4 HB HBV HRV
  generalize W6.setCell ⟨g + 1 + 1, 0, none⟩ (Value.int IntKind.u8 4) = W7 at M0 M1 M2 M3 M4 MR MB MS ⊢
  have k0 := blk_cell M4.out 0
  have k1 := blk_cell M4.out 1
  have k2 := blk_cell M4.out 2
  go_wp2_with fail
  go_at_call 13
  have hc := check_Cond aCs (some ⟨g + 1, 0, none⟩) 1 false cC (aAs 4) (some ⟨g + 1 + 1 + 1, 0, none⟩) 1 [] none 0 W7 (aC30 M0.out M1.out) (Nat.le_refl _) (aC57 4 M2.out M3.out) (Nat.le_refl _) (Kd.C_nil _ _) (Nat.le_refl _) (by decide) (fun c hc => (fewC.2 c hc).2.1) (fewA 4) (by decide) (sizeA 4)
  rw [cond4] at hc
  refine hc.mono ?_
  clear hc k0 k1 k2
  rintro ex W8 ⟨v, rfl, hv, hb⟩
  have nR := Aside0.mk (Kd.R_below MR.out hb)
  have nB := Aside0.mk (below_step MB.out hb)
  have n0 := Aside0.mk (blk_below M0.out hb)
  have n1 := Aside0.mk (blk_below M1.out hb)
  clear hv hb MR MB M0 M1 M2 M3 M4
  obtain ⟨ad, e1, hx0⟩ := Kd.at_string (Kd.R_reads' nR.out).2.2 0 (by decide) (by decide)
  subst e1
  have ead : ad.add ((0 : Int).toNat) = ad := by cases ad; rfl
  rw [ead] at hx0
  rw [show rdOf ByteArray.empty [cX] 0 = cX from rfl] at hx0
  have HX := Aside0.mk hx0
  have hxl : (cX.toList = [120]) = True := eq_true (by rw [Lib.toList_data]; rfl)
  have hxb : (cX.toList == [120]) = true := by rw [Lib.toList_data]; rfl
  clear nR ead
  go_wp2_with fail
  go_at_call 18
  have hc := check_Program aCs (some ⟨g + 1, 0, none⟩) 1 [] none 0 W8 (aC30 n0.out n1.out) (Nat.le_refl _) (Kd.C_nil _ _) fewC fewRs
  rw [prog0] at hc
  refine hc.mono ?_
  clear hc hx0
  rintro ex W9 ⟨rfl, hb⟩
  have N0 := Aside0.mk (blk_below n0.out hb)
  have N1 := Aside0.mk (blk_below n1.out hb)
  have NB := Aside0.mk (below_step nB.out hb)
  clear hb n0 n1 nB
  go_wp2_with fail
  go_at_call 21
  have hc := check_Rule aCs (some ⟨g + 1, 0, none⟩) 1 z38 none 0 none 0 W9 (aC30 N0.out N1.out) (Nat.le_refl _) (Kd.C_nil _ _) (Kd.C_nil _ _) fewC fewR
  rw [rule9] at hc
  refine hc.mono ?_
  clear hc
  rintro ex WA ⟨rfl, hb⟩
  have HBA := Aside0.mk (below_step NB.out hb)
  clear hb N0 N1 NB
  go_wp2_with fail
  go_ret
  exact ⟨rfl, HBA.out⟩
end Go.Proofs.Ytlbcnkmojoinfaa.MCk
