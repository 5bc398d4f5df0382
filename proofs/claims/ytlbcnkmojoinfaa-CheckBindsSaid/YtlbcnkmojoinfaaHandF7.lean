/- The contract of check.Rule. -/
import Derived.Test.YtlbcnkmojoinfaaHandF6
namespace Go.Proofs.Ytlbcnkmojoinfaa.ChecksV
open Go.RowKit Go.Proofs.Ytlbcnkmojoinfaa.MCk
/-- A rule's conditions: what is bound behind them. -/
def condsT (l : List S30) : List S44 → List ByteArray → List ByteArray × Int
  | [], b => (b, 0)
  | c :: r, b => if (condT l c.f0 c.f1 c.f2 b).2 = 0 then condsT l r (condT l c.f0 c.f1 c.f2 b).1 else ([], (condT l c.f0 c.f1 c.f2 b).2)
/-- What is bound behind an act. -/
def bindA (a : S65) (b : List ByteArray) : List ByteArray := if a.f0 = 3 then b ++ [a.f3] else b
/-- A rule's acts. -/
def actsT (l : List S30) (conds : List S44) : List S65 → List ByteArray → Int
  | [], _ => 0
  | a :: r, b => if actT l conds a b = 0 then actsT l conds r (bindA a b) else actT l conds a b
/-- A rule. -/
def ruleT (l : List S30) (r : S38) : Int :=
  if r.f1.length = 0 ∨ (rd_T44 r.f1 0).f0 = true then 9 else if (condsT l r.f1 []).2 = 0 then actsT l r.f1 r.f2 (condsT l r.f1 []).1 else (condsT l r.f1 []).2
/-- A condition's attributes are few, each with few tests, and short. -/
def FewCond (c : S44) : Prop := c.f2.length ≤ 10 ∧ ∀ a ∈ c.f2, a.f0.size ≤ 1000000 ∧ a.f2.length ≤ 12
/-- A rule's conditions and acts are few, and short. -/
def FewRule (r : S38) : Prop := r.f1.length ≤ 8 ∧ (∀ c ∈ r.f1, FewCond c) ∧ r.f2.length ≤ 1000 ∧ ∀ a ∈ r.f2, FewAct a
theorem attrsT_len (cs : List ByteArray) : ∀ (l : List S57) (met now : List ByteArray), (∀ a ∈ l, a.f2.length ≤ 12) → (attrsT cs l met now).1.length ≤ now.length + 12 * l.length
  | [], met, now, _ => Nat.le_add_right _ _
  | a :: r, met, now, h => by
    rw [attrsT]
    split
    · split
      · exact Nat.zero_le _
      · split
        · refine Nat.le_trans (attrsT_len cs r _ _ (fun x hx => h x (List.mem_cons_of_mem _ hx))) ?_
          have := bindsT_len a.f2 now
          have := h a List.mem_cons_self
          rw [List.length_cons]
          omega
        · exact Nat.zero_le _
    · exact Nat.zero_le _
theorem condT_len (l : List S30) (c : S44) (h : FewCond c) (b : List ByteArray) : (condT l c.f0 c.f1 c.f2 b).1.length ≤ b.length + 120 := by
  unfold condT
  split
  · exact Nat.zero_le _
  · have := attrsT_len (by assumption : S30).f1 c.f2 [] b (fun a ha => (h.2 a ha).2)
    have := h.1
    split
    · split
      · exact Nat.le_add_right _ _
      · show (attrsT _ _ _ _).1.length ≤ _
        omega
    · exact Nat.zero_le _
theorem rd44 (l : List S44) (j : Nat) (h : j < l.length) : rd_T44 l (j : Int) = l[j] := by
  unfold rd_T44
  rw [Int.toNat_natCast, List.getD_eq_getElem?_getD, List.getElem?_eq_getElem h]
  rfl
theorem rd65 (l : List S65) (j : Nat) (h : j < l.length) : rd_T65 l (j : Int) = l[j] := by
  unfold rd_T65
  rw [Int.toNat_natCast, List.getD_eq_getElem?_getD, List.getElem?_eq_getElem h]
  rfl
theorem bindA_len (a : S65) (b : List ByteArray) : (bindA a b).length ≤ b.length + 1 := by
  unfold bindA
  split
  · simp
  · omega
end Go.Proofs.Ytlbcnkmojoinfaa.ChecksV
namespace Go.Proofs.Ytlbcnkmojoinfaa.MCk
open Go.RowKit Go.Maps Go.Proofs.Ytlbcnkmojoinfaa.Hand Go.Proofs.Ytlbcnkmojoinfaa.ChecksV Go.Proofs.YtlbcnkmojoinfaaW.PrintWords Go.Proofs.YtlbcnkmojoinfaaW.PrintLast Go.Proofs.YtlbcnkmojoinfaaW.PrintMore
set_option linter.unusedVariables false
set_option linter.unusedSimpArgs false
set_option maxHeartbeats 8000000 in
set_option maxRecDepth 100000 in
theorem check_Rule (l : List S30) (A0 : Option Addr) (c0 : Nat) (r : S38) (A1 : Option Addr) (c1 : Nat) (A2 : Option Addr) (c2 : Nat) (w : World)
    (hC : Kd.C k30 w A0 l.length l) (hc0 : l.length ≤ c0) (h1 : Kd.C k44 w A1 r.f1.length r.f1) (h2 : Kd.C k65 w A2 r.f2.length r.f2) (hF : FewC l) (hR : FewRule r) :
    Calls Try.prog 21 #[.slice A0 l.length c0, .agg #[.string r.f0, .slice A1 r.f1.length c1, .slice A2 r.f2.length c2]] w fun e w' => e = .returned (.int .i64 (ruleT l r)) ∧ Below w.heap.size w w' := by
  have HC := Aside0.mk hC
  have HL0 := Aside0.mk hc0
  have H1 := Aside0.mk h1
  have H2 := Aside0.mk h2
  have HF := Aside0.mk hF
  have HR := Aside0.mk hR
  clear hC hc0 h1 h2 hF hR
  obtain ⟨rs, ht⟩ : ∃ rs, rs = ruleT l r := ⟨_, rfl⟩
  rw [← ht]
  have HT := Aside0.mk ht
  clear ht
  go_enter Try.func21, Try.ntmps21
  go_upto_region 1 with fail
  obtain ⟨g3, hg_g3⟩ : ∃ g, g = w.heap.size := ⟨_, rfl⟩
  have hW_W1 := below_alloc (Below.refl w.heap.size w) (Obj.cells #[Value.string r.f0, Value.slice A1 r.f1.length c1, Value.slice A2 r.f2.length c2] 38)
  have hN_W1 := blk_new w (Obj.cells #[Value.string r.f0, Value.slice A1 r.f1.length c1, Value.slice A2 r.f2.length c2] 38)
  have hS_W1 : (w.alloc (Obj.cells #[Value.string r.f0, Value.slice A1 r.f1.length c1, Value.slice A2 r.f2.length c2] 38)).heap.size = w.heap.size + 1 := World.size_alloc _ _
  rw [← hg_g3] at hN_W1 hS_W1 ⊢
  generalize w.alloc (Obj.cells #[Value.string r.f0, Value.slice A1 r.f1.length c1, Value.slice A2 r.f2.length c2] 38) = W1 at hW_W1 hN_W1 hS_W1 ⊢
  have HB := Aside0.mk hW_W1
  have HK3 := Aside0.mk hN_W1
  have HZ1 := Aside0.mk (show g3 < W1.heap.size by omega)
  clear hW_W1 hN_W1 hS_W1 hg_g3
  have k1 := blk_cell HK3.out 1
  have k2 := blk_cell HK3.out 2
  by_cases hz : r.f1.length = 0
  · have ht := HT.out
    unfold ruleT at ht
    rw [if_pos (.inl hz)] at ht
    have HT2 := Aside0.mk ht
    have ez : ((r.f1.length : Int) == 0) = true := by rw [hz]; rfl
    clear ht hz
    go_wp2_with fail
    go_ret
    exact ⟨by rw [HT2.out]; rfl, HB.out⟩
  · have ez : ((r.f1.length : Int) == 0) = false := beq_eq_false_iff_ne.mpr (by omega)
    obtain ⟨ad, B2, d2, e1, hx0, hx1, hx2, hl2, hi2⟩ := at_T44 H1.out 0 (by omega) (by omega)
    subst e1
    replace hx0 := (HB.out.cell (World.block_lt_of_cell? w _ hx0)).trans hx0
    have ead : ad.add ((0 : Int).toNat * 3) = ad := by cases ad; rfl
    rw [ead] at hx0
    have HNZ := Aside0.mk hz
    have p1 := eq_true (show 0 < r.f1.length by omega)
    clear hx1 hx2 hl2 hi2 hz
    by_cases hn : (rd_T44 r.f1 0).f0 = true
    · have ht := HT.out
      unfold ruleT at ht
      rw [if_pos (.inr hn)] at ht
      have HT2 := Aside0.mk ht
      rw [hn] at hx0
      clear ht hn
      go_wp2_with fail
      go_ret
      exact ⟨by rw [HT2.out]; rfl, HB.out⟩
    · have ht := HT.out
      unfold ruleT at ht
      rw [if_neg (fun h => h.elim HNZ.out hn)] at ht
      have HT2 := Aside0.mk ht
      replace hn := Bool.eq_false_iff.mpr hn
      rw [hn] at hx0
      clear ht hn
      go_wp2_with fail
      clear hx0 k1 k2 ez p1 ead
      have HB0 := Aside0.mk (Below.refl W1.heap.size W1)
      go_loopw [5, 27] (fun v i wr => ∃ (j : Nat) (b : List ByteArray), j ≤ r.f1.length ∧ i = .int .i64 (j : Int) ∧ b.length ≤ 120 * j ∧ condsT l (r.f1.drop j) b = condsT l r.f1 [] ∧ Kd.R Kd.string 9 wr W1.heap.size (fun _ => True) v b ∧ Below W1.heap.size W1 wr)
        (fun _ i _ => r.f1.length - (intOf i).toNat)
      case atStart => exact ⟨0, [], Nat.zero_le _, rfl, Nat.le_refl _, rfl, Kd.R_nil _ _ _ _ _, HB0.out⟩
      case round =>
        obtain ⟨j, b, hj, rfl, hbl, hcd, hR, hb⟩ := hrel
        clear HB0
        have HBL := Aside0.mk hbl
        have HCD := Aside0.mk hcd
        have HRB := Aside0.mk hR
        have HB2 := Aside0.mk hb
        clear hbl hcd hR hb
        by_cases hlt : j < r.f1.length
        · have b1 : decide ((j : Int) < (r.f1.length : Int)) = true := decide_eq_true (by omega)
          have HLT := Aside0.mk hlt
          obtain ⟨ad2, B3, d3, e1, hx0, hx1, hx2, hl3, hi3⟩ := at_T44 H1.out (j : Int) (by omega) (by omega)
          injection e1 with e1
          subst e1
          have hwr := below_step HB.out HB2.out
          replace hx0 := (hwr.cell (World.block_lt_of_cell? w _ hx0)).trans hx0
          replace hx1 := (hwr.cell (World.block_lt_of_cell? w _ hx1)).trans hx1
          replace hx2 := (hwr.cell (World.block_lt_of_cell? w _ hx2)).trans hx2
          have hd := HCD.out
          rw [List.drop_eq_getElem_cons hlt, condsT] at hd
          rw [rd44 r.f1 j hlt] at hx0 hx1 hx2 hl3 hi3
          have hfe := HR.out.2.1 _ (List.getElem_mem hlt)
          rw [Int.toNat_natCast] at hx0 hx1 hx2
          generalize r.f1[j] = y at hx0 hx1 hx2 hl3 hi3 hd hfe
          have p0 := eq_true (show 0 ≤ (j : Int) by omega)
          have p1 := eq_true (show (j : Int) < (r.f1.length : Int) by omega)
          have HD := Aside0.mk hd
          have HFE := Aside0.mk hfe
          have HI3 := Aside0.mk hi3
          have HL3 := Aside0.mk hl3
          obtain ⟨T, cT, rfl⟩ := Kd.R_slice HRB.out
          clear hlt hwr hd hfe hi3 hl3
          go_upto_region 7 with fail
          obtain ⟨gb, hg_gb⟩ : ∃ g, g = wr.heap.size := ⟨_, rfl⟩
          have hW_wa := below_alloc (Below.refl wr.heap.size wr) (Obj.cells #[Value.bool y.f0, Value.string y.f1, Value.slice B3 y.f2.length d3] 44)
          have hN_wa := blk_new wr (Obj.cells #[Value.bool y.f0, Value.string y.f1, Value.slice B3 y.f2.length d3] 44)
          have hS_wa : (wr.alloc (Obj.cells #[Value.bool y.f0, Value.string y.f1, Value.slice B3 y.f2.length d3] 44)).heap.size = wr.heap.size + 1 := World.size_alloc _ _
          rw [← hg_gb] at hN_wa hS_wa ⊢
          generalize wr.alloc (Obj.cells #[Value.bool y.f0, Value.string y.f1, Value.slice B3 y.f2.length d3] 44) = wa at hW_wa hN_wa hS_wa ⊢
          have HRA := Aside0.mk (Kd.R_below HRB.out hW_wa)
          have HBA := Aside0.mk (below_step HB2.out hW_wa)
          have HKA := Aside0.mk hN_wa
          clear hW_wa hN_wa hS_wa hg_gb hx0 hx1 hx2 HRB HB2
          have k0 := blk_cell HKA.out 0
          have k1 := blk_cell HKA.out 1
          have k2 := blk_cell HKA.out 2
          go_wp2_with fail
          go_at_call 13
          have hsb := HBL.out
          have hlt2 := HLT.out
          have hr8 := HR.out.1
          have hwa := below_step HB.out HBA.out
          refine (check_Cond l A0 c0 y.f0 y.f1 y.f2 B3 d3 b T cT wa (Kd.C_below HC.out hwa) HL0.out (Kd.C_below HI3.out hwa) HL3.out (Kd.R_reads' HRA.out).2.2 (Kd.R_reads' HRA.out).2.1 HF.out.1 (fun c hc => (HF.out.2 c hc).2.1) ⟨by have := HFE.out.1; omega, fun a ha => by have := (HFE.out.2 a ha).2; omega⟩ (by omega) (fun a ha => (HFE.out.2 a ha).1)).mono ?_
          clear hsb hlt2 hr8 hwa k0 k1 k2
          rintro ex wb ⟨v, rfl, hv, hb⟩
          have HRV := Aside0.mk (Kd.R_lower hv HBA.out.size)
          have HBB := Aside0.mk (below_step HBA.out hb)
          have HCL := Aside0.mk (condT_len l y HFE.out b)
          clear hv hb HKA HRA HBA
          have hd := HD.out
          clear HD
          generalize condT l y.f0 y.f1 y.f2 b = o at hd HRV HCL ⊢
          have HD := Aside0.mk hd
          clear hd
          by_cases hz : o.2 = 0
          · have hd := HD.out
            rw [if_pos hz] at hd
            have HD2 := Aside0.mk hd
            rw [hz]
            clear hd hz
            go_wp2_with fail
            have hlt2 := HLT.out
            have hcl := HCL.out
            have hbl := HBL.out
            have hr8 := HR.out.1
            rw [add1' (by omega)]
            exact ⟨⟨j + 1, o.1, by omega, rfl, by omega, HD2.out, HRV.out, HBB.out⟩, by simp [intOf]; omega⟩
          · have hd := HD.out
            rw [if_neg hz] at hd
            have ht := HT2.out
            rw [← hd, if_neg (by exact hz)] at ht
            have HT3 := Aside0.mk ht
            have hzz : (o.2 != 0) = true := bne_iff_ne.mpr hz
            clear hd ht hz
            go_wp2_with fail
            go_ret
            exact ⟨by rw [HT3.out]; rfl, below_step HB.out HBB.out⟩
        · obtain rfl : j = r.f1.length := by omega
          have b1 : decide ((r.f1.length : Int) < (r.f1.length : Int)) = false := decide_eq_false (by omega)
          have hd := HCD.out
          rw [List.drop_length, condsT] at hd
          have ht := HT2.out
          rw [← hd, if_pos (show (b, (0 : Int)).2 = 0 from rfl)] at ht
          have HT3 := Aside0.mk ht
          clear hlt hd ht HT HT2 HCD
          have HK2 := Aside0.mk (blk_below HK3.out HB2.out)
          have k2 := blk_cell HK2.out 2
          go_wp2_with fail
          clear k2 b1
          go_loopw [5, 46] (fun v i wr => ∃ (j : Nat) (b : List ByteArray), j ≤ r.f2.length ∧ i = .int .i64 (j : Int) ∧ b.length ≤ 960 + j ∧ actsT l r.f1 (r.f2.drop j) b = rs ∧ Kd.R Kd.string 9 wr W1.heap.size (fun _ => True) v b ∧ Below W1.heap.size W1 wr)
            (fun _ i _ => r.f2.length - (intOf i).toNat)
          case atStart => exact ⟨0, b, Nat.zero_le _, rfl, by have := HBL.out; have := HR.out.1; omega, HT3.out.symm, HRB.out, HB2.out⟩
          case round =>
            clear HBL HRB HT3 HB2 HK2
            obtain ⟨j, b, hj, rfl, hbl, hcd, hR, hb⟩ := hrel
            have HBL := Aside0.mk hbl
            have HCD := Aside0.mk hcd
            have HRB := Aside0.mk hR
            have HB2 := Aside0.mk hb
            clear hbl hcd hR hb
            by_cases hlt : j < r.f2.length
            · have b1 : decide ((j : Int) < (r.f2.length : Int)) = true := decide_eq_true (by omega)
              have HLT := Aside0.mk hlt
              obtain ⟨ad3, B4, d4, B5, d5, e1, hx0, hx1, hx2, hx3, hx4, hx5, hl4, hi4, hl5, hi5⟩ := at_T65 H2.out (j : Int) (by omega) (by omega)
              subst e1
              have hwr := below_step HB.out HB2.out
              replace hx0 := (hwr.cell (World.block_lt_of_cell? w _ hx0)).trans hx0
              replace hx1 := (hwr.cell (World.block_lt_of_cell? w _ hx1)).trans hx1
              replace hx2 := (hwr.cell (World.block_lt_of_cell? w _ hx2)).trans hx2
              replace hx3 := (hwr.cell (World.block_lt_of_cell? w _ hx3)).trans hx3
              replace hx4 := (hwr.cell (World.block_lt_of_cell? w _ hx4)).trans hx4
              replace hx5 := (hwr.cell (World.block_lt_of_cell? w _ hx5)).trans hx5
              have hd := HCD.out
              rw [List.drop_eq_getElem_cons hlt, actsT] at hd
              rw [rd65 r.f2 j hlt] at hx0 hx1 hx2 hx3 hx4 hx5 hl4 hi4 hl5 hi5
              have hfe := HR.out.2.2.2 _ (List.getElem_mem hlt)
              rw [Int.toNat_natCast] at hx0 hx1 hx2 hx3 hx4 hx5
              generalize r.f2[j] = y at hx0 hx1 hx2 hx3 hx4 hx5 hl4 hi4 hl5 hi5 hd hfe
              have p0 := eq_true (show 0 ≤ (j : Int) by omega)
              have p1 := eq_true (show (j : Int) < (r.f2.length : Int) by omega)
              have HD := Aside0.mk hd
              have HFE := Aside0.mk hfe
              have HI4 := Aside0.mk hi4
              have HI5 := Aside0.mk hi5
              obtain ⟨T, cT, rfl⟩ := Kd.R_slice HRB.out
              clear hlt hwr hd hfe hi4 hl4 hi5 hl5
              go_upto_region 15 with fail
              obtain ⟨gb, hg_gb⟩ : ∃ g, g = wr.heap.size := ⟨_, rfl⟩
              have hW_wa := below_alloc (Below.refl wr.heap.size wr) (Obj.cells #[Value.int IntKind.u8 y.f0, Value.string y.f1, Value.int IntKind.i64 y.f2, Value.string y.f3, Value.slice B4 y.f4.length d4, Value.slice B5 y.f5.length d5] 65)
              have hN_wa := blk_new wr (Obj.cells #[Value.int IntKind.u8 y.f0, Value.string y.f1, Value.int IntKind.i64 y.f2, Value.string y.f3, Value.slice B4 y.f4.length d4, Value.slice B5 y.f5.length d5] 65)
              have hS_wa : (wr.alloc (Obj.cells #[Value.int IntKind.u8 y.f0, Value.string y.f1, Value.int IntKind.i64 y.f2, Value.string y.f3, Value.slice B4 y.f4.length d4, Value.slice B5 y.f5.length d5] 65)).heap.size = wr.heap.size + 1 := World.size_alloc _ _
              rw [← hg_gb] at hN_wa hS_wa ⊢
              generalize wr.alloc (Obj.cells #[Value.int IntKind.u8 y.f0, Value.string y.f1, Value.int IntKind.i64 y.f2, Value.string y.f3, Value.slice B4 y.f4.length d4, Value.slice B5 y.f5.length d5] 65) = wa at hW_wa hN_wa hS_wa ⊢
              have HRA := Aside0.mk (Kd.R_below HRB.out hW_wa)
              have HBA := Aside0.mk (below_step HB2.out hW_wa)
              have HKA := Aside0.mk hN_wa
              clear hW_wa hN_wa hS_wa hg_gb hx0 hx1 hx2 hx3 hx4 hx5 HRB HB2
              have k0 := blk_cell HKA.out 0
              have k1 := blk_cell HKA.out 1
              have k2 := blk_cell HKA.out 2
              have k3 := blk_cell HKA.out 3
              have k4 := blk_cell HKA.out 4
              have k5 := blk_cell HKA.out 5
              have q0 := blk_cell (blk_below HK3.out HBA.out) 0
              have q1 := blk_cell (blk_below HK3.out HBA.out) 1
              have q2 := blk_cell (blk_below HK3.out HBA.out) 2
              go_wp2_with fail
              go_at_call 33
              have hsb := HBL.out
              have hlt2 := HLT.out
              have hr8 := HR.out.1
              have hr9 := HR.out.2.2.1
              have hwa := below_step HB.out HBA.out
              refine (check_act l A0 c0 r.f0 r.f1 (some ad) c1 (some ad3) r.f2.length c2 y B4 d4 B5 d5 b T cT wa (Kd.C_below HC.out hwa) HL0.out (Kd.C_below H1.out hwa) (Kd.C_below HI4.out hwa) (Kd.C_below HI5.out hwa) (Kd.R_reads' HRA.out).2.2 (Kd.R_reads' HRA.out).2.1 HF.out (by omega) HFE.out (by omega)).mono ?_
              clear hsb hlt2 hr8 hr9 hwa k0 k1 k2 k3 k4 k5 q0 q1 q2
              rintro ex wb ⟨rfl, hb⟩
              have HRV := Aside0.mk (Kd.R_below HRA.out hb)
              have HBB := Aside0.mk (below_step HBA.out hb)
              have HKB := Aside0.mk (blk_below HKA.out hb)
              clear hb HKA HRA HBA
              by_cases hz : actT l r.f1 y b = 0
              · have hd := HD.out
                rw [if_pos hz] at hd
                have HD2 := Aside0.mk hd
                have k0 := blk_cell HKB.out 0
                have k3 := blk_cell HKB.out 3
                rw [hz]
                clear hd hz
                by_cases h3 : y.f0 = 3
                · have hd := HD2.out
                  rw [show bindA y b = b ++ [y.f3] from if_pos h3] at hd
                  have HD3 := Aside0.mk hd
                  have b3 : (y.f0 == 3) = true := beq_iff_eq.mpr h3
                  clear hd
                  go_wp2_with (first | ((with_reducible refine gate_builtin (b := .append) (xs := #[.tmp 61, .tmp 64]) rfl ?_); at_builtin; refine Kd.R_append Kd.string (w0 := W1) W1.heap.size rfl (.tmp 61) (.tmp 64) 26 9 (.string ⟨#[]⟩) 16 rfl Try.underlying26 info9 rfl (by decide) (by omega) (.slice T b.length cT) b (y.f3) [.string y.f3] (fun _ => True) (fun _ => False) rfl rfl ?aP (fun _ hk => hk.elim) ?aF ?aO ?aB ?aS ?aL ?_; (case aP => exact rfl); (case aB => exact HBB.out); (case aF => exact fun _ _ => trivial); (case aO => exact HRV.out); (case aS => exact HBB.out.size); (case aL => have := HBL.out; have := HLT.out; have := HR.out.2.2.1; omega); intro v1 w1 ho hb hg hat; have HRW := Aside0.mk ho; have HBW := Aside0.mk hb; clear ho hb hg hat HRV HBB HKB k0 k3) | fail)
                  have hlt2 := HLT.out
                  have hbl := HBL.out
                  have hr9 := HR.out.2.2.1
                  rw [add1' (by omega)]
                  exact ⟨⟨j + 1, b ++ [y.f3], by omega, rfl, by rw [List.length_append]; show b.length + 1 ≤ _; omega, HD3.out, HRW.out, HBW.out⟩, by simp [intOf]; omega⟩
                · have hd := HD2.out
                  rw [show bindA y b = b from if_neg h3] at hd
                  have HD3 := Aside0.mk hd
                  have b3 : (y.f0 == 3) = false := beq_eq_false_iff_ne.mpr h3
                  clear hd
                  go_wp2_with fail
                  have hlt2 := HLT.out
                  have hbl := HBL.out
                  have hr9 := HR.out.2.2.1
                  rw [add1' (by omega)]
                  exact ⟨⟨j + 1, b, by omega, rfl, by omega, HD3.out, HRV.out, HBB.out⟩, by simp [intOf]; omega⟩
              · have hd := HD.out
                rw [if_neg hz] at hd
                have HT3 := Aside0.mk hd
                have hzz : (actT l r.f1 y b != 0) = true := bne_iff_ne.mpr hz
                clear hd hz
                go_wp2_with fail
                go_ret
                exact ⟨by rw [HT3.out]; rfl, below_step HB.out HBB.out⟩
            · obtain rfl : j = r.f2.length := by omega
              have b1 : decide ((r.f2.length : Int) < (r.f2.length : Int)) = false := decide_eq_false (by omega)
              have hd := HCD.out
              rw [List.drop_length, actsT] at hd
              have HD := Aside0.mk hd
              clear hlt hd
              go_wp2
              go_ret
              exact ⟨by rw [← HD.out]; rfl, below_step HB.out HB2.out⟩
end Go.Proofs.Ytlbcnkmojoinfaa.MCk
