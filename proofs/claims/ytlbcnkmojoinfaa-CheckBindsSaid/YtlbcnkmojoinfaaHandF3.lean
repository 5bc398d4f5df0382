/- The contract of check.Cond. -/
import Derived.Test.YtlbcnkmojoinfaaHandF2
import Derived.Test.YtlbcnkmojoinfaaChecksR
namespace Go.Proofs.Ytlbcnkmojoinfaa.Hand
open Go.RowKit Go.Proofs.Ytlbcnkmojoinfaa.ChecksV
theorem has_eq (l : List ByteArray) (x : ByteArray) : has l x = hasN l x := by
  unfold has hasN
  congr 1
  funext y
  have : (y = x) = (y.toList = x.toList) := by
    apply propext
    constructor
    · intro h; rw [h]
    · intro h
      rw [Lib.toList_data, Lib.toList_data] at h
      exact bytes_ext h
  simp only [this]
theorem Met.lt {w : World} {b : Nat} {out : List ByteArray} (h : Met w b out) : b < w.heap.size := by
  obtain ⟨D, h1, _⟩ := h.own
  exact h1.lt
theorem Met.of_block {w w' : World} {b : Nat} {out : List ByteArray} (h : Met w b out) (e : w'.heap[b]? = w.heap[b]?) : Met w' b out := by
  obtain ⟨D, ⟨es, clock, hb, F, hs, hD⟩, h2⟩ := h.own
  exact ⟨D, ⟨es, clock, e.trans hb, F, hs, hD⟩, h2⟩
theorem Met.below {w w' : World} {b : Nat} {out : List ByteArray} (h : Met w b out) (hb : Below w.heap.size w w') : Met w' b out := h.of_block (hb.block b h.lt)
theorem Met.made (w : World) : Met (w.alloc (.map #[] 0)) w.heap.size [] := ⟨.map [], World.ownsMap_made _ _ _ _, Says.empty⟩
theorem add1' {j : Nat} (h : j ≤ 1000000) : wrap64 ((j : Int) + 1) = ((j + 1 : Nat) : Int) := by unfold wrap64; omega
end Go.Proofs.Ytlbcnkmojoinfaa.Hand
namespace Go.Proofs.Ytlbcnkmojoinfaa.MCk
open Go.RowKit Go.Maps Go.Proofs.Ytlbcnkmojoinfaa.Hand Go.Proofs.Ytlbcnkmojoinfaa.ChecksV Go.Proofs.YtlbcnkmojoinfaaW.PrintWords Go.Proofs.YtlbcnkmojoinfaaW.PrintLast Go.Proofs.YtlbcnkmojoinfaaW.PrintMore
set_option linter.unusedVariables false
set_option linter.unusedSimpArgs false
set_option maxHeartbeats 16000000 in
set_option maxRecDepth 100000 in
theorem check_Cond (l : List S30) (A0 : Option Addr) (c0 : Nat) (neg : Bool) (cls : ByteArray) (attrs : List S57) (A1 : Option Addr) (c1 : Nat) (bound : List ByteArray) (A2 : Option Addr) (c2 : Nat) (w : World)
    (hC0 : Kd.C k30 w A0 l.length l) (hc0 : l.length ≤ c0) (hC1 : Kd.C k57 w A1 attrs.length attrs) (hc1 : attrs.length ≤ c1) (hC2 : Kd.C Kd.string w A2 bound.length bound) (hc2 : bound.length ≤ c2)
    (hl : l.length ≤ 1000) (hcs : ∀ c ∈ l, c.f1.length ≤ 1000) (ha : FewA attrs) (hb : bound.length ≤ 1000) (hsz : ∀ a ∈ attrs, a.f0.size ≤ 1000000) :
    Calls Try.prog 13 #[.slice A0 l.length c0, .agg #[.bool neg, .string cls, .slice A1 attrs.length c1], .slice A2 bound.length c2] w fun e w' => ∃ v, e = .returned (.tuple #[v, .int .i64 (condT l neg cls attrs bound).2]) ∧ Kd.R Kd.string 9 w' w.heap.size (fun _ => True) v (condT l neg cls attrs bound).1 ∧ Below w.heap.size w w' := by
  have HC0 := Aside0.mk hC0
  have HL0 := Aside0.mk hc0
  have HC1 := Aside0.mk hC1
  have HL1 := Aside0.mk hc1
  have HC2 := Aside0.mk hC2
  have HL2 := Aside0.mk hc2
  have HSL := Aside0.mk hl
  have HSC := Aside0.mk hcs
  have HFA := Aside0.mk ha
  have HSB := Aside0.mk hb
  have HSZ := Aside0.mk hsz
  clear hC0 hc0 hC1 hc1 hC2 hc2 hl hcs ha hb hsz
  have hmm := @run_makeMap Try.prog
  go_enter Try.func13, Try.ntmps13
  go_wp2_with fail
  go_at_call 9
  obtain ⟨g4, hg4⟩ : ∃ g, g = w.heap.size := ⟨_, rfl⟩
  have hW := below_alloc (Below.refl w.heap.size w) (Obj.cells #[Value.bool neg, Value.string cls, Value.slice A1 attrs.length c1] 44)
  have hN := blk_new w (Obj.cells #[Value.bool neg, Value.string cls, Value.slice A1 attrs.length c1] 44)
  rw [← hg4] at hN ⊢
  generalize w.alloc (Obj.cells #[Value.bool neg, Value.string cls, Value.slice A1 attrs.length c1] 44) = W1 at hW hN ⊢
  have HB := Aside0.mk hW
  have HK4 := Aside0.mk hN
  have HG4 := Aside0.mk hg4
  clear hW hN hg4
  have hfd := check_Find.calls 1001 (fun k => k < W1.heap.size) A0 c0 l cls (foundT l cls).1 (foundT l cls).2.1 (foundT l cls).2.2 W1 (Kd.V_mk HL0.out (Kd.C_F k30_heap (Kd.C_below HC0.out HB.out))) (find_is 1001 l cls (by have := HSL.out; omega) (by have := HSL.out; omega))
  refine hfd.mono ?_
  clear hfd
  rintro ex W2 ⟨v1, rfl, hv, hb⟩
  obtain ⟨A8, c8, rfl, hc8, hF8⟩ := hv
  have nB := Aside0.mk (below_step HB.out hb)
  have nK4 := Aside0.mk (blk_below HK4.out hb)
  have HF8 := Aside0.mk (Kd.F_now hF8)
  have HC8 := Aside0.mk hc8
  clear hb hF8 hc8 HB HK4
  have HB := nB
  have HK4 := nK4
  clear nB nK4
  cases hf : findS l cls with
  | none =>
    have HCV := Aside0.mk (show condT l neg cls attrs bound = ([], 18) by unfold condT; rw [hf])
    have hft : foundT l cls = (⟨#[]⟩, [], false) := by unfold foundT; rw [hf]
    have HFT := Aside0.mk (show (foundT l cls).2.2 = false by rw [hft])
    clear hft hf
    rw [HFT.out]
    go_wp2_with fail
    go_ret2
    refine ⟨_, by rw [HCV.out]; rfl, ?_, (HB.out.alloc HB.out.size _)⟩
    rw [HCV.out]
    exact Kd.R_nil _ _ _ _ _
  | some c =>
    have hft : foundT l cls = (c.f0, c.f1, true) := by unfold foundT; rw [hf]
    have hcm : c.f1.length ≤ 1000 := by
      have hmem : ∀ (l : List S30) (x : ByteArray) (c : S30), findS l x = some c → c ∈ l := by
        intro l x c
        induction l with
        | nil => intro h; cases h
        | cons y r ih =>
          intro h
          rw [findS] at h
          split at h
          · exact List.mem_cons.mpr (.inl (Option.some.inj h).symm)
          · exact List.mem_cons.mpr (.inr (ih h))
      exact HSC.out c (hmem l cls c hf)
    have HCV := Aside0.mk (show condT l neg cls attrs bound = if (attrsT c.f1 attrs [] bound).2 = 0 then (if neg = true then (bound, 0) else attrsT c.f1 attrs [] bound) else ([], (attrsT c.f1 attrs [] bound).2) by unfold condT; rw [hf])
    have HCM := Aside0.mk hcm
    have nF8 := HF8.out
    have nC8 := HC8.out
    rw [hft] at nF8 nC8
    rw [hft]
    clear HF8 HC8 hft hf hcm
    have HF8 : Aside0 (Kd.C Kd.string W2 A8 c.f1.length c.f1) := ⟨nF8⟩
    have HC8 : Aside0 (c.f1.length ≤ c8) := ⟨nC8⟩
    clear nF8 nC8
    go_upto_region 4 with fail
    obtain ⟨g8, hg8⟩ : ∃ g, g = W2.heap.size := ⟨_, rfl⟩
    have hW := below_alloc (Below.refl W2.heap.size W2) (Obj.cells #[Value.string c.f0, Value.slice A8 c.f1.length c8] 30)
    have hN := blk_new W2 (Obj.cells #[Value.string c.f0, Value.slice A8 c.f1.length c8] 30)
    have hsz : W2.heap.size < (W2.alloc (Obj.cells #[Value.string c.f0, Value.slice A8 c.f1.length c8] 30)).heap.size := by rw [World.size_alloc]; omega
    rw [← hg8] at hN hsz ⊢
    generalize W2.alloc (Obj.cells #[Value.string c.f0, Value.slice A8 c.f1.length c8] 30) = W3 at hW hN hsz ⊢
    have nB := Aside0.mk (below_step HB.out hW)
    have nK4 := Aside0.mk (blk_below HK4.out hW)
    have HK8 := Aside0.mk hN
    have nF8 := Aside0.mk (Kd.C_below HF8.out hW)
    have HG8 := Aside0.mk (show w.heap.size ≤ g8 by rw [hg8]; exact HB.out.size)
    have HS8 := Aside0.mk hsz
    clear HB HK4 HF8 hW hN hsz hg8
    have HB := nB
    have HK4 := nK4
    have HF8 := nF8
    clear nB nK4 nF8
    go_wp2_with fail
    go_at_call 25
    have hmade := Hand.Met.made W3
    have hW := below_alloc (Below.refl W3.heap.size W3) (Obj.map #[] 0)
    have hsz : (W3.alloc (Obj.map #[] 0)).heap.size = W3.heap.size + 1 := World.size_alloc _ _
    obtain ⟨gm, hgm⟩ : ∃ g, g = W3.heap.size := ⟨_, rfl⟩
    rw [← hgm] at hmade hsz ⊢
    generalize W3.alloc (Obj.map #[] 0) = W4 at hmade hW hsz ⊢
    have hcl := slices_Clone_string_string.calls A2 c2 bound bound W4 (Kd.C_below (Kd.C_below HC2.out HB.out) hW) HL2.out (by unfold slices_Clone_string_string.f; exact if_pos (by have := HSB.out; omega))
    refine hcl.mono ?_
    clear hcl
    rintro ex W5 ⟨v5, rfl, hR5, hB5⟩
    have hR6 : Kd.R Kd.string 9 W5 W3.heap.size (fun k => gm < k) v5 bound := Kd.R_mono (Kd.R_lower (Kd.R_bound hR5) (by omega)) (fun k hk => by have := hk.2.1; omega)
    have HR6 := Aside0.mk hR6
    have HM6 := Aside0.mk (hmade.below hB5)
    have HB6 := Aside0.mk (below_step hW hB5)
    have HZ6 := Aside0.mk (show gm < W5.heap.size by have := hB5.size; omega)
    have HGM := Aside0.mk hgm
    clear hmade hW hsz hgm hR5 hB5 hR6
    have k2 := blk_cell (blk_below HK4.out HB6.out) 2
    go_wp2_with fail
    clear k2
    go_loopw [11, 33] (fun v i wr => ∃ (j : Nat) (met now : List ByteArray), j ≤ attrs.length ∧ i = .int .i64 (j : Int) ∧ met.length = j ∧ now.length ≤ 1000 + 1000 * j ∧ attrsT c.f1 (attrs.drop j) met now = attrsT c.f1 attrs [] bound ∧ Hand.Met wr gm met ∧ Kd.R Kd.string 9 wr W3.heap.size (fun k => gm < k) v now ∧ Below W3.heap.size W3 wr ∧ gm < wr.heap.size)
      (fun _ i _ => attrs.length - (intOf i).toNat)
    case atStart => exact ⟨0, [], bound, Nat.zero_le _, rfl, rfl, by have := HSB.out; omega, rfl, HM6.out, HR6.out, HB6.out, HZ6.out⟩
    case round =>
      obtain ⟨j, met, now, hj, rfl, hml, hnl, hat, hmet, hR, hb3, hz⟩ := hrel
      clear HM6 HR6 HB6 HZ6
      have HLM := Aside0.mk hml
      have HLN := Aside0.mk hnl
      have HAT := Aside0.mk hat
      have HME := Aside0.mk hmet
      have HRN := Aside0.mk hR
      have HB3 := Aside0.mk hb3
      have HZ := Aside0.mk hz
      clear hml hnl hat hmet hR hb3 hz
      by_cases hlt : j < attrs.length
      · have b1 : decide ((j : Int) < (attrs.length : Int)) = true := decide_eq_true (by omega)
        have HLT := Aside0.mk hlt
        obtain ⟨ad, B1, d1, B2, d2, e1, hx0, hx1, hx2, hl1, hi1, hl2, hi2⟩ := at_T57 HC1.out (j : Int) (by omega) (by omega)
        subst e1
        replace hx0 := ((below_step HB.out HB3.out).cell (World.block_lt_of_cell? w _ hx0)).trans hx0
        replace hx1 := ((below_step HB.out HB3.out).cell (World.block_lt_of_cell? w _ hx1)).trans hx1
        replace hx2 := ((below_step HB.out HB3.out).cell (World.block_lt_of_cell? w _ hx2)).trans hx2
        have hme := HAT.out
        rw [List.drop_eq_getElem_cons hlt] at hme
        rw [rd57 attrs j hlt] at hx0 hx1 hx2 hl1 hi1 hl2 hi2
        have hfe := (HFA.out).2 _ (List.getElem_mem hlt)
        have hse := HSZ.out _ (List.getElem_mem hlt)
        rw [Int.toNat_natCast] at hx0 hx1 hx2
        generalize attrs[j] = y at hx0 hx1 hx2 hl1 hi1 hl2 hi2 hme hfe hse
        have HD := Aside0.mk hme
        have HFE := Aside0.mk hfe
        have HSE := Aside0.mk hse
        have HI2 := Aside0.mk hi2
        have HL22 := Aside0.mk hl2
        have p0 := eq_true (show 0 ≤ (j : Int) by omega)
        have p1 := eq_true (show (j : Int) < (attrs.length : Int) by omega)
        clear hlt hme hfe hse hl1 hi1 hl2 hi2
        go_upto_region 9 with fail
        obtain ⟨gb, hgb⟩ : ∃ g, g = wr.heap.size := ⟨_, rfl⟩
        have hW := below_alloc (Below.refl wr.heap.size wr) (Obj.cells #[Value.string y.f0, Value.slice B1 y.f1.length d1, Value.slice B2 y.f2.length d2] 57)
        have hN := blk_new wr (Obj.cells #[Value.string y.f0, Value.slice B1 y.f1.length d1, Value.slice B2 y.f2.length d2] 57)
        have hsz : (wr.alloc (Obj.cells #[Value.string y.f0, Value.slice B1 y.f1.length d1, Value.slice B2 y.f2.length d2] 57)).heap.size = wr.heap.size + 1 := World.size_alloc _ _
        rw [← hgb] at hN hsz ⊢
        generalize wr.alloc (Obj.cells #[Value.string y.f0, Value.slice B1 y.f1.length d1, Value.slice B2 y.f2.length d2] 57) = wa at hW hN hsz ⊢
        have HRA := Aside0.mk (Kd.R_mono (Kd.R_below (Kd.R_bound HRN.out) hW) (ok' := fun k => gm < k ∧ k < gb) (fun k hk => ⟨hk.1, by have := hk.2.2.1; omega⟩))
        have HMA := Aside0.mk (HME.out.below hW)
        have HBA := Aside0.mk (below_step HB3.out hW)
        have HI2A := Aside0.mk (HI2.out)
        have HKB := Aside0.mk hN
        have HGB := Aside0.mk (show gm < gb by have := HZ.out; omega)
        have HSZA := Aside0.mk (show gb < wa.heap.size by omega)
        clear hW hN hsz hgb hx0 hx1 hx2 HME HRN
        have k0 := blk_cell HKB.out 0
        have e0 := blk_cell (blk_below HK8.out HBA.out) 0
        have e1 := blk_cell (blk_below HK8.out HBA.out) 1
        go_wp2_with fail
        go_at_call 11
        have hle8 := HC8.out
        have hcm := HCM.out
        obtain ⟨ix, hix⟩ := attr_is 1001 c.f0 c.f1 y.f0 (by omega) (by omega)
        refine (check_Attr.calls 1001 c.f0 A8 c8 c.f1 y.f0 ix (hasN c.f1 y.f0) wa (Kd.C_below HF8.out HBA.out) hle8 hix).mono ?_
        clear hle8 hcm hix k0 e0 e1
        rintro ex wb ⟨rfl, hb⟩
        have HRB := Aside0.mk (Kd.R_below HRA.out hb)
        have HMB := Aside0.mk (HMA.out.below hb)
        have HBB := Aside0.mk (below_step HBA.out hb)
        have HKB2 := Aside0.mk (blk_below HKB.out hb)
        have HSZB := Aside0.mk (show gb < wb.heap.size by have := HSZA.out; have := hb.size; omega)
        clear hb HRA HMA HBA HKB HSZA
        by_cases hh : hasN c.f1 y.f0 = true
        · have hd := HD.out
          rw [attrsT, if_pos hh] at hd
          have HD2 := Aside0.mk hd
          have k0 := blk_cell HKB2.out 0
          clear HD hd
          go_wp2_with fail
          go_at_call 26
          have hml := HLM.out
          have hjl := HLT.out
          have hfa := HFA.out.1
          refine (meet_calls gm met y.f0 wb HMB.out (by omega) HSE.out).mono ?_
          clear hml hjl hfa k0
          rintro ex wc ⟨rfl, hM, hG⟩
          rw [Hand.has_eq]
          have HGM2 := HGM.out
          have hgmb := HMB.out.lt
          have HBC := Aside0.mk (HBB.out.grown hG HBB.out.size (fun k hk => by injection hk with hk; omega))
          have HRC := Aside0.mk (Kd.R_grown HRB.out hG (fun k hk => fun e => by injection e with e; have := hk.1; omega))
          have HKC := Aside0.mk ((hG.block gb HSZB.out (fun e => by injection e with e; have := HGB.out; omega)).trans HKB2.out)
          have HSZC := Aside0.mk (show gb < wc.heap.size by have := HSZB.out; have := hG.size; omega)
          have HMC := Aside0.mk hM
          clear hM hG HGM2 hgmb HRB HMB HBB HKB2 HSZB
          by_cases hm : hasN met y.f0 = true
          · have hd := HD2.out
            rw [if_pos hm] at hd
            have hcv := HCV.out
            rw [← hd, if_neg (show ¬ (([] : List ByteArray), (7 : Int)).2 = 0 by decide)] at hcv
            have HCV2 := Aside0.mk hcv
            clear hd hcv
            go_wp2_with fail
            go_ret2
            refine ⟨_, by rw [HCV2.out]; rfl, ?_, below_step HB.out HBC.out⟩
            rw [HCV2.out]
            exact Kd.R_nil _ _ _ _ _
          · have hd := HD2.out
            rw [if_neg hm] at hd
            have HD3 := Aside0.mk hd
            replace hm := Bool.eq_false_iff.mpr hm
            have k2 := blk_cell HKC.out 2
            clear hd HD2
            go_wp2_with fail
            go_at_call 27
            have hfe := HFE.out
            have hln := HLN.out
            have hjl := HLT.out
            have hfa := HFA.out.1
            have hgm := HGM.out
            have hbn := binds_is y.f2 now hfe (by omega)
            have hwr := below_step HB.out HB3.out
            have hwc := below_step HB.out HBC.out
            have hg2 := HGB.out
            have hs2 := HSZC.out
            have hbs := HB.out.size
            refine (check_binds.calls 102001 B2 d2 y.f2 (fun k => gm < k ∧ k < gb) u11 now (bindsT y.f2 now).1 (bindsT y.f2 now).2 W3 wc HBC.out (fun W_ hk => Kd.Heap.C k61_heap (fun k hlt => ?_) HI2.out) HL22.out HRC.out hbn).mono ?_
            · have h3 := HB.out.size
              refine (hk.2 k (by have := hwc.size; omega) (fun h => by have := h.1; omega)).trans (hwc.block k hlt)
            clear hfe hln hjl hfa hgm hbn hwr hwc hg2 hs2 hbs k2
            rintro ex wd ⟨v1, rfl, hR, hb, hk⟩
            have HBD := Aside0.mk hb
            have HRD := Aside0.mk (Kd.R_mono hR (ok' := fun k => gm < k) (fun k hk => hk.elim (fun h => h.1) (fun h => by have := HSZC.out; have := HGB.out; omega)))
            have HMD := Aside0.mk (HMC.out.of_block (hk.2 gm (by have := HSZC.out; have := HGB.out; omega) (fun h => by have := h.1; omega)))
            have HZD := Aside0.mk (show gm < wd.heap.size by have := HSZC.out; have := HGB.out; have := hk.1; omega)
            clear hb hR hk HKC HSZC HMC HRC HBC
            by_cases hz : (bindsT y.f2 now).2 = 0
            · have hd := HD3.out
              rw [if_pos hz] at hd
              have HD4 := Aside0.mk hd
              have HBL := Aside0.mk (bindsT_len y.f2 now)
              have HJ2 := Aside0.mk (show j ≤ 1000000 by have := HLT.out; have := HFA.out.1; omega)
              have hzz : ((bindsT y.f2 now).2 != 0) = false := by rw [hz]; rfl
              rw [hz]
              clear hd hz hzz HD3
              go_wp2_with fail
              rw [add1' HJ2.out]
              have h1 := HLT.out
              have h2 := HBL.out
              have h3 := HLN.out
              have h4 := HFE.out
              have h5 := HLM.out
              exact ⟨⟨j + 1, met ++ [y.f0], (bindsT y.f2 now).1, by omega, rfl, by rw [List.length_append, h5]; rfl, by omega, HD4.out, HMD.out, HRD.out, HBD.out, HZD.out⟩, by simp [intOf]; omega⟩
            · have hd := HD3.out
              rw [if_neg hz] at hd
              have hcv := HCV.out
              rw [← hd, if_neg (by exact hz)] at hcv
              have HCV2 := Aside0.mk hcv
              have hzz : ((bindsT y.f2 now).2 != 0) = true := bne_iff_ne.mpr hz
              generalize (bindsT y.f2 now).2 = z2 at hzz HCV2
              clear hd hcv hz HD3
              go_wp2_with fail
              go_ret2
              refine ⟨_, by rw [HCV2.out]; rfl, ?_, below_step HB.out HBD.out⟩
              rw [HCV2.out]
              exact Kd.R_nil _ _ _ _ _
        · have hd := HD.out
          rw [attrsT, if_neg hh] at hd
          have hcv := HCV.out
          rw [← hd, if_neg (show ¬ (([] : List ByteArray), (19 : Int)).2 = 0 by decide)] at hcv
          replace hh := Bool.eq_false_iff.mpr hh
          clear hd
          have HCV2 := Aside0.mk hcv
          clear hcv
          go_wp2_with fail
          go_ret2
          refine ⟨_, by rw [HCV2.out]; rfl, ?_, below_step HB.out HBB.out⟩
          rw [HCV2.out]
          exact Kd.R_nil _ _ _ _ _
      · obtain rfl : j = attrs.length := by omega
        have b1 : decide ((attrs.length : Int) < (attrs.length : Int)) = false := decide_eq_false (by omega)
        have hme := HAT.out
        rw [List.drop_length, attrsT] at hme
        have HD := Aside0.mk hme
        clear hlt hme
        have k0 := blk_cell (blk_below HK4.out HB3.out) 0
        by_cases hn : neg = true
        · subst hn
          have hcv := HCV.out
          rw [← HD.out, if_pos (show (now, (0 : Int)).2 = 0 from rfl), if_pos rfl] at hcv
          have HCV2 := Aside0.mk hcv
          clear hcv
          go_wp2_with fail
          go_at_call 25
          have hcl := slices_Clone_string_string.calls A2 c2 bound bound wr (Kd.C_below (Kd.C_below HC2.out HB.out) HB3.out) HL2.out (by unfold slices_Clone_string_string.f; exact if_pos (by have := HSB.out; omega))
          refine hcl.mono ?_
          clear hcl
          rintro ex W9 ⟨v9, rfl, hR9, hB9⟩
          have HR9 := Aside0.mk hR9
          have HB9 := Aside0.mk (below_step (below_step HB.out HB3.out) hB9)
          have HS9 := Aside0.mk (below_step HB.out HB3.out).size
          clear hR9 hB9
          go_wp2_with fail
          go_ret2
          refine ⟨_, by rw [HCV2.out]; rfl, ?_, HB9.out⟩
          rw [HCV2.out]
          exact Kd.R_lower HR9.out HS9.out
        · have hcv := HCV.out
          rw [← HD.out, if_pos (show (now, (0 : Int)).2 = 0 from rfl), if_neg hn] at hcv
          have HCV2 := Aside0.mk hcv
          obtain rfl := Bool.eq_false_iff.mpr hn
          clear hcv hn
          go_wp2_with fail
          go_ret2
          refine ⟨_, by rw [HCV2.out]; rfl, ?_, below_step HB.out HB3.out⟩
          rw [HCV2.out]
          exact Kd.R_mono (Kd.R_lower HRN.out HB.out.size) (fun _ _ => trivial)
end Go.Proofs.Ytlbcnkmojoinfaa.MCk
