/- The contract of check.Classes. -/
import Derived.Test.YtlbcnkmojoinfaaHandF3
namespace Go.Proofs.Ytlbcnkmojoinfaa.ChecksV
open Go.RowKit Go.Proofs.Ytlbcnkmojoinfaa.MCk
/-- Does one name stand twice, or among those that were met? -/
def dupN : List ByteArray → List ByteArray → Bool
  | _, [] => false
  | met, a :: r => if hasN met a = true then true else dupN (met ++ [a]) r
/-- Classes, behind those whose names were met. -/
def classesT : List ByteArray → List S30 → Int
  | _, [] => 0
  | met, c :: r => if hasN met c.f0 = true then 7 else if dupN [] c.f1 = true then 7 else classesT (met ++ [c.f0]) r
/-- Classes are few, with few attributes, and short names. -/
def FewC (l : List S30) : Prop := l.length ≤ 1000 ∧ ∀ c ∈ l, c.f0.size ≤ 1000000 ∧ c.f1.length ≤ 1000 ∧ ∀ a ∈ c.f1, a.size ≤ 1000000
end Go.Proofs.Ytlbcnkmojoinfaa.ChecksV
namespace Go.Proofs.Ytlbcnkmojoinfaa.MCk
open Go.RowKit Go.Maps Go.Proofs.Ytlbcnkmojoinfaa.Hand Go.Proofs.Ytlbcnkmojoinfaa.ChecksV Go.Proofs.YtlbcnkmojoinfaaW.PrintWords Go.Proofs.YtlbcnkmojoinfaaW.PrintLast Go.Proofs.YtlbcnkmojoinfaaW.PrintMore
set_option linter.unusedVariables false
set_option linter.unusedSimpArgs false
set_option maxHeartbeats 4000000 in
set_option maxRecDepth 100000 in
theorem idxs_calls (l : List ByteArray) (A0 : Option Addr) (c0 : Nat) (b : Nat) (w0 w : World) (hC : Kd.C Kd.string w0 A0 l.length l) (hB : Below w0.heap.size w0 w) (hb : w0.heap.size ≤ b) (hM : Hand.Met w b []) (hl : l.length ≤ 1000) (hs : ∀ a ∈ l, a.size ≤ 1000000) :
    Calls Try.prog 36 #[.slice A0 l.length c0, .func (Fn.func 26) #[.map (some b)] #[]] w fun e w' => ∃ i : Int, e = .returned (.int .i64 i) ∧ decide (i ≥ 0) = dupN [] l ∧ Below w0.heap.size w0 w' := by
  have HC := Aside0.mk hC
  have HB := Aside0.mk hB
  have HL := Aside0.mk hl
  have HS := Aside0.mk hs
  have HM := Aside0.mk hM
  have HBB := Aside0.mk hb
  clear hC hB hl hs hM hb
  go_enter Try.func36, Try.ntmps36
  go_wp2_with fail
  go_loopw [8] (fun i wr => ∃ (j : Nat) (met : List ByteArray), j ≤ l.length ∧ i = .int .i64 (j : Int) ∧ met.length = j ∧ dupN met (l.drop j) = dupN [] l ∧ Hand.Met wr b met ∧ Below w0.heap.size w0 wr)
    (fun i _ => l.length - (intOf i).toNat)
  case atStart => exact ⟨0, [], Nat.zero_le _, rfl, rfl, rfl, HM.out, HB.out⟩
  case round =>
    clear HM HB
    obtain ⟨j, met, hj, rfl, hml, hf, hm, hb⟩ := hrel
    have HF := Aside0.mk hf
    have HB := Aside0.mk hb
    have HM := Aside0.mk hm
    have HML := Aside0.mk hml
    clear hf hb hm hml
    by_cases hlt : j < l.length
    · have b1 : decide ((j : Int) < (l.length : Int)) = true := decide_eq_true (by omega)
      obtain ⟨ad, e1, hx0⟩ := Kd.at_string (Kd.C_below HC.out HB.out) (j : Int) (by omega) (by omega)
      subst e1
      rw [rdS l j hlt] at hx0
      rw [Int.toNat_natCast] at hx0
      have hd := HF.out
      rw [List.drop_eq_getElem_cons hlt, dupN] at hd
      have hsy := HS.out _ (List.getElem_mem hlt)
      generalize l[j] = y at hx0 hd hsy
      have p0 := eq_true (show 0 ≤ (j : Int) by omega)
      have p1 := eq_true (show (j : Int) < (l.length : Int) by omega)
      have HD := Aside0.mk hd
      have HLT := Aside0.mk hlt
      have HSY := Aside0.mk hsy
      clear hd hlt hsy
      go_wp2_with fail
      go_at_call 26
      have hln := HL.out
      have hlt2 := HLT.out
      have hml2 := HML.out
      refine (meet_calls b met y wr HM.out (by omega) HSY.out).mono ?_
      clear hln hlt2 hml2
      rintro ex w1 ⟨rfl, hM, hG⟩
      rw [Hand.has_eq]
      have hbb := HBB.out
      have HB1 := Aside0.mk (HB.out.grown hG HB.out.size (fun k hk => by injection hk with hk; omega))
      have HM1 := Aside0.mk hM
      clear hM hG hbb hx0 HM HB
      by_cases he : hasN met y = true
      · have hd := HD.out
        rw [if_pos he] at hd
        have HD2 := Aside0.mk hd
        clear hd
        go_wp2_with fail
        go_ret
        exact ⟨_, rfl, by rw [← HD2.out]; exact decide_eq_true (by omega), HB1.out⟩
      · have hd := HD.out
        rw [if_neg he] at hd
        have HD2 := Aside0.mk hd
        replace he := Bool.eq_false_iff.mpr he
        clear hd
        go_wp2_with fail
        have hln := HL.out
        have hlt2 := HLT.out
        rw [add1' (by omega)]
        exact ⟨⟨j + 1, met ++ [y], by omega, rfl, by rw [List.length_append, HML.out]; rfl, HD2.out, HM1.out, HB1.out⟩, by simp [intOf]; omega⟩
    · obtain rfl : j = l.length := by omega
      have b1 : decide ((l.length : Int) < (l.length : Int)) = false := decide_eq_false (by omega)
      have hd := HF.out
      rw [List.drop_length, dupN] at hd
      have HD := Aside0.mk hd
      clear hlt hd
      go_wp2
      go_ret
      exact ⟨_, rfl, by rw [← HD.out]; rfl, HB.out⟩
set_option maxHeartbeats 4000000 in
set_option maxRecDepth 100000 in
theorem cont_calls (l : List ByteArray) (A0 : Option Addr) (c0 : Nat) (b : Nat) (w0 w : World) (hC : Kd.C Kd.string w0 A0 l.length l) (hB : Below w0.heap.size w0 w) (hb : w0.heap.size ≤ b) (hM : Hand.Met w b []) (hl : l.length ≤ 1000) (hs : ∀ a ∈ l, a.size ≤ 1000000) :
    Calls Try.prog 34 #[.slice A0 l.length c0, .func (Fn.func 26) #[.map (some b)] #[]] w fun e w' => e = .returned (.bool (dupN [] l)) ∧ Below w0.heap.size w0 w' := by
  go_enter Try.func34, Try.ntmps34
  go_wp2_with fail
  go_at_call 36
  refine (idxs_calls l A0 c0 b w0 w hC hB hb hM hl hs).mono ?_
  rintro ex w1 ⟨i, rfl, hi, hb1⟩
  have HI := Aside0.mk hi
  have HB1 := Aside0.mk hb1
  clear hi hb1 hC hB hb hM hl hs
  go_wp2_with fail
  go_ret
  exact ⟨by rw [← HI.out]; rfl, HB1.out⟩
set_option maxHeartbeats 8000000 in
set_option maxRecDepth 100000 in
theorem check_Classes (l : List S30) (A0 : Option Addr) (c0 : Nat) (w : World) (hC : Kd.C k30 w A0 l.length l) (hF : FewC l) :
    Calls Try.prog 30 #[.slice A0 l.length c0] w fun e w' => e = .returned (.int .i64 (classesT [] l)) ∧ Below w.heap.size w w' := by
  have HC := Aside0.mk hC
  have HF := Aside0.mk hF
  clear hC hF
  have hmm := @run_makeMap Try.prog
  go_enter Try.func30, Try.ntmps30
  go_upto_region 2 with fail
  obtain ⟨gm, hgm⟩ : ∃ g, g = w.heap.size := ⟨_, rfl⟩
  have hmade := Hand.Met.made w
  have hW := below_alloc (Below.refl w.heap.size w) (Obj.map #[] 0)
  have hsz : (w.alloc (Obj.map #[] 0)).heap.size = w.heap.size + 1 := World.size_alloc _ _
  rw [← hgm] at hmade hsz ⊢
  generalize w.alloc (Obj.map #[] 0) = W1 at hmade hW hsz ⊢
  have HM := Aside0.mk hmade
  have HB := Aside0.mk hW
  have HZ := Aside0.mk (show gm < W1.heap.size by omega)
  have HG := Aside0.mk (show w.heap.size ≤ gm by omega)
  clear hmade hW hsz hgm
  go_wp2_with fail
  go_loopw [10] (fun i wr => ∃ (j : Nat) (met : List ByteArray), j ≤ l.length ∧ i = .int .i64 (j : Int) ∧ met.length = j ∧ classesT met (l.drop j) = classesT [] l ∧ Hand.Met wr gm met ∧ Below w.heap.size w wr ∧ gm < wr.heap.size)
    (fun i _ => l.length - (intOf i).toNat)
  case atStart => exact ⟨0, [], Nat.zero_le _, rfl, rfl, rfl, HM.out, HB.out, HZ.out⟩
  case round =>
    obtain ⟨j, met, hj, rfl, hml, hcl, hm, hb, hz⟩ := hrel
    clear HM HB HZ
    have HML := Aside0.mk hml
    have HCL := Aside0.mk hcl
    have HM := Aside0.mk hm
    have HB := Aside0.mk hb
    have HZ := Aside0.mk hz
    clear hml hcl hm hb hz
    by_cases hlt : j < l.length
    · have b1 : decide ((j : Int) < (l.length : Int)) = true := decide_eq_true (by omega)
      have HLT := Aside0.mk hlt
      obtain ⟨ad, A1, c1, e1, hx0, hx1, hl1, hi1⟩ := at_T30 HC.out (j : Int) (by omega) (by omega)
      subst e1
      replace hx0 := (HB.out.cell (World.block_lt_of_cell? w _ hx0)).trans hx0
      replace hx1 := (HB.out.cell (World.block_lt_of_cell? w _ hx1)).trans hx1
      have hd := HCL.out
      rw [List.drop_eq_getElem_cons hlt, classesT] at hd
      rw [rd30 l j hlt] at hx0 hx1 hl1 hi1
      have hfe := HF.out.2 _ (List.getElem_mem hlt)
      rw [Int.toNat_natCast] at hx0 hx1
      generalize l[j] = y at hx0 hx1 hl1 hi1 hd hfe
      have p0 := eq_true (show 0 ≤ (j : Int) by omega)
      have p1 := eq_true (show (j : Int) < (l.length : Int) by omega)
      have HD := Aside0.mk hd
      have HFE := Aside0.mk hfe
      have HI1 := Aside0.mk hi1
      have HL1 := Aside0.mk hl1
      clear hlt hd hfe hl1 hi1
      go_upto_region 5 with fail
      obtain ⟨gb, hgb⟩ : ∃ g, g = wr.heap.size := ⟨_, rfl⟩
      have hW := below_alloc (Below.refl wr.heap.size wr) (Obj.cells #[Value.string y.f0, Value.slice A1 y.f1.length c1] 30)
      have hN := blk_new wr (Obj.cells #[Value.string y.f0, Value.slice A1 y.f1.length c1] 30)
      have hsz : (wr.alloc (Obj.cells #[Value.string y.f0, Value.slice A1 y.f1.length c1] 30)).heap.size = wr.heap.size + 1 := World.size_alloc _ _
      rw [← hgb] at hN hsz ⊢
      generalize wr.alloc (Obj.cells #[Value.string y.f0, Value.slice A1 y.f1.length c1] 30) = wa at hW hN hsz ⊢
      have HMA := Aside0.mk (HM.out.below hW)
      have HBA := Aside0.mk (below_step HB.out hW)
      have HKA := Aside0.mk hN
      have HGB := Aside0.mk (show gm < gb by have := HZ.out; omega)
      have HZA := Aside0.mk (show gb < wa.heap.size by omega)
      clear hW hN hsz hgb hx0 hx1 HM HB HZ
      have k0 := blk_cell HKA.out 0
      go_wp2_with fail
      go_at_call 26
      have hln := HF.out.1
      have hlt2 := HLT.out
      have hml2 := HML.out
      refine (meet_calls gm met y.f0 wa HMA.out (by omega) HFE.out.1).mono ?_
      clear hln hlt2 hml2 k0
      rintro ex wb ⟨rfl, hM, hG⟩
      rw [Hand.has_eq]
      have hgg := HG.out
      have HBB := Aside0.mk (HBA.out.grown hG HBA.out.size (fun k hk => by injection hk with hk; omega))
      have HMB := Aside0.mk hM
      have HKB := Aside0.mk ((hG.block gb HZA.out (fun e => by injection e with e; have := HGB.out; omega)).trans HKA.out)
      have HZB := Aside0.mk (show gb < wb.heap.size by have := HZA.out; have := hG.size; omega)
      clear hM hG hgg HMA HBA HKA HZA
      by_cases hh : hasN met y.f0 = true
      · have hd := HD.out
        rw [if_pos hh] at hd
        have HD2 := Aside0.mk hd
        clear hd
        go_wp2_with fail
        go_ret
        exact ⟨by rw [← HD2.out]; rfl, HBB.out⟩
      · have hd := HD.out
        rw [if_neg hh] at hd
        have HD2 := Aside0.mk hd
        replace hh := Bool.eq_false_iff.mpr hh
        clear hd HD
        go_upto_region 8 with fail
        have hmade := Hand.Met.made wb
        have hW := below_alloc (Below.refl wb.heap.size wb) (Obj.map #[] 0)
        obtain ⟨g6, hg6⟩ : ∃ g, g = wb.heap.size := ⟨_, rfl⟩
        rw [← hg6] at hmade ⊢
        generalize wb.alloc (Obj.map #[] 0) = wc at hmade hW ⊢
        have HMC := Aside0.mk hmade
        have HWC := Aside0.mk hW
        have HG6 := Aside0.mk (show wb.heap.size ≤ g6 by omega)
        have HZC := Aside0.mk hW.size
        have k1 := blk_cell (blk_below HKB.out hW) 1
        clear hmade hW hg6
        go_wp2_with fail
        go_at_call 34
        refine (cont_calls y.f1 A1 c1 g6 wb wc (Kd.C_below HI1.out HBB.out) HWC.out HG6.out HMC.out HFE.out.2.1 HFE.out.2.2).mono ?_
        clear k1
        rintro ex wd ⟨rfl, hb⟩
        have HBD := Aside0.mk (below_step HBB.out hb)
        have HMD := Aside0.mk (HMB.out.below hb)
        have HZD := Aside0.mk (show gm < wd.heap.size by have := HZB.out; have := HGB.out; have := hb.size; omega)
        clear hb HMB HBB HKB HZB HMC HWC HG6 HZC
        by_cases hu : dupN [] y.f1 = true
        · have hd := HD2.out
          rw [if_pos hu] at hd
          have HD3 := Aside0.mk hd
          clear hd
          go_wp2_with fail
          go_ret
          exact ⟨by rw [← HD3.out]; rfl, HBD.out⟩
        · have hd := HD2.out
          rw [if_neg hu] at hd
          have HD3 := Aside0.mk hd
          replace hu := Bool.eq_false_iff.mpr hu
          clear hd
          go_wp2_with fail
          have hln := HF.out.1
          have hlt2 := HLT.out
          rw [add1' (by omega)]
          exact ⟨⟨j + 1, met ++ [y.f0], by omega, rfl, by rw [List.length_append, HML.out]; rfl, HD3.out, HMD.out, HBD.out, HZD.out⟩, by simp [intOf]; omega⟩
    · obtain rfl : j = l.length := by omega
      have b1 : decide ((l.length : Int) < (l.length : Int)) = false := decide_eq_false (by omega)
      have hd := HCL.out
      rw [List.drop_length, classesT] at hd
      have HD := Aside0.mk hd
      clear hlt hd
      go_wp2
      go_ret
      exact ⟨by rw [← HD.out]; rfl, HB.out⟩
end Go.Proofs.Ytlbcnkmojoinfaa.MCk
