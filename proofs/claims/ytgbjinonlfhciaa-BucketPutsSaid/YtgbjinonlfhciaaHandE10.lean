/- The contract of num.Reader.Text. -/
import Derived.Test.YtgbjinonlfhciaaHandE9
namespace Go.Proofs.Ytgbjinonlfhciaa.MBk
open Go.RowKit Go.Proofs.Ytgbjinonlfhciaa.BkV Go.Proofs.YtgbjinonlfhciaaW.PrintWords Go.Proofs.YtgbjinonlfhciaaW.PrintLast Go.Proofs.YtgbjinonlfhciaaW.PrintMore
set_option linter.unusedVariables false
set_option linter.unusedSimpArgs false
theorem sub1w {n : Nat} (h : n ≤ 1000000) : wrap64 ((n : Int) - 1) = (n : Int) - 1 := by unfold wrap64; omega
set_option maxHeartbeats 8000000 in
set_option maxRecDepth 100000 in
theorem num_Text (g : Nat) (s : St) (w : World) (h : RdrG w g s) (hb : ∀ x ∈ s.1, Byte x) (hl : s.1.length ≤ 1000000) :
    Calls Try.prog 49 #[.pointer (some ⟨g, 0, none⟩)] w fun ex w' => ex = .returned (.string (textR s).1) ∧ RdrG w' g (textR s).2 ∧ Rk w w' g := by
  obtain ⟨l, e⟩ := s
  replace hb : ∀ x ∈ l, Byte x := hb
  replace hl : l.length ≤ 1000000 := hl
  have HS := Aside0.mk h
  have HBY := Aside0.mk hb
  have HLL := Aside0.mk hl
  obtain ⟨A, c, hc, hg, hF⟩ := h
  replace hc : l.length ≤ c := hc
  replace hg : w.heap[g]? = some (.cells #[.slice A l.length c, .int .i64 e] 95 (0, 0)) := hg
  replace hF : Kd.F (Kd.int .u8) w (fun k => k < g) A l.length l := hF
  have HGG := Aside0.mk hg
  have HF := Aside0.mk hF
  have HC := Aside0.mk hc
  clear hc hg hF hb hl
  go_enter Try.func49, Try.ntmps49
  go_wp2_with fail
  go_at_call 59
  refine (num_Err g _ e _ HGG.out).mono ?_
  rintro ex w1 ⟨rfl, rfl⟩
  by_cases he : e = 0
  · subst he
    have c0 := blk_cell HGG.out 0
    have c1 := blk_cell HGG.out 1
    have f0 := blk_frozen HGG.out 0
    have f1 := blk_frozen HGG.out 1
    by_cases hz : l.length = 0
    · have HN := Aside0.mk (show textR (l, 0) = (⟨#[]⟩, (l, 3)) by unfold textR; rw [if_neg (fun h => h rfl), if_pos (.inl hz)])
      have q0 : ((l.length : Int) == 0) = true := by rw [hz]; rfl
      have q1 : (l.length == 0) = true := by rw [hz]; rfl
      clear hz
      go_upto_region 3 with fail
      repeat (go_quiet (fail); try go_wp2)
      go_ret
      rw [HN.out]
      have hb0 := pw_below_drewN (Below.refl w1.heap.size w1) nq
      have hs0 := HS.out.step (fun q hq => hb0.block q (Nat.lt_of_le_of_lt hq HS.out.lt))
      obtain ⟨A', c', hc', hg', hF'⟩ := hs0
      exact ⟨rfl, ⟨A', c', hc', heap_setCell_same _ g 1 _ 95 _ hg', Kd.F_far hF' (p := ⟨g, 1, none⟩) (fun k hk => Nat.ne_of_lt hk) _⟩, (Rk.of_below hb0 (Nat.le_of_lt HS.out.lt)).trans (Rk.of_cell _ _ _ _)⟩
    · have hpos : 0 < l.length := by omega
      obtain ⟨ad, e1, hx0⟩ := Kd.at_int (Kd.F_now HF.out) 0 (by decide) (by omega)
      subst e1
      have ead : ad.add ((0 : Int).toNat) = ad := by cases ad; rfl
      rw [ead] at hx0
      have q0 : ((l.length : Int) == 0) = false := beq_eq_false_iff_ne.mpr (by omega)
      have q1 : (l.length == 0) = false := beq_eq_false_iff_ne.mpr (by omega)
      have p1 := eq_true hpos
      have hw : wrap64 ((l.length : Int) - 1) = (l.length : Int) - 1 := sub1w HLL.out
      have hby := rd_byte l HBY.out 0
      have hwr : wrap64 (rd l 0) = rd l 0 := wrap_id (by have := hby.1; omega) (by have := hby.2; omega)
      have HB0 := Aside0.mk hby
      have HPOS := Aside0.mk hpos
      clear hz ead hby hpos
      by_cases hlt : (l.length : Int) - 1 < rd l 0
      · have HN := Aside0.mk (show textR (l, 0) = (⟨#[]⟩, (l, 3)) by unfold textR; rw [if_neg (fun h => h rfl), if_pos (.inr hlt)])
        have b1 : decide ((l.length : Int) - 1 < rd l 0) = true := decide_eq_true hlt
        clear hlt
        go_upto_region 3 with fail
        repeat (go_quiet (fail); try go_wp2)
        go_ret
        rw [HN.out]
        have hb0 := pw_below_drewN (Below.refl w1.heap.size w1) nq
        have hs0 := HS.out.step (fun q hq => hb0.block q (Nat.lt_of_le_of_lt hq HS.out.lt))
        obtain ⟨A', c', hc', hg', hF'⟩ := hs0
        exact ⟨rfl, ⟨A', c', hc', heap_setCell_same _ g 1 _ 95 _ hg', Kd.F_far hF' (p := ⟨g, 1, none⟩) (fun k hk => Nat.ne_of_lt hk) _⟩, (Rk.of_below hb0 (Nat.le_of_lt HS.out.lt)).trans (Rk.of_cell _ _ _ _)⟩
      · have HN := Aside0.mk (show textR (l, 0) = (strOfNums ((l.drop 1).take (rd l 0).toNat), (l.drop (1 + (rd l 0).toNat), 0)) by unfold textR; rw [if_neg (fun h => h rfl), if_neg (fun h => h.elim (Nat.ne_of_gt HPOS.out) hlt)])
        have b1 : decide ((l.length : Int) - 1 < rd l 0) = false := decide_eq_false hlt
        obtain ⟨m, hm⟩ : ∃ m : Nat, rd l 0 = (m : Int) := ⟨(rd l 0).toNat, by have := HB0.out.1; omega⟩
        have HM := Aside0.mk (show m ≤ 255 ∧ m + 1 ≤ l.length by have := HB0.out.2; have := HPOS.out; omega)
        rw [hm, Int.toNat_natCast] at HN
        rw [hm] at hx0 hwr b1
        clear hlt hm HB0
        go_upto_region 3 with fail
        repeat (go_quiet (fail); go_upto_region 6 with fail)
        have hb0 := pw_below_drewN (Below.refl w1.heap.size w1) nq
        generalize w1.drewN nq = W2 at hb0 ⊢
        have HB2 := Aside0.mk (Rk.of_below hb0 (Nat.le_of_lt HS.out.lt))
        have HG2 := Aside0.mk (blk_below HGG.out hb0)
        have HF2 := Aside0.mk (Kd.F_step HF.out (fun k hk _ => hb0.block k (Nat.lt_trans hk HS.out.lt)))
        have hy0 := (hb0.cell (World.block_lt_of_cell? _ _ hx0)).trans hx0
        clear hb0 hx0 c0 c1 f0 f1 HF HGG q0 q1 b1 hw
        have c0 := blk_cell HG2.out 0
        have f0 := blk_frozen HG2.out 0
        obtain ⟨i0, hi0, _, hsz, _⟩ := info_parts info5
        have hwa : wrap64 (1 + (m : Int)) = 1 + (m : Int) := wrap_id (by omega) (by have := HM.out; omega)
        have hcutM := cut_mid (P := Try.prog) 43 5 .i64 .i64 Try.underlying43 hi0 1 hsz (some ad) l.length c 1 (1 + (m : Int)) (by decide) (by omega) (by have := HM.out; omega) HC.out
        have hcutD := cut_from (P := Try.prog) 43 5 .i64 Try.underlying43 hi0 1 hsz (some ad) l.length c (1 + (m : Int)) (by omega) (by have := HM.out; omega)
        have t1 : (1 + (m : Int)).toNat = 1 + m := by omega
        have t2 : (1 : Int).toNat = 1 := rfl
        rw [t1, t2, show 1 + m - 1 = m by omega] at hcutM
        rw [t1] at hcutD
        obtain ⟨AM, hAM⟩ : ∃ A1, A1 = (if c = 1 then (some ad : Option Addr) else (some ad : Option Addr).map (·.add (1 * 1))) := ⟨_, rfl⟩
        obtain ⟨AD, hAD⟩ : ∃ A1, A1 = (if c = 1 + m then (some ad : Option Addr) else (some ad : Option Addr).map (·.add ((1 + m) * 1))) := ⟨_, rfl⟩
        rw [← hAM] at hcutM
        rw [← hAD] at hcutD
        have hCM := Kd.C_take (m := m) (Kd.C_drop (m := 1) (c := c) (Kd.F_now HF2.out) (by have := HM.out; omega) HC.out) (by rw [List.length_drop]; have := HM.out; omega)
        replace hCM : Kd.C (Kd.int .u8) W2 AM ((l.drop 1).take m).length ((l.drop 1).take m) := by rw [hAM]; exact hCM
        have lM : ((l.drop 1).take m).length = m := by rw [List.length_take, List.length_drop]; have := HM.out; omega
        have hconv := Kd.C_string (P := Try.prog) (c := c - 1) Try.underlying43 Try.underlying5 Try.underlying9 hCM
        rw [lM] at hconv
        obtain ⟨st, hst⟩ : ∃ st, strOfNums ((l.drop 1).take m) = st := ⟨_, rfl⟩
        have hN := HN.out
        rw [hst] at hconv hN
        clear HN
        have HN := Aside0.mk hN
        clear hN hst
        have hFD := Kd.F_cut (m := 1 + m) (c := c) HF2.out (by have := HM.out; omega) HC.out
        replace hFD : Kd.F (Kd.int .u8) W2 (fun k => k < g) AD (l.drop (1 + m)).length (l.drop (1 + m)) := by rw [hAD]; exact hFD
        have HFD := Aside0.mk hFD
        clear hFD hCM lM hAM hAD t1 t2 hi0 hsz
        go_wp2
        go_ret
        rw [HN.out]
        refine ⟨rfl, ⟨AD, c - (1 + m), ?_, ?_, ?_⟩, HB2.out.trans (Rk.of_cell _ _ _ _)⟩
        · show (l.drop (1 + m)).length ≤ _
          rw [List.length_drop]; have := HC.out; omega
        · show _ = some (Obj.cells #[.slice AD (l.drop (1 + m)).length (c - (1 + m)), .int .i64 0] 95 (0, 0))
          rw [heap_setCell_same _ g 0 _ 95 _ HG2.out, List.length_drop]; rfl
        · exact Kd.F_far HFD.out (p := ⟨g, 0, none⟩) (fun k hk => Nat.ne_of_lt hk) _
  · have HN := Aside0.mk (show textR (l, e) = (⟨#[]⟩, (l, e)) from if_pos he)
    have hee : (e != 0) = true := bne_iff_ne.mpr he
    clear he
    go_wp2
    go_ret
    rw [HN.out]
    exact ⟨rfl, HS.out, Rk.refl _ _⟩
end Go.Proofs.Ytgbjinonlfhciaa.MBk
