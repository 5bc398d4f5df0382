/- The walk of BucketBack. -/
import Derived.Test.YtgbjinonlfhciaaBackP
import Derived.Test.YtgbjinonlfhciaaMBkx7
namespace Go.Proofs.Ytgbjinonlfhciaa.MBk
open Go.RowKit Go.Proofs.Ytgbjinonlfhciaa.BkV Go.Proofs.YtgbjinonlfhciaaW.PrintWords Go.Proofs.YtgbjinonlfhciaaW.PrintLast Go.Proofs.YtgbjinonlfhciaaW.PrintMore
set_option linter.unusedVariables false
set_option linter.unusedSimpArgs false
set_option maxHeartbeats 16000000 in
set_option maxRecDepth 100000 in
theorem BucketBack_calls (d n : Int) (l : List S27) (A : Option Addr) (c : Nat) (w : World) (hC : Kd.C k27 w A l.length l) (hc : l.length ≤ c) :
    Calls Try.prog 6 #[.agg #[.int .i64 d, .int .i64 n, .slice A l.length c]] w fun e w' => e = .returned (.bool true) ∧ Below w.heap.size w w' := by
  have HC := Aside0.mk hC
  have HCc := Aside0.mk hc
  clear hC hc
  go_enter Try.func6, Try.ntmps6
  go_upto_region 1 with fail
  have HB := Aside0.mk (Below.refl w.heap.size w)
  obtain ⟨g, hg⟩ : ∃ g, g = w.heap.size := ⟨_, rfl⟩
  have hW := below_alloc (Below.refl w.heap.size w) (Obj.cells #[Value.int IntKind.i64 d, Value.int IntKind.i64 n, Value.slice A l.length c] 42)
  have hN := blk_new w (Obj.cells #[Value.int IntKind.i64 d, Value.int IntKind.i64 n, Value.slice A l.length c] 42)
  rw [← hg] at hN ⊢
  generalize w.alloc (Obj.cells #[Value.int IntKind.i64 d, Value.int IntKind.i64 n, Value.slice A l.length c] 42) = W1 at hW hN ⊢
  have n_HC := Aside0.mk (Kd.C_below HC.out hW)
  have n_HB := Aside0.mk (below_step HB.out hW)
  clear HC HB
  have HC := n_HC
  have HB := n_HB
  clear n_HC n_HB
  have HK := Aside0.mk (hN)
  have Eg := Aside0.mk hg
  clear hW hN hg
  have k0 := blk_cell HK.out 0
  have k1 := blk_cell HK.out 1
  have k2 := blk_cell HK.out 2
  go_wp2_with fail
  go_at_call 14
  clear k0 k1 k2
  obtain ⟨r, hr, hP⟩ := light_is l 100 (by decide)
  refine (intarsiaref10_Light.calls 1001 A c l 100 r W1 HC.out HCc.out hr).mono ?_
  rintro ex W2 ⟨rfl, hd_⟩
  have hb := hd_.below
  clear hd_
  have n_HC := Aside0.mk (Kd.C_below HC.out hb)
  have n_HB := Aside0.mk (below_step HB.out hb)
  have n_HK := Aside0.mk (blk_below HK.out hb)
  clear HC HB HK
  have HC := n_HC
  have HB := n_HB
  have HK := n_HK
  clear n_HC n_HB n_HK
  clear hb
  clear hr
  cases r with
  | false =>
    clear hP
    go_wp2_with fail
    go_at_call 7
    refine (awake_calls W2).mono ?_
    rintro ex VA ⟨rfl, hb⟩
    have HBA := Aside0.mk (below_step HB.out hb)
    clear hb
    go_wp2_with fail
    go_ret
    exact ⟨rfl, HBA.out⟩
  | true =>
    have HXS := Aside0.mk (few_of (by decide) (hP rfl))
    have HLN := Aside0.mk (hP rfl).1
    clear hP
    have k0 := blk_cell HK.out 0
    have k1 := blk_cell HK.out 1
    have k2 := blk_cell HK.out 2
    go_wp2_with fail
    go_at_call 20
    clear k0 k1 k2
    have hp := bucket_Put d n l A c W2 HC.out HCc.out HXS.out
    refine hp.mono ?_
    clear hp
    rintro ex W3 ⟨v, rfl, hv, hb⟩
    obtain ⟨T, cT, rfl⟩ := Kd.R_slice hv
    have n_HC := Aside0.mk (Kd.C_below HC.out hb)
    have n_HB := Aside0.mk (below_step HB.out hb)
    have n_HK := Aside0.mk (blk_below HK.out hb)
    clear HC HB HK
    have HC := n_HC
    have HB := n_HB
    have HK := n_HK
    clear n_HC n_HB n_HK
    clear hb
    by_cases hck : checkT d n l = 0
    rotate_left
    · skip
      have hcc : (checkT d n l != 0) = true := bne_iff_ne.mpr hck
      have hpt : putT d n l = ([], checkT d n l) := by unfold putT; rw [if_neg hck]
      rw [hpt]
      clear hv hck hpt
      go_wp2_with fail
      go_at_call 7
      refine (awake_calls W3).mono ?_
      rintro ex VA ⟨rfl, hb⟩
      have HBA := Aside0.mk (below_step HB.out hb)
      clear hb
      go_wp2_with fail
      go_ret
      exact ⟨rfl, HBA.out⟩
    · skip
      have hpt : putT d n l = (headB d n l.length ++ pairsB l, 0) := by unfold putT; rw [if_pos hck]
      rw [hpt] at hv ⊢
      have HCK := Aside0.mk hck
      have HGB := Aside0.mk (get_back d n l hck)
      have HPB := Aside0.mk (put_byte d n l)
      have HPL := Aside0.mk (put_len d n l hck)
      have HGL := Aside0.mk (get_long d n l hck 0 [])
      have HGS := Aside0.mk (get_short d n l hck)
      clear hpt hck
      generalize headB d n l.length ++ pairsB l = bd at hv HGB HPB HPL HGL HGS ⊢
      have HV := Aside0.mk (Kd.R_reads' hv).2.2
      have HVc := Aside0.mk (Kd.R_reads' hv).2.1
      clear hv
      have b4 : decide ((bd.length : Int) < 4) = false := decide_eq_false (by have := HPL.out; omega)
      have b4n : decide (bd.length < 4) = false := decide_eq_false (by have := HPL.out; omega)
      go_wp2_with fail
      go_at_call 22
      have hp := bucket_Get bd T cT W3 HV.out HVc.out HPB.out (by have := HPL.out; omega)
      rw [HGB.out] at hp
      refine hp.mono ?_
      clear hp b4 b4n
      rintro ex W4 ⟨v, rfl, hv, hb⟩
      obtain ⟨T2, c2, rfl⟩ := Kd.R_slice hv
      have n_HC := Aside0.mk (Kd.C_below HC.out hb)
      have n_HB := Aside0.mk (below_step HB.out hb)
      have n_HK := Aside0.mk (blk_below HK.out hb)
      have n_HV := Aside0.mk (Kd.C_below HV.out hb)
      clear HC HB HK HV
      have HC := n_HC
      have HB := n_HB
      have HK := n_HK
      have HV := n_HV
      clear n_HC n_HB n_HK n_HV
      have HG := Aside0.mk (Kd.R_reads' hv).2.2
      have HGc := Aside0.mk (Kd.R_reads' hv).2.1
      clear hb hv
      go_upto_region 9 with fail
      obtain ⟨g2, hg2⟩ : ∃ g, g = W4.heap.size := ⟨_, rfl⟩
      have hW := below_alloc (Below.refl W4.heap.size W4) (Obj.cells #[Value.int IntKind.i64 d, Value.int IntKind.i64 n, Value.slice T2 l.length c2] 25)
      have hN := blk_new W4 (Obj.cells #[Value.int IntKind.i64 d, Value.int IntKind.i64 n, Value.slice T2 l.length c2] 25)
      rw [← hg2] at hN ⊢
      generalize W4.alloc (Obj.cells #[Value.int IntKind.i64 d, Value.int IntKind.i64 n, Value.slice T2 l.length c2] 25) = W5 at hW hN ⊢
      have n_HC := Aside0.mk (Kd.C_below HC.out hW)
      have n_HB := Aside0.mk (below_step HB.out hW)
      have n_HK := Aside0.mk (blk_below HK.out hW)
      have n_HV := Aside0.mk (Kd.C_below HV.out hW)
      have n_HG := Aside0.mk (Kd.C_below HG.out hW)
      clear HC HB HK HV HG
      have HC := n_HC
      have HB := n_HB
      have HK := n_HK
      have HV := n_HV
      have HG := n_HG
      clear n_HC n_HB n_HK n_HV n_HG
      have HK2 := Aside0.mk (hN)
      have Eg2 := Aside0.mk hg2
      clear hW hN hg2
      have HL := Aside0.mk (Below.refl W5.heap.size W5)
      go_wp2_with (first
        | ((with_reducible refine gate_dst (N := 38) rfl ?_); refine Kd.R_lit (Kd.int .u8) (w0 := W5) W5.heap.size 5 ?hg (N := 38) ?hd (xs := ([] : List Int)) (inner := []) (ok := fun _ => True) (okp := fun _ => True) ?hr ?hp (fun _ hk => hk) trivial HL.out HL.out.size (by decide) ?_; (case hd => rfl); (case hg => rfl); (case hr => first | (go_simp; done) | (go_simp; rfl)); (case hp => exact Reps.none _ _); intro v38 w38 ho hb hg hat; obtain ⟨T38, c38, rfl⟩ := Kd.R_slice ho; have HO1 := Aside0.mk ho; have HL1 := Aside0.mk hb; have HV1 := Aside0.mk (Kd.C_below HV.out hb); clear ho hb hg hat HL)
        | ((with_reducible refine gate_builtin (b := .append) (xs := #[.tmp 38, .tmp 39]) rfl ?_); at_builtin; refine Kd.R_append_rows (Kd.int .u8) (w0 := W5) W5.heap.size rfl (.tmp 38) (.tmp 39) 43 5 (.int .u8 0) 1 rfl Try.underlying43 info5 rfl (by decide) (by omega) (.slice T38 0 c38) [] bd T bd.length cT (fun _ => True) (fun _ => False) rfl rfl HO1.out HV1.out (fun _ _ h => h) (fun _ hk => hk.elim) (fun _ _ => trivial) HL1.out HL1.out.size (by have := HPL.out; simp; omega) ?_; intro v40 w40 ho hb hg hat; obtain ⟨T40, c40, rfl⟩ := Kd.R_slice ho; have HO2 := Aside0.mk ho; have HL2 := Aside0.mk hb; clear ho hb hg hat)
        | ((with_reducible refine gate_dst (N := 41) rfl ?_); refine Kd.R_lit (Kd.int .u8) (w0 := w40) w40.heap.size 5 ?hg (N := 41) ?hd (xs := ([0] : List Int)) (inner := [.int .u8 0]) (ok := fun _ => True) (okp := fun _ => True) ?hr ?hp (fun _ hk => hk) trivial (Below.refl _ _) (Nat.le_refl _) (by decide) ?_; (case hd => rfl); (case hg => rfl); (case hr => first | (go_simp; done) | (go_simp; rfl)); (case hp => exact (Reps.one (show Kd.M (Kd.int .u8) _ _ _ (0 : Int) [.int .u8 0] from rfl) (Reps.none _ _))); intro v41 w41 ho hb hg hat; obtain ⟨T41, c41, rfl⟩ := Kd.R_slice ho; have HC41 := Aside0.mk (Kd.R_reads' ho).2.2; have HO3 := Aside0.mk (Kd.R_below HO2.out hb); have HL3 := Aside0.mk (below_step HL2.out hb); clear ho hb hg hat)
        | ((with_reducible refine gate_builtin (b := .append) (xs := #[.tmp 40, .tmp 41]) rfl ?_); at_builtin; refine Kd.R_append_rows (Kd.int .u8) (w0 := W5) W5.heap.size rfl (.tmp 40) (.tmp 41) 43 5 (.int .u8 0) 1 rfl Try.underlying43 info5 rfl (by decide) (by omega) (.slice T40 ([] ++ bd).length c40) ([] ++ bd) [0] T41 1 c41 (fun _ => True) (fun _ => False) rfl rfl HO3.out HC41.out (fun _ _ h => h) (fun _ hk => hk.elim) (fun _ _ => trivial) HL3.out HL3.out.size (by have := HPL.out; simp; omega) ?_; intro v42 w42 ho hb hg hat; obtain ⟨T42, c42, rfl⟩ := Kd.R_slice ho; have HO4 := Aside0.mk ho; have HL4 := Aside0.mk hb; clear ho hb hg hat)
        | fail)
      go_at_call 22
      have hb := HL4.out
      clear HV1 HO1 HO2 HO3 HC41 HL1 HL2 HL3 HL4
      have n_HC := Aside0.mk (Kd.C_below HC.out hb)
      have n_HB := Aside0.mk (below_step HB.out hb)
      have n_HK := Aside0.mk (blk_below HK.out hb)
      have n_HV := Aside0.mk (Kd.C_below HV.out hb)
      have n_HG := Aside0.mk (Kd.C_below HG.out hb)
      have n_HK2 := Aside0.mk (blk_below HK2.out hb)
      clear HC HB HK HV HG HK2
      have HC := n_HC
      have HB := n_HB
      have HK := n_HK
      have HV := n_HV
      have HG := n_HG
      have HK2 := n_HK2
      clear n_HC n_HB n_HK n_HV n_HG n_HK2
      clear hb
      have hbb : ([] ++ bd ++ [0] : List Int) = bd ++ [0] := rfl
      have hv := HO4.out
      rw [hbb] at hv
      have hp := bucket_Get (bd ++ [0]) T42 c42 w42 (Kd.R_reads' hv).2.2 (Kd.R_reads' hv).2.1 (fun x hx => by rcases List.mem_append.mp hx with hx | hx; exact HPB.out x hx; obtain rfl := List.mem_singleton.mp hx; exact ⟨by decide, by decide⟩) (by have := HPL.out; rw [List.length_append]; show bd.length + 1 ≤ _; omega)
      rw [HGL.out, show (bd ++ [0] : List Int).length = bd.length + 1 from by rw [List.length_append]; rfl] at hp
      refine hp.mono ?_
      clear hp hv HO4 hbb
      rintro ex W7 ⟨v, rfl, hv, hb⟩
      obtain ⟨T7, c7, rfl⟩ := Kd.R_slice hv
      have n_HC := Aside0.mk (Kd.C_below HC.out hb)
      have n_HB := Aside0.mk (below_step HB.out hb)
      have n_HK := Aside0.mk (blk_below HK.out hb)
      have n_HV := Aside0.mk (Kd.C_below HV.out hb)
      have n_HG := Aside0.mk (Kd.C_below HG.out hb)
      have n_HK2 := Aside0.mk (blk_below HK2.out hb)
      clear HC HB HK HV HG HK2
      have HC := n_HC
      have HB := n_HB
      have HK := n_HK
      have HV := n_HV
      have HG := n_HG
      have HK2 := n_HK2
      clear n_HC n_HB n_HK n_HV n_HG n_HK2
      clear hb hv
      go_upto_region 10 with fail
      obtain ⟨g3, hg3⟩ : ∃ g, g = W7.heap.size := ⟨_, rfl⟩
      have hW := below_alloc (Below.refl W7.heap.size W7) (Obj.cells #[Value.int IntKind.i64 0, Value.int IntKind.i64 0, Value.slice T7 0 c7] 25)
      have hN := blk_new W7 (Obj.cells #[Value.int IntKind.i64 0, Value.int IntKind.i64 0, Value.slice T7 0 c7] 25)
      rw [← hg3] at hN ⊢
      generalize W7.alloc (Obj.cells #[Value.int IntKind.i64 0, Value.int IntKind.i64 0, Value.slice T7 0 c7] 25) = W8 at hW hN ⊢
      have n_HC := Aside0.mk (Kd.C_below HC.out hW)
      have n_HB := Aside0.mk (below_step HB.out hW)
      have n_HK := Aside0.mk (blk_below HK.out hW)
      have n_HV := Aside0.mk (Kd.C_below HV.out hW)
      have n_HG := Aside0.mk (Kd.C_below HG.out hW)
      have n_HK2 := Aside0.mk (blk_below HK2.out hW)
      clear HC HB HK HV HG HK2
      have HC := n_HC
      have HB := n_HB
      have HK := n_HK
      have HV := n_HV
      have HG := n_HG
      have HK2 := n_HK2
      clear n_HC n_HB n_HK n_HV n_HG n_HK2
      have HK3 := Aside0.mk (hN)
      have Eg3 := Aside0.mk hg3
      clear hW hN hg3
      obtain ⟨b, x, hbx⟩ : ∃ b x, bd = b ++ x :: [] := ⟨bd.dropLast, bd.getLast (by intro h; have := HPL.out; rw [h] at this; exact absurd this.1 (by decide)), (List.dropLast_concat_getLast _).symm⟩
      have hlen : bd.length = b.length + 1 := by rw [hbx, List.length_append]; rfl
      have HGS2 := Aside0.mk (HGS.out b [] x hbx)
      have hbt : b = bd.take b.length := by rw [hbx, List.take_append_of_le_length (Nat.le_refl _), List.take_length]
      have hCb := Kd.C_take (m := b.length) HV.out (by omega)
      rw [← hbt] at hCb
      have HBY := Aside0.mk (fun y (hy : y ∈ b) => HPB.out y (by rw [hbx]; exact List.mem_append_left _ hy))
      have HCB := Aside0.mk hCb
      have HBL := Aside0.mk hlen
      clear hCb hbt
      have hw : wrap64 ((bd.length : Int) - 1) = (b.length : Int) := by unfold wrap64; have := HPL.out; omega
      obtain ⟨i0, hi0, _, hsz, _⟩ := info_parts info5
      have hcutT := cut_to (P := Try.prog) 43 5 .i64 Try.underlying43 hi0 T bd.length cT (b.length : Int) (by omega) (by omega) HVc.out
      rw [Int.toNat_natCast] at hcutT
      clear hbx hlen hsz hi0
      go_wp2_with fail
      go_at_call 22
      have hp := bucket_Get b T cT W8 HCB.out (by have := HVc.out; have := HBL.out; omega) HBY.out (by have := HPL.out; have := HBL.out; omega)
      rw [HGS2.out] at hp
      refine hp.mono ?_
      clear hp HCB hw hcutT
      rintro ex W9 ⟨v, rfl, hv, hb⟩
      obtain ⟨T9, c9, rfl⟩ := Kd.R_slice hv
      have n_HC := Aside0.mk (Kd.C_below HC.out hb)
      have n_HB := Aside0.mk (below_step HB.out hb)
      have n_HK := Aside0.mk (blk_below HK.out hb)
      have n_HV := Aside0.mk (Kd.C_below HV.out hb)
      have n_HG := Aside0.mk (Kd.C_below HG.out hb)
      have n_HK2 := Aside0.mk (blk_below HK2.out hb)
      have n_HK3 := Aside0.mk (blk_below HK3.out hb)
      clear HC HB HK HV HG HK2 HK3
      have HC := n_HC
      have HB := n_HB
      have HK := n_HK
      have HV := n_HV
      have HG := n_HG
      have HK2 := n_HK2
      have HK3 := n_HK3
      clear n_HC n_HB n_HK n_HV n_HG n_HK2 n_HK3
      clear hb hv
      go_upto_region 11 with fail
      obtain ⟨g4, hg4⟩ : ∃ g, g = W9.heap.size := ⟨_, rfl⟩
      have hW := below_alloc (Below.refl W9.heap.size W9) (Obj.cells #[Value.int IntKind.i64 0, Value.int IntKind.i64 0, Value.slice T9 0 c9] 25)
      have hN := blk_new W9 (Obj.cells #[Value.int IntKind.i64 0, Value.int IntKind.i64 0, Value.slice T9 0 c9] 25)
      rw [← hg4] at hN ⊢
      generalize W9.alloc (Obj.cells #[Value.int IntKind.i64 0, Value.int IntKind.i64 0, Value.slice T9 0 c9] 25) = WA at hW hN ⊢
      have n_HC := Aside0.mk (Kd.C_below HC.out hW)
      have n_HB := Aside0.mk (below_step HB.out hW)
      have n_HK := Aside0.mk (blk_below HK.out hW)
      have n_HV := Aside0.mk (Kd.C_below HV.out hW)
      have n_HG := Aside0.mk (Kd.C_below HG.out hW)
      have n_HK2 := Aside0.mk (blk_below HK2.out hW)
      have n_HK3 := Aside0.mk (blk_below HK3.out hW)
      clear HC HB HK HV HG HK2 HK3
      have HC := n_HC
      have HB := n_HB
      have HK := n_HK
      have HV := n_HV
      have HG := n_HG
      have HK2 := n_HK2
      have HK3 := n_HK3
      clear n_HC n_HB n_HK n_HV n_HG n_HK2 n_HK3
      have HK4 := Aside0.mk (hN)
      have Eg4 := Aside0.mk hg4
      clear hW hN hg4
      have k0 := blk_cell HK.out 0
      have k1 := blk_cell HK.out 1
      have k2 := blk_cell HK.out 2
      have m0 := blk_cell HK2.out 0
      have m1 := blk_cell HK2.out 1
      have m2 := blk_cell HK2.out 2
      go_wp2_with fail
      go_at_call 25
      clear k0 k1 k2
      clear m0 m1 m2
      refine (intarsiaref10_Same.calls 1001 d n T2 c2 l d n A c l true WA HG.out HGc.out HC.out HCc.out (by unfold intarsiaref10_Same.f; rw [if_pos rfl, if_pos rfl, rsame_is l l (by have := HLN.out; omega), sames_self]; rfl)).mono ?_
      rintro ex WB ⟨rfl, hb⟩
      have n_HC := Aside0.mk (Kd.C_below HC.out hb)
      have n_HB := Aside0.mk (below_step HB.out hb)
      have n_HK := Aside0.mk (blk_below HK.out hb)
      have n_HV := Aside0.mk (Kd.C_below HV.out hb)
      have n_HG := Aside0.mk (Kd.C_below HG.out hb)
      have n_HK2 := Aside0.mk (blk_below HK2.out hb)
      have n_HK3 := Aside0.mk (blk_below HK3.out hb)
      have n_HK4 := Aside0.mk (blk_below HK4.out hb)
      clear HC HB HK HV HG HK2 HK3 HK4
      have HC := n_HC
      have HB := n_HB
      have HK := n_HK
      have HV := n_HV
      have HG := n_HG
      have HK2 := n_HK2
      have HK3 := n_HK3
      have HK4 := n_HK4
      clear n_HC n_HB n_HK n_HV n_HG n_HK2 n_HK3 n_HK4
      clear hb
      go_wp2_with fail
      go_at_call 7
      refine (awake_calls WB).mono ?_
      rintro ex VA ⟨rfl, hb⟩
      have HBA := Aside0.mk (below_step HB.out hb)
      clear hb
      go_wp2_with fail
      go_ret
      exact ⟨rfl, HBA.out⟩
end Go.Proofs.Ytgbjinonlfhciaa.MBk
