/- The contract of the reference's Get. -/
import Derived.Test.YtgflafifemhmgaaRootGt
import Derived.Test.YtgflafifemhmgaaMRtx10
namespace Go.Proofs.Ytgflafifemhmgaa.MRt
open Go.RowKit Go.Proofs.Ytgflafifemhmgaa.Hand Go.Proofs.Ytgflafifemhmgaa.Crc Go.Proofs.Ytgflafifemhmgaa.RootV Go.Proofs.Ytgflafifemhmgaa.RSums Go.Proofs.Ytgflafifemhmgaa.RPure Go.Proofs.YtgflafifemhmgaaW.PrintWords Go.Proofs.YtgflafifemhmgaaW.PrintLast Go.Proofs.YtgflafifemhmgaaW.PrintMore
attribute [local go_sem] max2_int min2_mn max_two min_two
set_option linter.unusedVariables false
set_option linter.unusedSimpArgs false
def ref05_Get.T11 : Bool × List (List Nat × List Nat) := (true, [([], []), ([0], [0]), ([1], [1]), ([], []), ([3], [3]), ([4], [4]), ([], []), ([6], [6]), ([7], [7]), ([0, 1, 2], []), ([9, 2, 0, 1, 2], [2, 9]), ([0, 1, 2, 3, 4, 5, 9, 10], []), ([11, 5, 10, 0, 1, 2, 3, 4, 5, 9, 10], [5, 11]), ([0, 1, 2, 3, 4, 5, 6, 7, 8, 9, 10, 11, 12], []), ([13, 8, 12, 0, 1, 2, 3, 4, 5, 6, 7, 8, 9, 10, 11, 12], [8, 13])])
def ref05_Get.B11 : List Nat := [0, 1, 3, 0, 8, 24, 0, 64, 192, 7, 519, 1599, 3647, 8191, 16383]
theorem ref05_Get.tab11 : rtab .any (opsOf Try.f31 11) = ref05_Get.T11 := by kernel_rfl
theorem ref05_Get.bits11 : waitsOk ref05_Get.T11.2 ref05_Get.B11 = true := by kernel_rfl
theorem str_eqd {a b : List Int} (ha : ∀ x ∈ a, Byte x) (hb : ∀ x ∈ b, Byte x) : ((strOfNums a).toList == (strOfNums b).toList) = decide (a = b) := by
  by_cases h : a = b
  · subst h; simp
  · have : ¬ (strOfNums a).toList = (strOfNums b).toList := fun e => h ((str_eq ha hb).mp e)
    simp [h, this]
set_option maxHeartbeats 16000000 in
set_option maxRecDepth 100000 in
theorem ref_Get (A0 : Option Addr) (c0 : Nat) (l : List Int) (w : World) (hr : Kd.C (Kd.int .u8) w A0 l.length l) (hc : l.length ≤ c0) (hb : ∀ x ∈ l, Byte x) :
    Calls Try.prog 31 #[.slice A0 l.length c0] w fun ex w' => ∃ v, ex = .returned (.tuple #[v, .int .i64 (rget l).2]) ∧ rvAt w' w.heap.size v (rget l).1 ∧ Below w.heap.size w w' := by
  have HC := Aside0.mk hc
  have HBY := Aside0.mk hb
  have HR := Aside0.mk hr
  by_cases hl : l.length = 256
  · have HL := Aside0.mk hl
    have lb : ((l.length : Int) != 256) = false := by rw [hl]; rfl
    obtain ⟨i0, hi0, _, hsz, _⟩ := info_parts infoU8
    have hcutM := cut_mid (P := Try.prog) 22 5 .i64 .i64 Try.underlying22 hi0 1 hsz A0 l.length c0 4 10 (by decide) (by decide) (by omega) hc
    have hcutD := cut_from (P := Try.prog) 22 5 .i64 Try.underlying22 hi0 1 hsz A0 l.length c0 250 (by decide) (by omega)
    have hcutF := cut_from (P := Try.prog) 22 5 .i64 Try.underlying22 hi0 1 hsz A0 l.length c0 4 (by decide) (by omega)
    have hcutT := cut_to (P := Try.prog) 22 5 .i64 Try.underlying22 hi0 A0 l.length c0 250 (by decide) (by omega) hc
    have hm := Kd.C_mid (k := Kd.int .u8) (lo := 4) (hi := 10) (c := c0) hr (by decide) (by omega) hc
    have hd := Kd.C_drop (m := 250) (c := c0) hr (by omega) hc
    have hf := Kd.C_drop (m := 4) (c := c0) hr (by omega) hc
    have ht := Kd.C_take (m := 250) hr (by omega)
    obtain ⟨AM, hAM⟩ : ∃ A1, A1 = (if c0 = (4 : Int).toNat then A0 else (A0 : Option Addr).map (·.add ((4 : Int).toNat * 1))) := ⟨_, rfl⟩
    obtain ⟨AD, hAD⟩ : ∃ A1, A1 = (if c0 = (250 : Int).toNat then A0 else (A0 : Option Addr).map (·.add ((250 : Int).toNat * 1))) := ⟨_, rfl⟩
    rw [← hAM] at hcutM hcutF
    rw [← hAD] at hcutD
    replace hm : Kd.C (Kd.int .u8) w AM ((l.take 10).drop 4).length ((l.take 10).drop 4) := by rw [hAM]; exact hm
    replace hd : Kd.C (Kd.int .u8) w AD (l.drop 250).length (l.drop 250) := by rw [hAD]; exact hd
    replace hf : Kd.C (Kd.int .u8) w AM (l.drop 4).length (l.drop 4) := by rw [hAM]; exact hf
    have lm : ((l.take 10).drop 4).length = 6 := by rw [List.length_drop, List.length_take, hl]; rfl
    have ld : (l.drop 250).length = l.length - 250 := List.length_drop
    have lf : (l.drop 4).length = l.length - 4 := List.length_drop
    have lt : (l.take 250).length = 250 := by rw [List.length_take, hl]; rfl
    have byM : ∀ x ∈ (l.take 10).drop 4, Byte x := fun x hx => hb x (List.mem_of_mem_take (List.mem_of_mem_drop hx))
    have byD : ∀ x ∈ l.drop 250, Byte x := fun x hx => hb x (List.mem_of_mem_drop hx)
    obtain ⟨eq, heq⟩ : ∃ b, b = decide ((l.take 10).drop 4 = l.drop 250) := ⟨_, rfl⟩
    have hne := str_eqd byM byD
    rw [← heq] at hne
    have HNE := Aside0.mk hne
    have HNE := Aside0.mk hne
    have HE := Aside0.mk heq
    have HM := Aside0.mk hm
    have HD := Aside0.mk hd
    have HF := Aside0.mk hf
    have HT := Aside0.mk ht
    clear hl hr hc hb heq hne hm hd hf ht hAM hAD hi0 hsz byM byD
    go_enter Try.func31, Try.ntmps31
    go_wp2_with fail
    obtain ⟨g2, hg2⟩ : ∃ g, g = w.heap.size := ⟨_, rfl⟩
    have hW := below_alloc (Below.refl w.heap.size w) (Obj.cells #[Value.int IntKind.i64 0, Value.int IntKind.i64 0, Value.int IntKind.i64 0, Value.int IntKind.i64 0, Value.slice none 0 0, Value.slice none 0 0] 52)
    have hN := blk_new w (Obj.cells #[Value.int IntKind.i64 0, Value.int IntKind.i64 0, Value.int IntKind.i64 0, Value.int IntKind.i64 0, Value.slice none 0 0, Value.slice none 0 0] 52)
    rw [← hg2] at hN ⊢
    generalize w.alloc (Obj.cells #[Value.int IntKind.i64 0, Value.int IntKind.i64 0, Value.int IntKind.i64 0, Value.int IntKind.i64 0, Value.slice none 0 0, Value.slice none 0 0] 52) = W1 at hW hN ⊢
    have HB1 := Aside0.mk hW
    have HN1 := Aside0.mk hN
    have HG2 := Aside0.mk hg2
    have hvM := fun n => Kd.C_string (P := Try.prog) (A := AM) (c := c0 - 4) Try.underlying22 Try.underlying5 Try.underlying9 (Kd.C_drewN (Kd.C_below HM.out hW) n)
    have hvD := fun n => Kd.C_string (P := Try.prog) (A := AD) (c := c0 - 250) Try.underlying22 Try.underlying5 Try.underlying9 (Kd.C_drewN (Kd.C_below HD.out hW) n)
    rw [lm] at hvM
    rw [ld] at hvD
    clear hW hN hg2 HM HD
    go_quiet (fail)
    rw [HNE.out]
    have HB2 := Aside0.mk (pw_below_drewN HB1.out nq)
    have HN2 := Aside0.mk (blk_drewN HN1.out nq)
    generalize W1.drewN nq = W2 at HB2 HN2 ⊢
    clear HB1 HN1 hvM hvD HNE
    have d0 := blk_cell HN2.out 0; have f0 := blk_frozen HN2.out 0; have d1 := blk_cell HN2.out 1; have f1 := blk_frozen HN2.out 1; have d2 := blk_cell HN2.out 2; have f2 := blk_frozen HN2.out 2; have d3 := blk_cell HN2.out 3; have f3 := blk_frozen HN2.out 3; have d4 := blk_cell HN2.out 4; have f4 := blk_frozen HN2.out 4; have d5 := blk_cell HN2.out 5; have f5 := blk_frozen HN2.out 5
    cases eq
    · have HEE := Aside0.mk (of_decide_eq_false HE.out.symm)
      go_wp2_with fail
      clear d0 d1 d2 d3 d4 d5 f0 f1 f2 f3 f4 f5
      refine bodyPost_ret (results_ct rfl _ _ g2 52 _ (0, 0) _ rfl (put6_heap HN2.out _ _ _ _ _ _) Try.underlying52 rfl (by kernel_rfl)) rfl ?_
      have hz : rget l = (rzero, 3) := by unfold rget; rw [if_pos HL.out, if_neg HEE.out]
      rw [hz]
      exact ⟨_, rfl, rvAt.zero _ _, put6_below HB2.out (Nat.le_of_eq HG2.out.symm) _ _ _ _ _ _⟩
    · have HEE := Aside0.mk (of_decide_eq_true HE.out.symm)
      go_wp2_with fail
      go_at_call 42
      obtain ⟨x, e, hxe⟩ : ∃ x e, intarsiaref02_Open.f 3000 (l.take 250) = some (x, e) ∧ (e = 0 ↔ sumok l) := by
        rw [ropen_250 0 l HL.out HBY.out]
        by_cases hs : sumok l
        · rw [if_pos hs]; exact ⟨_, _, rfl, fun _ => hs, fun _ => rfl⟩
        · rw [if_neg hs]; exact ⟨_, _, rfl, fun h => absurd h (by decide), fun h => absurd h hs⟩
      have HXE := Aside0.mk hxe
      have hso := intarsiaref02_Open.calls 3000 A0 c0 (l.take 250) x e W2 (Kd.C_below HT.out HB2.out) (by rw [lt]; have := HC.out; have := HL.out; omega) hxe.1
      rw [lt] at hso
      clear hxe d0 d1 d2 d3 d4 d5 f0 f1 f2 f3 f4 f5
      refine hso.mono ?_
      clear hso
      rintro ex W3 ⟨v, rfl, hrv, hb3⟩
      have HB3 := Aside0.mk (below_step HB2.out hb3)
      have HN3 := Aside0.mk (blk_below HN2.out hb3)
      clear hrv hb3 HB2 HN2
      have d0 := blk_cell HN3.out 0; have f0 := blk_frozen HN3.out 0; have d1 := blk_cell HN3.out 1; have f1 := blk_frozen HN3.out 1; have d2 := blk_cell HN3.out 2; have f2 := blk_frozen HN3.out 2; have d3 := blk_cell HN3.out 3; have f3 := blk_frozen HN3.out 3; have d4 := blk_cell HN3.out 4; have f4 := blk_frozen HN3.out 4; have d5 := blk_cell HN3.out 5; have f5 := blk_frozen HN3.out 5
      by_cases hs : e = 0
      · subst hs
        have HS := Aside0.mk (HXE.out.2.mp rfl)
        go_wp2_with fail
        go_at_call 43
        obtain ⟨g6, hg6⟩ : ∃ g, g = W3.heap.size := ⟨_, rfl⟩
        have hW := below_alloc (Below.refl W3.heap.size W3) (Obj.cells #[Value.int IntKind.i64 0, Value.int IntKind.i64 0, Value.int IntKind.i64 0, Value.int IntKind.i64 0, Value.slice none 0 0, Value.slice none 0 0] 52)
        have hN := blk_new W3 (Obj.cells #[Value.int IntKind.i64 0, Value.int IntKind.i64 0, Value.int IntKind.i64 0, Value.int IntKind.i64 0, Value.slice none 0 0, Value.slice none 0 0] 52)
        rw [← hg6] at hN ⊢
        generalize W3.alloc (Obj.cells #[Value.int IntKind.i64 0, Value.int IntKind.i64 0, Value.int IntKind.i64 0, Value.int IntKind.i64 0, Value.slice none 0 0, Value.slice none 0 0] 52) = W4 at hW hN ⊢
        have hne : g2 ≠ g6 := by have := blk_lt HN3.out; omega
        have hg2w := HG2.out
        have hle := HB3.out.size
        have HB4 := Aside0.mk (below_step HB3.out hW)
        have HN4 := Aside0.mk (blk_below HN3.out hW)
        have HK4 := Aside0.mk hN
        have HNE := Aside0.mk hne
        have HG6 := Aside0.mk (show w.heap.size ≤ g6 by omega)
        clear hW hN hg6 hne hg2w hle d0 d1 d2 d3 d4 d5 f0 f1 f2 f3 f4 f5 HB3 HN3
        have hg := intarsiaref01_Get.calls 8 AM (c0 - 4) (l.drop 4) 6 (gn6 l) 0 W4 (Kd.C_below HF.out HB4.out) (by rw [lf]; have := HC.out; omega) (rget6' 0 l HBY.out (by rw [HL.out]; decide))
        rw [lf] at hg
        refine hg.mono ?_
        clear hg
        rintro ex W5 ⟨rfl, n5, rfl⟩
        have HB5 := Aside0.mk (pw_below_drewN HB4.out n5)
        have HN5 := Aside0.mk (blk_drewN HN4.out n5)
        have HK5 := Aside0.mk (blk_drewN HK4.out n5)
        generalize W4.drewN n5 = W5 at HB5 HN5 HK5 ⊢
        clear HB4 HN4 HK4
        have d0 := blk_cell HK5.out 0
        have f0 := blk_frozen HK5.out 0
        go_wp2_with fail
        go_at_call 53
        clear d0 f0
        have hk : (W5.setCell ⟨g6, 0, none⟩ (Value.int IntKind.i64 (gn6 l))).heap[g6]? = _ := heap_setCell_same _ g6 0 _ 52 _ HK5.out
        have hb := HB5.out.setCell (p := ⟨g6, 0, none⟩) HG6.out (Value.int IntKind.i64 (gn6 l))
        have hn := (Below.heap_setCell W5 ⟨g6, 0, none⟩ (Value.int IntKind.i64 (gn6 l)) g2 HNE.out).trans HN5.out
        generalize W5.setCell ⟨g6, 0, none⟩ (Value.int IntKind.i64 (gn6 l)) = W6 at hk hb hn ⊢
        have HB6 := Aside0.mk hb
        have HN6 := Aside0.mk hn
        have HK6 := Aside0.mk hk
        clear hb hn hk HB5 HN5 HK5
        have hg := intarsiaref05_numbers.calls 4 A0 c0 l 10 3 [gn2 l 10, gn2 l 12, gn2 l 14] W6 (Kd.C_below HR.out HB6.out) HC.out (numbers_is 0 l HBY.out (by rw [HL.out]; decide) 10 3 (by rw [HL.out]; decide))
        refine hg.mono ?_
        clear hg
        rintro ex W7 ⟨v7, rfl, hr7, hb7⟩
        obtain ⟨A7, c7, rfl⟩ := Kd.R_slice hr7
        obtain ⟨ad, e7, hx0⟩ := Kd.at_int (Kd.R_reads' hr7).2.2 0 (by decide) (by simp)
        subst e7
        obtain ⟨gl, rfl⟩ := Kd.R_head hr7
        obtain ⟨ad1, e1, hx1⟩ := Kd.at_int (Kd.R_reads' hr7).2.2 1 (by decide) (by simp)
        obtain rfl := Option.some.inj e1
        obtain ⟨ad2, e2, hx2⟩ := Kd.at_int (Kd.R_reads' hr7).2.2 2 (by decide) (by simp)
        obtain rfl := Option.some.inj e2
        have hgl : W6.heap.size ≤ gl := Kd.R_base hr7 gl rfl
        replace hx0 : W7.cell? ⟨gl, 0, none⟩ = some (.int .i64 (gn2 l 10)) := by simpa [Addr.add, rd] using hx0
        replace hx1 : W7.cell? ⟨gl, 1, none⟩ = some (.int .i64 (gn2 l 12)) := by simpa [Addr.add, rd] using hx1
        replace hx2 : W7.cell? ⟨gl, 2, none⟩ = some (.int .i64 (gn2 l 14)) := by simpa [Addr.add, rd] using hx2
        have hfar : gl ≠ g6 := by have := blk_lt HK6.out; omega
        have HB7 := Aside0.mk (below_step HB6.out hb7)
        have HN7 := Aside0.mk (blk_below HN6.out hb7)
        have HK7 := Aside0.mk (blk_below HK6.out hb7)
        clear hr7 hb7 hgl HB6 HN6 HK6 e1 e2
        go_wp2_with fail
        refine start_ (n := 15) (S := fun w' => w'.cell? ⟨gl, 0, none⟩ = some (.int .i64 (gn2 l 10)) ∧ w'.cell? ⟨gl, 1, none⟩ = some (.int .i64 (gn2 l 12)) ∧ w'.cell? ⟨gl, 2, none⟩ = some (.int .i64 (gn2 l 14))) (ds := []) #[false, false, false, false, false, false, false, false, false, false, false, false, false, false, false] (by kernel_rfl) rfl rfl ⟨hx0, hx1, hx2⟩ (fun hHeld => ?_); refine with_tabW ref05_Get.tab11 ref05_Get.bits11 (fun HT_ HW_ => ?_)
        have HB8 := Aside0.mk (below_drew1 HB7.out)
        have HN8 := Aside0.mk (blk_drew HN7.out)
        have HK8 := Aside0.mk (blk_drew HK7.out)
        generalize W7.drew = W8 at HB8 HN8 HK8 hx0 hx1 hx2 hHeld ⊢
        clear HB7 HN7 HK7
        have d1 := blk_cell HK8.out 1; have f1 := blk_frozen HK8.out 1; have d2 := blk_cell HK8.out 2; have f2 := blk_frozen HK8.out 2; have d3 := blk_cell HK8.out 3; have f3 := blk_frozen HK8.out 3
        refine pure_ (i := 0) (N := some 44) (v := ?_) (a' := ?_) #[true, false, false, false, false, false, false, false, false, false, false, false, false, false, false] rfl rfl (any_of HT_.out (by kernel_rfl)) (fun _ _ _ h => h) (Or.inl ⟨by rfl, ?_⟩) ?_ ?_
        rotate_left
        · intro w'
          go_simp
          with_reducible rfl
        rotate_left
        · simp only [Act.put, List.setIfInBounds_toArray, List.set_cons_zero, List.set_cons_succ, i64_w, i32_w]
          rfl
        refine pure_ (i := 1) (N := some 45) (v := ?_) (a' := ?_) #[true, true, false, false, false, false, false, false, false, false, false, false, false, false, false] rfl rfl (any_of HT_.out (by kernel_rfl)) (fun _ _ _ h => h) (Or.inl ⟨by rfl, ?_⟩) ?_ ?_
        rotate_left
        · intro w'
          go_simp
          with_reducible rfl
        rotate_left
        · simp only [Act.put, List.setIfInBounds_toArray, List.set_cons_zero, List.set_cons_succ, i64_w, i32_w]
          rfl
        refine pure_ (i := 3) (N := some 47) (v := ?_) (a' := ?_) #[true, true, false, true, false, false, false, false, false, false, false, false, false, false, false] rfl rfl (any_of HT_.out (by kernel_rfl)) (fun _ _ _ h => h) (Or.inl ⟨by rfl, ?_⟩) ?_ ?_
        rotate_left
        · intro w'
          go_simp
          with_reducible rfl
        rotate_left
        · simp only [Act.put, List.setIfInBounds_toArray, List.set_cons_zero, List.set_cons_succ, i64_w, i32_w]
          rfl
        refine pure_ (i := 4) (N := some 48) (v := ?_) (a' := ?_) #[true, true, false, true, true, false, false, false, false, false, false, false, false, false, false] rfl rfl (any_of HT_.out (by kernel_rfl)) (fun _ _ _ h => h) (Or.inl ⟨by rfl, ?_⟩) ?_ ?_
        rotate_left
        · intro w'
          go_simp
          with_reducible rfl
        rotate_left
        · simp only [Act.put, List.setIfInBounds_toArray, List.set_cons_zero, List.set_cons_succ, i64_w, i32_w]
          rfl
        refine pure_ (i := 6) (N := some 50) (v := ?_) (a' := ?_) #[true, true, false, true, true, false, true, false, false, false, false, false, false, false, false] rfl rfl (any_of HT_.out (by kernel_rfl)) (fun _ _ _ h => h) (Or.inl ⟨by rfl, ?_⟩) ?_ ?_
        rotate_left
        · intro w'
          go_simp
          with_reducible rfl
        rotate_left
        · simp only [Act.put, List.setIfInBounds_toArray, List.set_cons_zero, List.set_cons_succ, i64_w, i32_w]
          rfl
        refine pure_ (i := 7) (N := some 51) (v := ?_) (a' := ?_) #[true, true, false, true, true, false, true, true, false, false, false, false, false, false, false] rfl rfl (any_of HT_.out (by kernel_rfl)) (fun _ _ _ h => h) (Or.inl ⟨by rfl, ?_⟩) ?_ ?_
        rotate_left
        · intro w'
          go_simp
          with_reducible rfl
        rotate_left
        · simp only [Act.put, List.setIfInBounds_toArray, List.set_cons_zero, List.set_cons_succ, i64_w, i32_w]
          rfl
        refine take_ (i := 2) (N := some 46) (v := ?_) (a' := ?_) #[true, true, true, true, true, false, true, true, false, false, false, false, false, false, false] rfl rfl (take_ofW HT_.out HW_.out (by kernel_rfl)) (fun _ _ _ h => h) (Or.inl ⟨by rfl, ?_⟩) hHeld ?_ ?_
        rotate_left
        · rintro w' ⟨s0, s1, s2⟩
          go_simp
          with_reducible rfl
        rotate_left
        · simp only [Act.put, List.setIfInBounds_toArray, List.set_cons_zero, List.set_cons_succ, i64_w, i32_w]
          rfl
        refine pure_ (i := 9) (N := some 53) (v := ?_) (a' := ?_) #[true, true, true, true, true, false, true, true, false, true, false, false, false, false, false] rfl rfl (any_of HT_.out (by kernel_rfl)) (fun _ _ _ h => h) (Or.inl ⟨by rfl, ?_⟩) ?_ ?_
        rotate_left
        · intro w'
          go_simp
          with_reducible rfl
        rotate_left
        · simp only [Act.put, List.setIfInBounds_toArray, List.set_cons_zero, List.set_cons_succ, i64_w, i32_w]
          rfl
        refine take_ (i := 5) (N := some 49) (v := ?_) (a' := ?_) #[true, true, true, true, true, true, true, true, false, true, false, false, false, false, false] rfl rfl (take_ofW HT_.out HW_.out (by kernel_rfl)) (fun _ _ _ h => h) (Or.inl ⟨by rfl, ?_⟩) hHeld ?_ ?_
        rotate_left
        · rintro w' ⟨s0, s1, s2⟩
          go_simp
          with_reducible rfl
        rotate_left
        · simp only [Act.put, List.setIfInBounds_toArray, List.set_cons_zero, List.set_cons_succ, i64_w, i32_w]
          rfl
        refine take_ (i := 8) (N := some 52) (v := ?_) (a' := ?_) #[true, true, true, true, true, true, true, true, true, true, false, false, false, false, false] rfl rfl (take_ofW HT_.out HW_.out (by kernel_rfl)) (fun _ _ _ h => h) (Or.inl ⟨by rfl, ?_⟩) hHeld ?_ ?_
        rotate_left
        · rintro w' ⟨s0, s1, s2⟩
          go_simp
          with_reducible rfl
        rotate_left
        · simp only [Act.put, List.setIfInBounds_toArray, List.set_cons_zero, List.set_cons_succ, i64_w, i32_w]
          rfl
        refine one_ (i := 10) (N := none) #[true, true, true, true, true, true, true, true, true, true, true, false, false, false, false] rfl rfl (one_of HT_.out (by kernel_rfl)) (by decide) (fun K hK => ?_)
        refine skip_ (w1 := ?_) (by rfl) rfl ?_ ?_
        rotate_left
        · go_simp
          rfl
        refine hK.out _ _ ⟨((cell_far (p := ⟨g6, _, none⟩) hfar _).trans hHeld.1), ((cell_far (p := ⟨g6, _, none⟩) hfar _).trans hHeld.2.1), ((cell_far (p := ⟨g6, _, none⟩) hfar _).trans hHeld.2.2)⟩ (fun hHeld => ?_)
        clear hK K
        refine pure_ (i := 11) (N := some 54) (v := ?_) (a' := ?_) #[true, true, true, true, true, true, true, true, true, true, true, true, false, false, false] rfl rfl (any_of HT_.out (by kernel_rfl)) (fun _ _ _ h => h) (Or.inl ⟨by rfl, ?_⟩) ?_ ?_
        rotate_left
        · intro w'
          go_simp
          with_reducible rfl
        rotate_left
        · simp only [Act.put, List.setIfInBounds_toArray, List.set_cons_zero, List.set_cons_succ, i64_w, i32_w]
          rfl
        refine one_ (i := 12) (N := none) #[true, true, true, true, true, true, true, true, true, true, true, true, true, false, false] rfl rfl (one_of HT_.out (by kernel_rfl)) (by decide) (fun K hK => ?_)
        refine skip_ (w1 := ?_) (by rfl) rfl ?_ ?_
        rotate_left
        · go_simp
          rfl
        refine hK.out _ _ ⟨((cell_far (p := ⟨g6, _, none⟩) hfar _).trans hHeld.1), ((cell_far (p := ⟨g6, _, none⟩) hfar _).trans hHeld.2.1), ((cell_far (p := ⟨g6, _, none⟩) hfar _).trans hHeld.2.2)⟩ (fun hHeld => ?_)
        clear hK K
        refine pure_ (i := 13) (N := some 55) (v := ?_) (a' := ?_) #[true, true, true, true, true, true, true, true, true, true, true, true, true, true, false] rfl rfl (any_of HT_.out (by kernel_rfl)) (fun _ _ _ h => h) (Or.inl ⟨by rfl, ?_⟩) ?_ ?_
        rotate_left
        · intro w'
          go_simp
          with_reducible rfl
        rotate_left
        · simp only [Act.put, List.setIfInBounds_toArray, List.set_cons_zero, List.set_cons_succ, i64_w, i32_w]
          rfl
        refine one_ (i := 14) (N := none) #[true, true, true, true, true, true, true, true, true, true, true, true, true, true, true] rfl rfl (one_of HT_.out (by kernel_rfl)) (by decide) (fun K hK => ?_)
        refine skip_ (w1 := ?_) (by rfl) rfl ?_ ?_
        rotate_left
        · go_simp
          rfl
        refine hK.out _ _ ⟨((cell_far (p := ⟨g6, _, none⟩) hfar _).trans hHeld.1), ((cell_far (p := ⟨g6, _, none⟩) hfar _).trans hHeld.2.1), ((cell_far (p := ⟨g6, _, none⟩) hfar _).trans hHeld.2.2)⟩ (fun hHeld => ?_)
        clear hK K
        refine done_ (done_of HT_.out (by kernel_rfl)) ?_
        have k1 : (W8.setCell ⟨g6, 1, none⟩ (Value.int IntKind.i64 (gn2 l 10))).heap[g6]? = _ := heap_setCell_same _ g6 1 _ 52 _ HK8.out
        have k2 : ((W8.setCell ⟨g6, 1, none⟩ (Value.int IntKind.i64 (gn2 l 10))).setCell ⟨g6, 2, none⟩ (Value.int IntKind.i64 (gn2 l 12))).heap[g6]? = _ := heap_setCell_same _ g6 2 _ 52 _ k1
        have k3 : (((W8.setCell ⟨g6, 1, none⟩ (Value.int IntKind.i64 (gn2 l 10))).setCell ⟨g6, 2, none⟩ (Value.int IntKind.i64 (gn2 l 12))).setCell ⟨g6, 3, none⟩ (Value.int IntKind.i64 (gn2 l 14))).heap[g6]? = _ := heap_setCell_same _ g6 3 _ 52 _ k2
        have hb := ((HB8.out.setCell (p := ⟨g6, 1, none⟩) HG6.out (Value.int IntKind.i64 (gn2 l 10))).setCell (p := ⟨g6, 2, none⟩) HG6.out (Value.int IntKind.i64 (gn2 l 12))).setCell (p := ⟨g6, 3, none⟩) HG6.out (Value.int IntKind.i64 (gn2 l 14))
        have hn := (Below.heap_setCell ((W8.setCell ⟨g6, 1, none⟩ (Value.int IntKind.i64 (gn2 l 10))).setCell ⟨g6, 2, none⟩ (Value.int IntKind.i64 (gn2 l 12))) ⟨g6, 3, none⟩ (Value.int IntKind.i64 (gn2 l 14)) g2 HNE.out).trans ((Below.heap_setCell (W8.setCell ⟨g6, 1, none⟩ (Value.int IntKind.i64 (gn2 l 10))) ⟨g6, 2, none⟩ (Value.int IntKind.i64 (gn2 l 12)) g2 HNE.out).trans ((Below.heap_setCell W8 ⟨g6, 1, none⟩ (Value.int IntKind.i64 (gn2 l 10)) g2 HNE.out).trans HN8.out))
        generalize ((W8.setCell ⟨g6, 1, none⟩ (Value.int IntKind.i64 (gn2 l 10))).setCell ⟨g6, 2, none⟩ (Value.int IntKind.i64 (gn2 l 12))).setCell ⟨g6, 3, none⟩ (Value.int IntKind.i64 (gn2 l 14)) = W9 at k3 hb hn hHeld ⊢
        clear hHeld HT_ HW_ hx0 hx1 hx2 hfar d1 d2 d3 f1 f2 f3 k1 k2
        have HB9 := Aside0.mk hb
        have HN9 := Aside0.mk hn
        have HK9 := Aside0.mk k3
        clear hb hn k3 HB8 HN8 HK8
        obtain ⟨ad, ea, h16⟩ := Kd.at_int (Kd.C_below HR.out HB9.out) 16 (by decide) (by rw [HL.out]; decide)
        obtain ⟨ad', ea', h17⟩ := Kd.at_int (Kd.C_below HR.out HB9.out) 17 (by decide) (by rw [HL.out]; decide)
        rw [ea] at ea'
        obtain rfl := Option.some.inj ea'
        have EA := Aside0.mk ea
        have q16 : ((16 : Int) < (l.length : Int)) = True := eq_true (by rw [HL.out]; decide)
        have q17 : ((17 : Int) < (l.length : Int)) = True := eq_true (by rw [HL.out]; decide)
        have qn16 : (16 < l.length) = True := eq_true (by rw [HL.out]; decide)
        have qn17 : (17 < l.length) = True := eq_true (by rw [HL.out]; decide)
        clear ea'
        try go_wp2_with fail
        try simp only [show (16 : Int).toNat = 16 from rfl, Nat.reduceMul, Nat.reduceEqDiff, Go.Addr.add, ↓reduceIte] at h16
        try simp only [show (17 : Int).toNat = 17 from rfl, Nat.reduceMul, Nat.reduceEqDiff, Go.Addr.add, ↓reduceIte] at h17
        go_quiet (fail)
        have hby16 := rd_byte l HBY.out 16
        have hby17 := rd_byte l HBY.out 17
        unfold Byte at hby16 hby17
        rw [show wrap64 (rd l 16) = rd l 16 by unfold wrap64; omega, show wrap64 (rd l 17) = rd l 17 by unfold wrap64; omega, mn_T l HBY.out, mn_M l HBY.out]
        have hT : cntT l ≤ 26 := Nat.min_le_right _ _
        have hM : cntM l ≤ 3 := Nat.min_le_right _ _
        have HB10 := Aside0.mk (pw_below_drewN HB9.out nq)
        have HN10 := Aside0.mk (blk_drewN HN9.out nq)
        have HK10 := Aside0.mk (blk_drewN HK9.out nq)
        generalize W9.drewN nq = W10 at HB10 HN10 HK10 ⊢
        clear HB9 HN9 HK9 h16 h17 hby16 hby17 ea q16 q17 qn16 qn17
        go_wp2_with fail
        go_at_call 53
        have hg := intarsiaref05_numbers.calls (cntT l + 1) A0 c0 l 18 (cntT l : Int) (nums2 l 18 (cntT l)) W10 (Kd.C_below HR.out HB10.out) HC.out (by have := numbers_is 0 l HBY.out (by rw [HL.out]; decide) 18 (cntT l) (by rw [HL.out]; omega); rw [Nat.zero_add] at this; exact this)
        refine hg.mono ?_
        clear hg
        rintro ex W11 ⟨vT, rfl, hrT, hb11⟩
        obtain ⟨AT, cT, rfl⟩ := Kd.R_slice hrT
        have HB11 := Aside0.mk (below_step HB10.out hb11)
        have HN11 := Aside0.mk (blk_below HN10.out hb11)
        have HK11 := Aside0.mk (blk_below HK10.out hb11)
        have HT11 := Aside0.mk hrT
        have HG26 := Aside0.mk (blk_lt HN10.out)
        have HG66 := Aside0.mk (blk_lt HK10.out)
        have HZ := Aside0.mk HB10.out.size
        clear hrT hb11 HB10 HN10 HK10
        have hw1 : (18 : Int) + 2 * ((cntT l : Nat) : Int) = ((18 + 2 * cntT l : Nat) : Int) := by omega
        have HW1 := Aside0.mk hw1
        clear hw1
        go_wp2_with fail
        go_at_call 53
        rw [HW1.out]
        have hg := intarsiaref05_numbers.calls (cntM l + 1) A0 c0 l ((18 + 2 * cntT l : Nat) : Int) (cntM l : Int) (nums2 l (18 + 2 * cntT l) (cntM l)) W11 (Kd.C_below HR.out HB11.out) HC.out (by have := numbers_is 0 l HBY.out (by rw [HL.out]; decide) (18 + 2 * cntT l) (cntM l) (by rw [HL.out]; omega); rw [Nat.zero_add] at this; exact this)
        refine hg.mono ?_
        clear hg
        rintro ex W12 ⟨vM, rfl, hrM, hb12⟩
        obtain ⟨AM2, cM, rfl⟩ := Kd.R_slice hrM
        have HB12 := Aside0.mk (below_step HB11.out hb12)
        have HN12 := Aside0.mk (blk_below HN11.out hb12)
        have HK12 := Aside0.mk (blk_below HK11.out hb12)
        have HT12 := Aside0.mk (Kd.R_below HT11.out hb12)
        have HM12 := Aside0.mk hrM
        have HG66b := Aside0.mk (blk_lt HK11.out)
        have HG211 := Aside0.mk (blk_lt HN11.out)
        have HZ2 := Aside0.mk HB11.out.size
        clear hrM hb12 HB11 HN11 HK11 HT11
        have d4 := blk_cell HK12.out 4; have f4 := blk_frozen HK12.out 4; have d5 := blk_cell HK12.out 5; have f5 := blk_frozen HK12.out 5
        go_upto_region 14 with fail
        have k1 : (W12.setCell ⟨g6, 4, none⟩ (Value.slice AT (nums2 l 18 (cntT l)).length cT)).heap[g6]? = _ := heap_setCell_same _ g6 4 _ 52 _ HK12.out
        have k2 : ((W12.setCell ⟨g6, 4, none⟩ (Value.slice AT (nums2 l 18 (cntT l)).length cT)).setCell ⟨g6, 5, none⟩ (Value.slice AM2 (nums2 l (18 + 2 * cntT l) (cntM l)).length cM)).heap[g6]? = _ := heap_setCell_same _ g6 5 _ 52 _ k1
        have hb := (HB12.out.setCell (p := ⟨g6, 4, none⟩) HG6.out (Value.slice AT (nums2 l 18 (cntT l)).length cT)).setCell (p := ⟨g6, 5, none⟩) HG6.out (Value.slice AM2 (nums2 l (18 + 2 * cntT l) (cntM l)).length cM)
        have hall : ∀ q, q ≠ g6 → ((W12.setCell ⟨g6, 4, none⟩ (Value.slice AT (nums2 l 18 (cntT l)).length cT)).setCell ⟨g6, 5, none⟩ (Value.slice AM2 (nums2 l (18 + 2 * cntT l) (cntM l)).length cM)).heap[q]? = W12.heap[q]? := fun q hq => (Below.heap_setCell (W12.setCell ⟨g6, 4, none⟩ (Value.slice AT (nums2 l 18 (cntT l)).length cT)) ⟨g6, 5, none⟩ (Value.slice AM2 (nums2 l (18 + 2 * cntT l) (cntM l)).length cM) q hq).trans (Below.heap_setCell W12 ⟨g6, 4, none⟩ (Value.slice AT (nums2 l 18 (cntT l)).length cT) q hq)
        generalize (W12.setCell ⟨g6, 4, none⟩ (Value.slice AT (nums2 l 18 (cntT l)).length cT)).setCell ⟨g6, 5, none⟩ (Value.slice AM2 (nums2 l (18 + 2 * cntT l) (cntM l)).length cM) = W13 at k2 hb hall ⊢
        have HB13 := Aside0.mk hb
        have HN13 := Aside0.mk ((hall g2 HNE.out).trans HN12.out)
        have HK13 : Aside0 (W13.heap[g6]? = some (.cells #[.int .i64 (rread l).ep, .int .i64 (rread l).bl, .int .i64 (rread l).nx, .int .i64 (rread l).st, .slice AT (rread l).tb.length cT, .slice AM2 (rread l).mp.length cM] 52 (0, 0))) := ⟨k2⟩
        have HT13 : Aside0 (Kd.R (Kd.int .i64) 3 W13 W10.heap.size (fun _ => True) (.slice AT (rread l).tb.length cT) (rread l).tb) := ⟨Kd.R_mono (Kd.R_step (Kd.R_bound HT12.out) (fun q hq _ => hall q (by have := hq.2.1; have := HG66.out; omega))) (fun _ _ => trivial)⟩
        have HM13 : Aside0 (Kd.R (Kd.int .i64) 3 W13 W11.heap.size (fun _ => True) (.slice AM2 (rread l).mp.length cM) (rread l).mp) := ⟨Kd.R_mono (Kd.R_step (Kd.R_bound HM12.out) (fun q hq _ => hall q (by have := hq.2.1; have := HG66b.out; omega))) (fun _ _ => trivial)⟩
        clear k1 k2 hb hall d4 d5 f4 f5 HB12 HN12 HK12 HT12 HM12
        have d0 := blk_cell HK13.out 0; have f0 := blk_frozen HK13.out 0; have d1 := blk_cell HK13.out 1; have f1 := blk_frozen HK13.out 1; have d2 := blk_cell HK13.out 2; have f2 := blk_frozen HK13.out 2; have d3 := blk_cell HK13.out 3; have f3 := blk_frozen HK13.out 3; have d4 := blk_cell HK13.out 4; have f4 := blk_frozen HK13.out 4; have d5 := blk_cell HK13.out 5; have f5 := blk_frozen HK13.out 5
        go_wp2_with fail
        go_at_call 26
        clear d0 d1 d2 d3 d4 d5 f0 f1 f2 f3 f4 f5
        have hp := intarsiaref05_Put.calls 9000 (rread l).ep (rread l).bl (rread l).nx (rread l).st AT cT (rread l).tb AM2 cM (rread l).mp (rput (rread l)).1 (rput (rread l)).2 W13 (Kd.R_reads' HT13.out).2.2 (Kd.R_reads' HT13.out).2.1 (Kd.R_reads' HM13.out).2.2 (Kd.R_reads' HM13.out).2.1 (rput_is 0 (rread l) (by rw [show (rread l).tb.length = cntT l from nums2_len _ _ _]; omega) (by rw [show (rread l).mp.length = cntM l from nums2_len _ _ _]; omega))
        refine hp.mono ?_
        clear hp
        rintro ex W14 ⟨v14, rfl, hr14, hb14⟩
        obtain ⟨A14, c14, rfl⟩ := Kd.R_slice hr14
        have HB14 := Aside0.mk (below_step HB13.out hb14)
        have HN14 := Aside0.mk (blk_below HN13.out hb14)
        have HK14 := Aside0.mk (blk_below HK13.out hb14)
        have HT14 := Aside0.mk (Kd.R_below HT13.out hb14)
        have HM14 := Aside0.mk (Kd.R_below HM13.out hb14)
        have hvC := Kd.C_string (P := Try.prog) (A := A14) (c := c14) Try.underlying22 Try.underlying5 Try.underlying9 (Kd.R_reads' hr14).2.2
        have hvL := Kd.C_string (P := Try.prog) (A := A0) (c := c0) Try.underlying22 Try.underlying5 Try.underlying9 (Kd.C_below HR.out HB14.out)
        clear hr14 hb14 HB13 HN13 HK13 HT13 HM13
        have d0 := blk_cell HN14.out 0; have f0 := blk_frozen HN14.out 0; have d1 := blk_cell HN14.out 1; have f1 := blk_frozen HN14.out 1; have d2 := blk_cell HN14.out 2; have f2 := blk_frozen HN14.out 2; have d3 := blk_cell HN14.out 3; have f3 := blk_frozen HN14.out 3; have d4 := blk_cell HN14.out 4; have f4 := blk_frozen HN14.out 4; have d5 := blk_cell HN14.out 5; have f5 := blk_frozen HN14.out 5
        have k0 := blk_cell HK14.out 0; have z0 := blk_frozen HK14.out 0; have k1 := blk_cell HK14.out 1; have z1 := blk_frozen HK14.out 1; have k2 := blk_cell HK14.out 2; have z2 := blk_frozen HK14.out 2; have k3 := blk_cell HK14.out 3; have z3 := blk_frozen HK14.out 3; have k4 := blk_cell HK14.out 4; have z4 := blk_frozen HK14.out 4; have k5 := blk_cell HK14.out 5; have z5 := blk_frozen HK14.out 5
        by_cases hq : (rput (rread l)).2 = 0
        · have HQ := Aside0.mk hq
          have eb : ((rput (rread l)).2 != 0) = false := by rw [hq]; rfl
          clear hq
          obtain ⟨eq2, heq2⟩ : ∃ b, b = decide ((rput (rread l)).1 = l) := ⟨_, rfl⟩
          have hne2 := str_eqd (rput_byte (rread l)) HBY.out
          rw [← heq2] at hne2
          have HE2 := Aside0.mk heq2
          clear heq2
          cases eq2
          · have HL2 := Aside0.mk (of_decide_eq_false HE2.out.symm)
            go_wp2_with fail
            clear d0 d1 d2 d3 d4 d5 f0 f1 f2 f3 f4 f5 k0 k1 k2 k3 k4 k5 z0 z1 z2 z3 z4 z5 hvC hvL
            refine bodyPost_ret (results_ct rfl _ _ g2 52 _ (0, 0) _ rfl (put6_heap HN14.out _ _ _ _ _ _) Try.underlying52 rfl (by kernel_rfl)) rfl ?_
            have hz : rget l = (rzero, 4) := by unfold rget; rw [if_pos HL.out, if_pos HEE.out, if_pos HS.out, if_neg (fun h => HL2.out (by rw [h]))]
            rw [hz]
            exact ⟨_, rfl, rvAt.zero _ _, put6_below HB14.out (Nat.le_of_eq HG2.out.symm) _ _ _ _ _ _⟩

          · have HL2 := Aside0.mk (of_decide_eq_true HE2.out.symm)
            go_wp2_with fail
            clear d0 d1 d2 d3 d4 d5 f0 f1 f2 f3 f4 f5 k0 k1 k2 k3 k4 k5 z0 z1 z2 z3 z4 z5 hvC hvL
            refine bodyPost_ret (results_ct rfl _ _ g2 52 _ (0, 0) _ rfl (put6_heap HN14.out _ _ _ _ _ _) Try.underlying52 rfl (by kernel_rfl)) rfl ?_
            have hz : rget l = (rread l, 0) := by
              unfold rget
              rw [if_pos HL.out, if_pos HEE.out, if_pos HS.out, if_pos (Prod.ext HL2.out HQ.out : rput (rread l) = (l, 0))]
            rw [hz]
            have y1 := HG26.out
            have y2 := HZ.out
            have y3 := HZ2.out
            have y4 := HG66b.out
            have y5 := HG66.out
            refine ⟨_, rfl, ⟨_, _, rfl, ?_, ?_⟩, put6_below HB14.out (Nat.le_of_eq HG2.out.symm) _ _ _ _ _ _⟩
            · exact Kd.R_lower (Kd.R_mono (Kd.R_step (Kd.R_bound HT14.out) (fun q hq _ => put6_far _ g2 _ _ _ _ _ _ q (by have := hq.2.1; omega))) (fun _ _ => trivial)) y2
            · exact Kd.R_lower (Kd.R_mono (Kd.R_step (Kd.R_bound HM14.out) (fun q hq _ => put6_far _ g2 _ _ _ _ _ _ q (by have := hq.2.1; have := HG211.out; omega))) (fun _ _ => trivial)) y3
        · have HQ := Aside0.mk hq
          have eb : ((rput (rread l)).2 != 0) = true := bne_iff_ne.mpr hq
          clear hq
          go_wp2_with fail
          clear d0 d1 d2 d3 d4 d5 f0 f1 f2 f3 f4 f5 k0 k1 k2 k3 k4 k5 z0 z1 z2 z3 z4 z5 hvC hvL
          refine bodyPost_ret (results_ct rfl _ _ g2 52 _ (0, 0) _ rfl (put6_heap HN14.out _ _ _ _ _ _) Try.underlying52 rfl (by kernel_rfl)) rfl ?_
          have hz : rget l = (rzero, 4) := by unfold rget; rw [if_pos HL.out, if_pos HEE.out, if_pos HS.out, if_neg (fun h => HQ.out (by rw [h]))]
          rw [hz]
          exact ⟨_, rfl, rvAt.zero _ _, put6_below HB14.out (Nat.le_of_eq HG2.out.symm) _ _ _ _ _ _⟩
      · have eb : (e != 0) = true := bne_iff_ne.mpr hs
        have HS := Aside0.mk (fun h => hs (HXE.out.2.mpr h) : ¬ sumok l)
        clear hs
        go_wp2_with fail
        clear d0 d1 d2 d3 d4 d5 f0 f1 f2 f3 f4 f5
        refine bodyPost_ret (results_ct rfl _ _ g2 52 _ (0, 0) _ rfl (put6_heap HN3.out _ _ _ _ _ _) Try.underlying52 rfl (by kernel_rfl)) rfl ?_
        have hz : rget l = (rzero, 13) := by unfold rget; rw [if_pos HL.out, if_pos HEE.out, if_neg HS.out]
        rw [hz]
        exact ⟨_, rfl, rvAt.zero _ _, put6_below HB3.out (Nat.le_of_eq HG2.out.symm) _ _ _ _ _ _⟩
  · have lb : ((l.length : Int) != 256) = true := bne_iff_ne.mpr (by omega)
    have HL := Aside0.mk hl
    clear hl hr hc hb
    go_enter Try.func31, Try.ntmps31
    go_wp2_with fail
    refine bodyPost_ret (results_ct rfl _ _ w.heap.size 52 _ (0, 0) _ rfl (blk_new w (Obj.cells #[Value.int IntKind.i64 0, Value.int IntKind.i64 0, Value.int IntKind.i64 0, Value.int IntKind.i64 0, Value.slice none 0 0, Value.slice none 0 0] 52)) Try.underlying52 rfl (by kernel_rfl)) rfl ?_
    have hz : rget l = (rzero, 2) := by unfold rget; rw [if_neg HL.out]
    rw [hz]
    exact ⟨_, rfl, rvAt.zero _ _, below_alloc (Below.refl _ _) _⟩
end Go.Proofs.Ytgflafifemhmgaa.MRt
