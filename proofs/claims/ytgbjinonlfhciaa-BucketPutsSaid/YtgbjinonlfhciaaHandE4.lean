/- The contract of slices.Insert of one pair, in place. -/
import Derived.Test.YtgbjinonlfhciaaHandE3
namespace Go.Proofs.Ytgbjinonlfhciaa.MBk
open Go.RowKit Go.Proofs.Ytgbjinonlfhciaa.BkV Go.Proofs.YtgbjinonlfhciaaW.PrintWords Go.Proofs.YtgbjinonlfhciaaW.PrintLast Go.Proofs.YtgbjinonlfhciaaW.PrintMore
set_option linter.unusedVariables false
set_option linter.unusedSimpArgs false
set_option maxHeartbeats 8000000 in
set_option maxRecDepth 100000 in
theorem insert_shift (xs : List S27) (i : Nat) (x : S27) (g cap : Nat) (cur : Array Value) (gv : Nat) (base : Nat) (w : World) (hbase : base ≤ g) (hg : w.heap[g]? = some (.cells cur 27 (0, 0))) (hroom : xs.length + 1 ≤ cap) (hcap : cap ≤ maxLen) (hsz : cur.size = cap * 2) (hcur : cur.toList.take (xs.length * 2) = pcs xs)
    (hv : w.heap[gv]? = some (.cells #[.string x.f0, .string x.f1] 27 (0, 0))) (hne : gv ≠ g) (hi : i < xs.length) (hl : xs.length ≤ 1000) (hbw : base ≤ w.heap.size) :
    Calls Try.prog 30 #[.slice (some ⟨g, 0, none⟩) xs.length cap, .int .i64 (i : Int), .slice (some ⟨gv, 0, none⟩) 1 1] w fun e w' => ∃ v1, e = .returned v1 ∧ Kd.R k27 27 w' base (fun _ => True) v1 (xs.take i ++ [x] ++ xs.drop i) ∧ Below base w w' ∧ w.grownBy w' (some g) := by
  obtain ⟨i0, hi0, hsz2⟩ := Option.map_eq_some_iff.1 size27
  have hmx : maxLen = 9223372036854775807 := by decide
  have hcutA := cut_from (P := Try.prog) 22 27 .i64 Try.underlying22 hi0 2 hsz2 (some ⟨g, 0, none⟩) xs.length cap (i : Int) (by omega) (by omega)
  have hcutN := cut_room (P := Try.prog) 22 27 .i64 Try.underlying22 hi0 (some ⟨g, 0, none⟩) xs.length cap ((xs.length : Int) + 1) (by omega) (by omega)
  have hcutB := cut_from (P := Try.prog) 22 27 .i64 Try.underlying22 hi0 2 hsz2 (some ⟨g, 0, none⟩) (xs.length + 1) cap ((i : Int) + 1) (by omega) (by omega)
  have hcutC := cut_from (P := Try.prog) 22 27 .i64 Try.underlying22 hi0 2 hsz2 (some ⟨g, 0, none⟩) (xs.length + 1) cap (i : Int) (by omega) (by omega)
  have t1 : ((xs.length : Int) + 1).toNat = xs.length + 1 := by omega
  have t2 : ((i : Int) + 1).toNat = i + 1 := by omega
  have a1 : (Option.map (fun (y : Addr) => y.add ((i + 1) * 2)) (some ⟨g, 0, none⟩)) = some ⟨g, (i + 1) * 2, none⟩ := by
    show some (Addr.add ⟨g, 0, none⟩ ((i + 1) * 2)) = _
    rw [Addr.add_lit, Nat.zero_add]
  have a2 : (Option.map (fun (y : Addr) => y.add (i * 2)) (some ⟨g, 0, none⟩)) = some ⟨g, i * 2, none⟩ := by
    show some (Addr.add ⟨g, 0, none⟩ (i * 2)) = _
    rw [Addr.add_lit, Nat.zero_add]
  rw [Int.toNat_natCast, if_neg (show ¬ cap = i by omega), a2] at hcutA hcutC
  rw [t1] at hcutN
  rw [t2, if_neg (show ¬ cap = i + 1 by omega), a1, show xs.length + 1 - (i + 1) = xs.length - i by omega] at hcutB
  have hov : ∀ lb cb, (callFunc 53 #[.slice (some ⟨gv, 0, none⟩) 1 1, .slice (some ⟨g, (i + 1) * 2, none⟩) lb cb]).run Try.prog w = .ok (.value (.bool false)) w := fun lb cb => by
    rw [run_callFunc_extern Try.func53 (by kernel_rfl) (by kernel_rfl) (by kernel_rfl) (e := Extern.SlicesOverlaps.overlaps #[22, 22] #[4]) (by kernel_rfl),
      Lib.run_overlaps_apart w 22 4 27 Try.underlying22 2 sizeOf27 ⟨gv, 0, none⟩ ⟨g, (i + 1) * 2, none⟩ 1 1 lb cb hne 27 27 2 cur.size (by simp [World.shape?, hv]) (by simp [World.shape?, hg]) (by omega) (frozen_of_row w gv 0 _ 27 hv) (frozen_of_row w gv 2 _ 27 hv)]
    rfl
  obtain ⟨sp, hsp⟩ : ∃ sp, cur.toList = pcs (xs.take i) ++ pcs (xs.drop i) ++ sp := ⟨cur.toList.drop (xs.length * 2), by
    rw [← pcs_append, List.take_append_drop, ← hcur, List.take_append_drop]⟩
  have lP : (pcs (xs.take i)).length = i * 2 := by rw [pcs_len, List.length_take]; congr 1; omega
  have lQ : (pcs (xs.drop i)).length = (xs.length - i) * 2 := by rw [pcs_len, List.length_drop]
  have lS : 2 ≤ sp.length := by
    have h1 : cur.toList.length = cap * 2 := by rw [Array.length_toList]; exact hsz
    rw [hsp, List.length_append, List.length_append, lP, lQ] at h1
    omega
  have hcp1 : ∀ ty, (Builtin.copy_ #[22, 22] ty #[.slice (some ⟨g, (i + 1) * 2, none⟩) (xs.length - i) (cap - (i + 1)), .slice (some ⟨g, i * 2, none⟩) (xs.length + 1 - i) (cap - i)]).run Try.prog w.drew = .ok (goInt ((xs.length - i : Nat) : Int)) (w.drew.setRow g (cur.toList.take ((i + 1) * 2) ++ pcs (xs.drop i) ++ cur.toList.drop ((i + 1) * 2 + (pcs (xs.drop i)).length)).toArray) := fun ty =>
    run_copy_rows w.drew 22 22 ty 27 2 (xs.length - i) g ((i + 1) * 2) (xs.length - i) (cap - (i + 1)) ⟨g, i * 2, none⟩ (xs.length + 1 - i) (cap - i) cur 27 (pcs (xs.drop i)) Try.underlying22 size27 hg (Nat.min_eq_right (by omega)) lQ
      (pcs_cells hg hcur (i * 2) _ (fun j u hj => by rw [← pcs_drop xs i (by omega), List.getElem?_drop] at hj; exact hj)) (by rw [lQ]; omega) (pcs_one _)
  have hsz1 : (cur.toList.take ((i + 1) * 2) ++ pcs (xs.drop i) ++ cur.toList.drop ((i + 1) * 2 + (pcs (xs.drop i)).length)).length = cap * 2 := by
    have h1 : cur.toList.length = cap * 2 := by rw [Array.length_toList]; exact hsz
    rw [List.length_append, List.length_append, List.length_take, List.length_drop, lQ, h1]
    omega
  have hseg := seg_insert (X := [Value.string x.f0, Value.string x.f1]) hsp lP lQ lS
  rw [show i * 2 + 2 = (i + 1) * 2 by omega, ← lQ] at hseg
  generalize hcur1 : cur.toList.take ((i + 1) * 2) ++ pcs (xs.drop i) ++ cur.toList.drop ((i + 1) * 2 + (pcs (xs.drop i)).length) = cur1 at hcp1 hsz1 hseg
  obtain ⟨W1, hW1⟩ : ∃ W1, w.drew.setRow g cur1.toArray = W1 := ⟨_, rfl⟩
  rw [hW1] at hcp1
  have hg1 : W1.heap[g]? = some (.cells cur1.toArray 27 (0, 0)) := by rw [← hW1]; exact setRow_heap w.drew g cur _ 27 _ hg
  have hv1 : W1.heap[gv]? = some (.cells #[.string x.f0, .string x.f1] 27 (0, 0)) := by rw [← hW1]; exact (setRow_other w.drew g gv _ hne).trans hv
  have hgr1 : w.grownBy W1 (some g) := by
    rw [← hW1]
    exact ⟨rfl, rfl, rfl, by rw [setRow_size]; exact Nat.le_refl _, fun k _ hk => setRow_other w.drew g k _ (fun e => hk (by rw [e]))⟩
  clear hW1
  have hcp2 : ∀ ty, (Builtin.copy_ #[22, 22] ty #[.slice (some ⟨g, i * 2, none⟩) (xs.length + 1 - i) (cap - i), .slice (some ⟨gv, 0, none⟩) 1 1]).run Try.prog W1 = .ok (goInt 1) (W1.setRow g (cur1.take (i * 2) ++ [Value.string x.f0, Value.string x.f1] ++ cur1.drop (i * 2 + 2)).toArray) := fun ty =>
    run_copy_rows W1 22 22 ty 27 2 1 g (i * 2) (xs.length + 1 - i) (cap - i) ⟨gv, 0, none⟩ 1 1 cur1.toArray 27 [.string x.f0, .string x.f1] Try.underlying22 size27 hg1 (Nat.min_eq_left (by omega)) rfl
      (fun j u hj => by rw [Addr.add_lit, Nat.zero_add, blk_cell hv1, List.getElem?_toArray]; exact hj) (by simp; omega) (fun u hu => by simp at hu; rcases hu with rfl | rfl <;> rfl)
  obtain ⟨W2, hW2⟩ : ∃ W2, W1.setRow g (cur1.take (i * 2) ++ [Value.string x.f0, Value.string x.f1] ++ cur1.drop (i * 2 + 2)).toArray = W2 := ⟨_, rfl⟩
  rw [hW2] at hcp2
  have hg2 : W2.heap[g]? = some (.cells (cur1.take (i * 2) ++ [Value.string x.f0, Value.string x.f1] ++ cur1.drop (i * 2 + 2)).toArray 27 (0, 0)) := by rw [← hW2]; exact setRow_heap W1 g cur1.toArray _ 27 _ hg1
  have hgr2 : w.grownBy W2 (some g) := by
    rw [← hW2]
    exact ⟨hgr1.os, hgr1.tape, hgr1.output, by rw [setRow_size]; exact hgr1.size, fun k hk1 hk => (setRow_other W1 g k _ (fun e => hk (by rw [e]))).trans (hgr1.block k hk1 hk)⟩
  rw [show i * 2 + 2 = (i + 1) * 2 by omega, hseg] at hg2
  have hsz2' : (pcs (xs.take i) ++ [Value.string x.f0, Value.string x.f1] ++ pcs (xs.drop i) ++ sp.drop 2).length = cap * 2 := by
    have h1 : cur.toList.length = cap * 2 := by rw [Array.length_toList]; exact hsz
    rw [hsp, List.length_append, List.length_append] at h1
    rw [List.length_append, List.length_append, List.length_append, List.length_drop]
    show _ + 2 + _ + _ = _
    omega
  have hpx : pcs (xs.take i ++ [x] ++ xs.drop i) = pcs (xs.take i) ++ [.string x.f0, .string x.f1] ++ pcs (xs.drop i) := by rw [pcs_append, pcs_append]; rfl
  have hlx : (xs.take i ++ [x] ++ xs.drop i).length = xs.length + 1 := by rw [List.length_append, List.length_append, List.length_take, List.length_drop]; show _ + 1 + _ = _; omega
  have hres : Kd.R k27 27 W2 base (fun _ => True) (.slice (some ⟨g, 0, none⟩) (xs.length + 1) cap) (xs.take i ++ [x] ++ xs.drop i) := own_row hbase hg2 hpx hlx hroom hcap hsz2'
  have HRES := Aside0.mk hres
  have HGR := Aside0.mk hgr2
  have HCP1 := Aside0.mk hcp1
  have HCP2 := Aside0.mk hcp2
  have HBG := Aside0.mk hbase
  have HBW := Aside0.mk hbw
  have hwn : wrap64 ((xs.length : Int) + 1) = (xs.length : Int) + 1 := add1i (Nat.le_trans hl (by decide))
  have hwi : wrap64 ((i : Int) + 1) = (i : Int) + 1 := add1i (Nat.le_trans (Nat.le_of_lt hi) (Nat.le_trans hl (by decide)))
  have q0 : ((i : Int) == (xs.length : Int)) = false := beq_eq_false_iff_ne.mpr (fun h => absurd (Int.ofNat.inj h) (Nat.ne_of_lt hi))
  have q1 : decide ((cap : Int) < (xs.length : Int) + 1) = false := decide_eq_false (fun h => absurd h (Int.not_lt.mpr (Int.ofNat_le.mpr hroom)))
  clear hcp1 hcp2 hres hgr1 hgr2 hg1 hv1 hg2 hW2 hsz hsz1 hsz2' hpx hlx lP lQ lS hseg hsp hcur hcur1 hg hv hne hroom hcap hmx a1 a2 t1 t2 hi0 hsz2 hl hbase
  go_enter Try.func30, Try.ntmps30
  go_wp2_with (simp only [hov])
  refine start_ (n := 9) (S := fun w' => True) (ds := []) #[false, false, false, false, false, false, false, false, false] (by kernel_rfl) rfl rfl trivial (fun hHeld => ?_); refine with_tabW Insert.tab15 Insert.bits15 (fun HT_ HW_ => ?_)
  refine pure_ (i := 0) (N := some 69) (v := ?_) (a' := ?_) #[true, false, false, false, false, false, false, false, false] rfl rfl (any_of HT_.out (by kernel_rfl)) (fun _ _ _ h => h) (Or.inl ⟨by rfl, ?_⟩) ?_ ?_
  rotate_left
  · intro w'
    go_simp
    with_reducible rfl
  rotate_left
  · simp only [Act.put, List.setIfInBounds_toArray, List.set_cons_zero, List.set_cons_succ, i64_w, i32_w]
    rfl
  refine pure_ (i := 1) (N := some 70) (v := ?_) (a' := ?_) #[true, true, false, false, false, false, false, false, false] rfl rfl (any_of HT_.out (by kernel_rfl)) (fun _ _ _ h => h) (Or.inl ⟨by rfl, ?_⟩) ?_ ?_
  rotate_left
  · intro w'
    go_simp
    with_reducible rfl
  rotate_left
  · simp only [Act.put, List.setIfInBounds_toArray, List.set_cons_zero, List.set_cons_succ, i64_w, i32_w]
    rfl
  refine pure_ (i := 2) (N := some 71) (v := ?_) (a' := ?_) #[true, true, true, false, false, false, false, false, false] rfl rfl (any_of HT_.out (by kernel_rfl)) (fun _ _ _ h => h) (Or.inl ⟨by rfl, ?_⟩) ?_ ?_
  rotate_left
  · intro w'
    go_simp
    with_reducible rfl
  rotate_left
  · simp only [Act.put, List.setIfInBounds_toArray, List.set_cons_zero, List.set_cons_succ, i64_w, i32_w]
    rfl
  refine pure_ (i := 3) (N := some 72) (v := ?_) (a' := ?_) #[true, true, true, true, false, false, false, false, false] rfl rfl (any_of HT_.out (by kernel_rfl)) (fun _ _ _ h => h) (Or.inl ⟨by rfl, ?_⟩) ?_ ?_
  rotate_left
  · intro w'
    go_simp
    with_reducible rfl
  rotate_left
  · simp only [Act.put, List.setIfInBounds_toArray, List.set_cons_zero, List.set_cons_succ, i64_w, i32_w]
    rfl
  refine pure_ (i := 4) (N := some 73) (v := ?_) (a' := ?_) #[true, true, true, true, true, false, false, false, false] rfl rfl (any_of HT_.out (by kernel_rfl)) (fun _ _ _ h => h) (Or.inl ⟨by rfl, ?_⟩) ?_ ?_
  rotate_left
  · intro w'
    go_simp
    with_reducible rfl
  rotate_left
  · simp only [Act.put, List.setIfInBounds_toArray, List.set_cons_zero, List.set_cons_succ, i64_w, i32_w]
    rfl
  refine pure_ (i := 5) (N := some 74) (v := ?_) (a' := ?_) #[true, true, true, true, true, true, false, false, false] rfl rfl (any_of HT_.out (by kernel_rfl)) (fun _ _ _ h => h) (Or.inl ⟨by rfl, ?_⟩) ?_ ?_
  rotate_left
  · intro w'
    go_simp
    with_reducible rfl
  rotate_left
  · simp only [Act.put, List.setIfInBounds_toArray, List.set_cons_zero, List.set_cons_succ, i64_w, i32_w]
    rfl
  refine pure_ (i := 6) (N := some 75) (v := ?_) (a' := ?_) #[true, true, true, true, true, true, true, false, false] rfl rfl (any_of HT_.out (by kernel_rfl)) (fun _ _ _ h => h) (Or.inl ⟨by rfl, ?_⟩) ?_ ?_
  rotate_left
  · intro w'
    go_simp
    with_reducible rfl
  rotate_left
  · simp only [Act.put, List.setIfInBounds_toArray, List.set_cons_zero, List.set_cons_succ, i64_w, i32_w]
    rfl
  refine pure_ (i := 7) (N := some 76) (v := ?_) (a' := ?_) #[true, true, true, true, true, true, true, true, false] rfl rfl (any_of HT_.out (by kernel_rfl)) (fun _ _ _ h => h) (Or.inl ⟨by rfl, ?_⟩) ?_ ?_
  rotate_left
  · intro w'
    go_simp
    with_reducible rfl
  rotate_left
  · simp only [Act.put, List.setIfInBounds_toArray, List.set_cons_zero, List.set_cons_succ, i64_w, i32_w]
    rfl
  refine one_ (i := 8) (N := some 77) #[true, true, true, true, true, true, true, true, true] rfl rfl (one_of HT_.out (by kernel_rfl)) (by decide) (fun K hK => ?_)
  refine step_copy_ (.tmp 73) (.tmp 76) 22 22 (by rfl) rfl rfl (.slice (some ⟨g, (i + 1) * 2, none⟩) (xs.length - i) (cap - (i + 1))) (.slice (some ⟨g, i * 2, none⟩) (xs.length + 1 - i) (cap - i)) (by rfl) (by rfl) (HCP1.out _) ?_
  refine hK.out _ _ trivial (fun hHeld => ?_)
  clear hK K
  refine norm_ (a' := ?_) ?_ ?_
  rotate_left
  · show Act.put _ (some 77) _ = _
    simp only [Act.put, List.setIfInBounds_toArray, List.set_cons_zero, List.set_cons_succ, i64_w, i32_w]
    rfl
  refine done_ (done_of HT_.out (by kernel_rfl)) ?_
  clear hHeld HT_ HW_
  have hcp2 := HCP2.out
  go_wp2_with fail
  go_ret
  exact ⟨_, rfl, HRES.out, Below.grown (Below.refl base w) HGR.out HBW.out (fun k hk => by injection hk with hk; rw [← hk]; exact HBG.out), HGR.out⟩
end Go.Proofs.Ytgbjinonlfhciaa.MBk
