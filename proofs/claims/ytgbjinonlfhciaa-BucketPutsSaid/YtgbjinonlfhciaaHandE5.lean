/- The contract of slices.Insert of one pair: a new row; and of all its roads. -/
import Derived.Test.YtgbjinonlfhciaaHandE4
namespace Go.Proofs.Ytgbjinonlfhciaa.MBk
open Go.RowKit Go.Proofs.Ytgbjinonlfhciaa.BkV Go.Proofs.YtgbjinonlfhciaaW.PrintWords Go.Proofs.YtgbjinonlfhciaaW.PrintLast Go.Proofs.YtgbjinonlfhciaaW.PrintMore
set_option linter.unusedVariables false
set_option linter.unusedSimpArgs false
theorem sub1i {n i : Nat} (h : n ≤ 1000) (hi : i < n) : wrap64 ((n : Int) + 1 - (i : Int)) = ((n + 1 - i : Nat) : Int) := by unfold wrap64; omega
theorem take_get {L : List Value} {m j : Nat} {u : Value} (h : (L.take m)[j]? = some u) : L[0 + j]? = some u := by
  rw [Nat.zero_add]
  rw [List.getElem?_take] at h
  split at h
  · exact h
  · cases h
theorem zeros_len (z : Array Value) (k : Nat) : (Builtin.zeroCells z k).size = k * z.size := by simp [Builtin.zeroCells]
set_option maxHeartbeats 8000000 in
set_option maxRecDepth 100000 in
theorem insert_grow (xs : List S27) (i : Nat) (x : S27) (g cap : Nat) (cur : Array Value) (gv : Nat) (base : Nat) (w : World) (hg : w.heap[g]? = some (.cells cur 27 (0, 0))) (hnc : xs.length ≤ cap) (hroom : cap < xs.length + 1) (hcur : cur.toList.take (xs.length * 2) = pcs xs)
    (hv : w.heap[gv]? = some (.cells #[.string x.f0, .string x.f1] 27 (0, 0))) (hi : i < xs.length) (hl : xs.length ≤ 1000) (hbw : base ≤ w.heap.size) :
    Calls Try.prog 30 #[.slice (some ⟨g, 0, none⟩) xs.length cap, .int .i64 (i : Int), .slice (some ⟨gv, 0, none⟩) 1 1] w fun e w' => ∃ v1, e = .returned v1 ∧ Kd.R k27 27 w' base (fun _ => True) v1 (xs.take i ++ [x] ++ xs.drop i) ∧ Below base w w' ∧ w.grownBy w' (some g) := by
  obtain ⟨i0, hi0, hz0, hsz2, hbz⟩ := info_parts info27
  obtain ⟨b0, hb0⟩ : ∃ b, b = w.heap.size := ⟨_, rfl⟩
  obtain ⟨G, hG⟩ : ∃ G, G = grownCap w (xs.length + 1) cap 27 := ⟨_, rfl⟩
  have hGn : xs.length + 1 ≤ G := by rw [hG]; exact grownCap_ge w _ _ _
  have hGm : G ≤ maxLen := by rw [hG]; exact grownCap_le_maxLen w (xs.length + 1) cap 27 (Nat.le_trans (Nat.succ_le_succ hl) (by decide))
  have lP : (pcs (xs.take i)).length = i * 2 := by rw [pcs_len, List.length_take]; congr 1; omega
  have lQ : (pcs (xs.drop i)).length = (xs.length - i) * 2 := by rw [pcs_len, List.length_drop]
  have hold : (Builtin.firstCells i0.size i (.slice (some ⟨g, 0, none⟩) i cap)).run Try.prog w.drew = .ok (pcs (xs.take i)).toArray w.drew := by
    have := run_loadCells_list (P := Try.prog) w.drew ⟨g, 0, none⟩ (pcs (xs.take i)) (pcs_cells hg hcur 0 _ (fun j u hj => take_get (by rw [pcs_take xs i (Nat.le_of_lt hi)]; exact hj)))
    rw [lP] at this
    rw [hsz2]
    exact this
  have hik : i + (xs.length + 1 - i) = xs.length + 1 := by omega
  have hrz : ∀ ty, (Builtin.append_ #[22, 3] ty #[.slice (some ⟨g, 0, none⟩) i cap, .int .i64 ((xs.length + 1 - i : Nat) : Int)]).run Try.prog w = .ok (.slice (some ⟨b0, 0, none⟩) (xs.length + 1) G) (w.drew.alloc (.cells ((pcs (xs.take i)).toArray ++ Builtin.zeroCells (Value.agg #[.string ⟨#[]⟩, .string ⟨#[]⟩]).cells (xs.length + 1 - i) ++ Builtin.zeroCells (Value.agg #[.string ⟨#[]⟩, .string ⟨#[]⟩]).cells (G - (xs.length + 1))) 27)) := fun ty => by
    have h := Lib.run_append_grow_zeros w 22 3 ty 27 i0 _ .i64 .i64 Try.underlying22 Try.underlying3 hi0 hz0 (some ⟨g, 0, none⟩) i cap (pcs (xs.take i)) hold (xs.length + 1 - i) (by omega) (by omega) (by omega) (by rw [hik]; omega) (by rw [hbz]; omega) (by rw [hbz, hik]; exact growslice_fits hroom (by omega))
    rw [hik, ← hb0, ← hG] at h
    exact h
  obtain ⟨Z, hZ⟩ : ∃ Z : Array Value, Z = Builtin.zeroCells (Value.agg #[.string ⟨#[]⟩, .string ⟨#[]⟩]).cells (xs.length + 1 - i) ++ Builtin.zeroCells (Value.agg #[.string ⟨#[]⟩, .string ⟨#[]⟩]).cells (G - (xs.length + 1)) := ⟨_, rfl⟩
  rw [Array.append_assoc, ← hZ] at hrz
  have lZ : Z.toList.length = (G - i) * 2 := by
    rw [hZ, Array.length_toList, Array.size_append, zeros_len, zeros_len]
    show (xs.length + 1 - i) * 2 + (G - (xs.length + 1)) * 2 = _
    omega
  obtain ⟨cur0, hcur0⟩ : ∃ c : Array Value, c = (pcs (xs.take i)).toArray ++ Z := ⟨_, rfl⟩
  rw [← hcur0] at hrz
  have hL : cur0.toList = pcs (xs.take i) ++ Z.toList := by rw [hcur0, Array.toList_append]
  have hs0 : cur0.toList.length = G * 2 := by rw [hL, List.length_append, lP, lZ]; omega
  obtain ⟨W1, hW1⟩ : ∃ W1, w.drew.alloc (.cells cur0 27) = W1 := ⟨_, rfl⟩
  rw [hW1] at hrz
  have hgl : g < w.heap.size := blk_lt hg
  have hvl : gv < w.heap.size := blk_lt hv
  have hB1 : Below w.heap.size w W1 := by rw [← hW1]; exact (Below.refl w.heap.size w).drew.alloc (Nat.le_refl _) _
  have hc1 : W1.heap[b0]? = some (.cells cur0 27 (0, 0)) := by rw [← hW1, hb0]; exact heap_alloc_new w.drew _
  have hg1 : W1.heap[g]? = some (.cells cur 27 (0, 0)) := (hB1.block g hgl).trans hg
  have hv1 : W1.heap[gv]? = some (.cells #[.string x.f0, .string x.f1] 27 (0, 0)) := (hB1.block gv hvl).trans hv
  clear hW1
  have hcp1 : ∀ ty, (Builtin.copy_ #[22, 22] ty #[.slice (some ⟨b0, i * 2, none⟩) (xs.length + 1 - i) (G - i), .slice (some ⟨gv, 0, none⟩) 1 1]).run Try.prog W1 = .ok (goInt 1) (W1.setRow b0 (cur0.toList.take (i * 2) ++ [Value.string x.f0, Value.string x.f1] ++ cur0.toList.drop (i * 2 + 2)).toArray) := fun ty =>
    run_copy_rows W1 22 22 ty 27 2 1 b0 (i * 2) (xs.length + 1 - i) (G - i) ⟨gv, 0, none⟩ 1 1 cur0 27 [.string x.f0, .string x.f1] Try.underlying22 size27 hc1 (Nat.min_eq_left (by omega)) rfl
      (fun j u hj => by rw [Addr.add_lit, Nat.zero_add, blk_cell hv1, List.getElem?_toArray]; exact hj) (by rw [Array.length_toList] at hs0; show i * 2 + 2 ≤ _; omega) (fun u hu => by simp at hu; rcases hu with rfl | rfl <;> rfl)
  have hs1 : (cur0.toList.take (i * 2) ++ [Value.string x.f0, Value.string x.f1] ++ cur0.toList.drop (i * 2 + 2)).length = G * 2 := by
    rw [List.length_append, List.length_append, List.length_take, List.length_drop, hs0]
    show min (i * 2) (G * 2) + 2 + _ = _
    omega
  have hseg := seg_grow (X := [Value.string x.f0, Value.string x.f1]) (Q := pcs (xs.drop i)) hL lP rfl lQ (by omega)
  rw [show i * 2 + 2 = (i + 1) * 2 by omega] at hseg
  rw [show i * 2 + 2 = (i + 1) * 2 by omega] at hs1 hcp1
  generalize cur0.toList.take (i * 2) ++ [Value.string x.f0, Value.string x.f1] ++ cur0.toList.drop ((i + 1) * 2) = cur1 at hcp1 hs1 hseg
  obtain ⟨W2, hW2⟩ : ∃ W2, W1.setRow b0 cur1.toArray = W2 := ⟨_, rfl⟩
  rw [hW2] at hcp1
  have hne : g ≠ b0 := by omega
  have hc2 : W2.heap[b0]? = some (.cells cur1.toArray 27 (0, 0)) := by rw [← hW2]; exact setRow_heap W1 b0 cur0 _ 27 _ hc1
  have hg2 : W2.heap[g]? = some (.cells cur 27 (0, 0)) := by rw [← hW2]; exact (setRow_other W1 b0 g _ hne).trans hg1
  have hB2 : Below w.heap.size w W2 := by rw [← hW2]; exact below_setRow hB1 (by omega) _
  clear hW2
  have hcp2 : ∀ ty, (Builtin.copy_ #[22, 22] ty #[.slice (some ⟨b0, (i + 1) * 2, none⟩) (xs.length - i) (G - (i + 1)), .slice (some ⟨g, i * 2, none⟩) (xs.length - i) (cap - i)]).run Try.prog W2.drew = .ok (goInt ((xs.length - i : Nat) : Int)) (W2.drew.setRow b0 (cur1.take ((i + 1) * 2) ++ pcs (xs.drop i) ++ cur1.drop ((i + 1) * 2 + (pcs (xs.drop i)).length)).toArray) := fun ty =>
    run_copy_rows W2.drew 22 22 ty 27 2 (xs.length - i) b0 ((i + 1) * 2) (xs.length - i) (G - (i + 1)) ⟨g, i * 2, none⟩ (xs.length - i) (cap - i) cur1.toArray 27 (pcs (xs.drop i)) Try.underlying22 size27 hc2 (Nat.min_self _) lQ
      (pcs_cells hg2 hcur (i * 2) _ (fun j u hj => by rw [← pcs_drop xs i (by omega), List.getElem?_drop] at hj; exact hj)) (by rw [lQ, List.size_toArray, hs1]; omega) (pcs_one _)
  have hs2 : (cur1.take ((i + 1) * 2) ++ pcs (xs.drop i) ++ cur1.drop ((i + 1) * 2 + (pcs (xs.drop i)).length)).length = G * 2 := by
    rw [List.length_append, List.length_append, List.length_take, List.length_drop, lQ, hs1]
    omega
  rw [lQ] at hcp2 hs2
  rw [hseg] at hcp2 hs2
  obtain ⟨W3, hW3⟩ : ∃ W3, W2.drew.setRow b0 (pcs (xs.take i) ++ [Value.string x.f0, Value.string x.f1] ++ pcs (xs.drop i) ++ Z.toList.drop (2 + (xs.length - i) * 2)).toArray = W3 := ⟨_, rfl⟩
  rw [hW3] at hcp2
  have hc3 : W3.heap[b0]? = some (.cells (pcs (xs.take i) ++ [Value.string x.f0, Value.string x.f1] ++ pcs (xs.drop i) ++ Z.toList.drop (2 + (xs.length - i) * 2)).toArray 27 (0, 0)) := by rw [← hW3]; exact setRow_heap W2.drew b0 cur1.toArray _ 27 _ hc2
  have hB3 : Below w.heap.size w W3 := by rw [← hW3]; exact below_setRow hB2.drew (by omega) _
  clear hW3
  have hpx : pcs (xs.take i ++ [x] ++ xs.drop i) = pcs (xs.take i) ++ [.string x.f0, .string x.f1] ++ pcs (xs.drop i) := by rw [pcs_append, pcs_append]; rfl
  have hlx : (xs.take i ++ [x] ++ xs.drop i).length = xs.length + 1 := by rw [List.length_append, List.length_append, List.length_take, List.length_drop]; show _ + 1 + _ = _; omega
  have hres : Kd.R k27 27 W3 base (fun _ => True) (.slice (some ⟨b0, 0, none⟩) (xs.length + 1) G) (xs.take i ++ [x] ++ xs.drop i) := own_row (by rw [hb0]; exact hbw) hc3 hpx hlx hGn hGm hs2
  have hcutA := cut_from (P := Try.prog) 22 27 .i64 Try.underlying22 hi0 2 hsz2 (some ⟨g, 0, none⟩) xs.length cap (i : Int) (by omega) (by omega)
  have hcutT := cut_room (P := Try.prog) 22 27 .i64 Try.underlying22 hi0 (some ⟨g, 0, none⟩) xs.length cap (i : Int) (by omega) (by omega)
  have hcutB := cut_from (P := Try.prog) 22 27 .i64 Try.underlying22 hi0 2 hsz2 (some ⟨b0, 0, none⟩) (xs.length + 1) G (i : Int) (by omega) (by omega)
  have hcutC := cut_from (P := Try.prog) 22 27 .i64 Try.underlying22 hi0 2 hsz2 (some ⟨b0, 0, none⟩) (xs.length + 1) G ((i : Int) + 1) (by omega) (by omega)
  have t2 : ((i : Int) + 1).toNat = i + 1 := by omega
  have aa : ∀ (b k : Nat), (Option.map (fun (y : Addr) => y.add k) (some ⟨b, 0, none⟩)) = some ⟨b, k, none⟩ := fun b k => by
    show some (Addr.add ⟨b, 0, none⟩ k) = _
    rw [Addr.add_lit, Nat.zero_add]
  rw [Int.toNat_natCast, if_neg (show ¬ cap = i by omega), aa] at hcutA
  rw [Int.toNat_natCast] at hcutT
  rw [Int.toNat_natCast, if_neg (show ¬ G = i by omega), aa] at hcutB
  rw [t2, if_neg (show ¬ G = i + 1 by omega), aa, show xs.length + 1 - (i + 1) = xs.length - i by omega] at hcutC
  have HRES := Aside0.mk hres
  have HBW := Aside0.mk hbw
  have HB3 := Aside0.mk hB3
  have HRZ := Aside0.mk (show ∀ q : Int, q = ((xs.length + 1 - i : Nat) : Int) → ∀ ty, (Builtin.append_ #[22, 3] ty #[.slice (some ⟨g, 0, none⟩) i cap, .int .i64 q]).run Try.prog w = .ok (.slice (some ⟨b0, 0, none⟩) (xs.length + 1) G) W1 from fun q hq ty => by rw [hq]; exact hrz ty)
  have HCP1 := Aside0.mk hcp1
  have HCP2 := Aside0.mk hcp2
  have hwn : wrap64 ((xs.length : Int) + 1) = (xs.length : Int) + 1 := add1i (Nat.le_trans hl (by decide))
  have hwi : wrap64 ((i : Int) + 1) = (i : Int) + 1 := add1i (Nat.le_trans (Nat.le_of_lt hi) (Nat.le_trans hl (by decide)))
  have HWS := Aside0.mk (sub1i hl hi)
  have HWN := Aside0.mk hwn
  have q0 : ((i : Int) == (xs.length : Int)) = false := beq_eq_false_iff_ne.mpr (fun h => absurd (Int.ofNat.inj h) (Nat.ne_of_lt hi))
  have q1 : decide ((cap : Int) < (xs.length : Int) + 1) = true := decide_eq_true (Int.ofNat_lt.mpr hroom)
  clear hcp1 hcp2 hrz hres hB1 hB2 hB3 hc1 hc2 hc3 hg1 hg2 hv1 hs0 hs1 hs2 hpx hlx lP lQ lZ hseg hL hZ hcur0 hcur hg hv hgl hvl hne hroom hnc hGn hGm hG hold hik t2 aa hi0 hz0 hsz2 hbz hl hbw hb0
  go_enter Try.func30, Try.ntmps30
  have hcp1 := HCP1.out
  go_wp2_with (first | (at_builtin; refine Lib.wpList_append_run _ rfl (.tmp 34) (.tmp 39) 22 3 rfl _ _ rfl rfl _ _ (HRZ.out _ (by first | exact HWS.out | (rw [HWN.out]; exact HWS.out)) _) ?_) | fail)
  clear hcp1
  refine start_ (n := 9) (S := fun w' => True) (ds := []) #[false, false, false, false, false, false, false, false, false] (by kernel_rfl) rfl rfl trivial (fun hHeld => ?_); refine with_tabW Insert.tab11 Insert.bits11 (fun HT_ HW_ => ?_)
  refine pure_ (i := 0) (N := some 46) (v := ?_) (a' := ?_) #[true, false, false, false, false, false, false, false, false] rfl rfl (any_of HT_.out (by kernel_rfl)) (fun _ _ _ h => h) (Or.inl ⟨by rfl, ?_⟩) ?_ ?_
  rotate_left
  · intro w'
    go_simp
    with_reducible rfl
  rotate_left
  · simp only [Act.put, List.setIfInBounds_toArray, List.set_cons_zero, List.set_cons_succ, i64_w, i32_w]
    rfl
  refine pure_ (i := 1) (N := some 47) (v := ?_) (a' := ?_) #[true, true, false, false, false, false, false, false, false] rfl rfl (any_of HT_.out (by kernel_rfl)) (fun _ _ _ h => h) (Or.inl ⟨by rfl, ?_⟩) ?_ ?_
  rotate_left
  · intro w'
    go_simp
    with_reducible rfl
  rotate_left
  · simp only [Act.put, List.setIfInBounds_toArray, List.set_cons_zero, List.set_cons_succ, i64_w, i32_w]
    rfl
  refine pure_ (i := 2) (N := some 48) (v := ?_) (a' := ?_) #[true, true, true, false, false, false, false, false, false] rfl rfl (any_of HT_.out (by kernel_rfl)) (fun _ _ _ h => h) (Or.inl ⟨by rfl, ?_⟩) ?_ ?_
  rotate_left
  · intro w'
    go_simp
    with_reducible rfl
  rotate_left
  · simp only [Act.put, List.setIfInBounds_toArray, List.set_cons_zero, List.set_cons_succ, i64_w, i32_w]
    rfl
  refine pure_ (i := 3) (N := some 49) (v := ?_) (a' := ?_) #[true, true, true, true, false, false, false, false, false] rfl rfl (any_of HT_.out (by kernel_rfl)) (fun _ _ _ h => h) (Or.inl ⟨by rfl, ?_⟩) ?_ ?_
  rotate_left
  · intro w'
    go_simp
    with_reducible rfl
  rotate_left
  · simp only [Act.put, List.setIfInBounds_toArray, List.set_cons_zero, List.set_cons_succ, i64_w, i32_w]
    rfl
  refine pure_ (i := 4) (N := some 50) (v := ?_) (a' := ?_) #[true, true, true, true, true, false, false, false, false] rfl rfl (any_of HT_.out (by kernel_rfl)) (fun _ _ _ h => h) (Or.inl ⟨by rfl, ?_⟩) ?_ ?_
  rotate_left
  · intro w'
    go_simp
    with_reducible rfl
  rotate_left
  · simp only [Act.put, List.setIfInBounds_toArray, List.set_cons_zero, List.set_cons_succ, i64_w, i32_w]
    rfl
  refine pure_ (i := 5) (N := some 51) (v := ?_) (a' := ?_) #[true, true, true, true, true, true, false, false, false] rfl rfl (any_of HT_.out (by kernel_rfl)) (fun _ _ _ h => h) (Or.inl ⟨by rfl, ?_⟩) ?_ ?_
  rotate_left
  · intro w'
    go_simp
    with_reducible rfl
  rotate_left
  · simp only [Act.put, List.setIfInBounds_toArray, List.set_cons_zero, List.set_cons_succ, i64_w, i32_w]
    rfl
  refine pure_ (i := 6) (N := some 52) (v := ?_) (a' := ?_) #[true, true, true, true, true, true, true, false, false] rfl rfl (any_of HT_.out (by kernel_rfl)) (fun _ _ _ h => h) (Or.inl ⟨by rfl, ?_⟩) ?_ ?_
  rotate_left
  · intro w'
    go_simp
    with_reducible rfl
  rotate_left
  · simp only [Act.put, List.setIfInBounds_toArray, List.set_cons_zero, List.set_cons_succ, i64_w, i32_w]
    rfl
  refine pure_ (i := 7) (N := some 53) (v := ?_) (a' := ?_) #[true, true, true, true, true, true, true, true, false] rfl rfl (any_of HT_.out (by kernel_rfl)) (fun _ _ _ h => h) (Or.inl ⟨by rfl, ?_⟩) ?_ ?_
  rotate_left
  · intro w'
    go_simp
    with_reducible rfl
  rotate_left
  · simp only [Act.put, List.setIfInBounds_toArray, List.set_cons_zero, List.set_cons_succ, i64_w, i32_w]
    rfl
  refine one_ (i := 8) (N := some 54) #[true, true, true, true, true, true, true, true, true] rfl rfl (one_of HT_.out (by kernel_rfl)) (by decide) (fun K hK => ?_)
  refine step_copy_ (.tmp 50) (.tmp 53) 22 22 (by rfl) rfl rfl (.slice (some ⟨b0, (i + 1) * 2, none⟩) (xs.length - i) (G - (i + 1))) (.slice (some ⟨g, i * 2, none⟩) (xs.length - i) (cap - i)) (by rfl) (by rfl) (HCP2.out _) ?_
  refine hK.out _ _ trivial (fun hHeld => ?_)
  clear hK K
  refine norm_ (a' := ?_) ?_ ?_
  rotate_left
  · show Act.put _ (some 54) _ = _
    simp only [Act.put, List.setIfInBounds_toArray, List.set_cons_zero, List.set_cons_succ, i64_w, i32_w]
    rfl
  refine done_ (done_of HT_.out (by kernel_rfl)) ?_
  clear hHeld HT_ HW_
  go_wp2_with fail
  go_ret
  exact ⟨_, rfl, HRES.out, HB3.out.mono HBW.out, ⟨HB3.out.os, HB3.out.tape, HB3.out.output, HB3.out.size, fun k hk _ => HB3.out.block k hk⟩⟩
/-- slices.Insert of one pair into a row of one's own. -/
theorem insert_calls (v : Value) (xs : List S27) (i : Nat) (x : S27) (gv : Nat) (base : Nat) (w : World) (HO : Kd.R k27 27 w base (fun _ => True) v xs) (hbase : base ≤ w.heap.size) (hv : w.heap[gv]? = some (.cells #[.string x.f0, .string x.f1] 27 (0, 0))) (hne : v.ownBlock ≠ some gv) (hi : i ≤ xs.length) (hl : xs.length ≤ 1000) :
    Calls Try.prog 30 #[v, .int .i64 (i : Int), .slice (some ⟨gv, 0, none⟩) 1 1] w fun e w' => ∃ v1, e = .returned v1 ∧ Kd.R k27 27 w' base (fun _ => True) v1 (xs.take i ++ [x] ++ xs.drop i) ∧ Below base w w' ∧ w.grownBy w' v.ownBlock := by
  by_cases he : i = xs.length
  · subst he
    rw [List.take_length, List.drop_length, List.append_nil]
    exact insert_end v xs x gv base w HO hbase hv hl
  · have hlt : i < xs.length := by omega
    obtain ⟨_, h2⟩ := own_of_R HO
    rcases h2 with ⟨_, h0⟩ | ⟨g, cap, cur, rfl, hb, hg, hnc, hcm, hsz, ht⟩
    · omega
    · by_cases hr : xs.length + 1 ≤ cap
      · exact insert_shift xs i x g cap cur gv base w hb hg hr hcm hsz ht hv (fun e => hne (by rw [e]; rfl)) hlt hl hbase
      · exact insert_grow xs i x g cap cur gv base w hg hnc (by omega) ht hv hlt hl hbase
end Go.Proofs.Ytgbjinonlfhciaa.MBk
