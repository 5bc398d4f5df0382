/- The walk of the law CheckFewer. -/
import Derived.Test.YtlbcnkmojoinfaaLightV
import Derived.Test.YtlbcnkmojoinfaaExprs
namespace Go.Proofs.Ytlbcnkmojoinfaa.ChecksV
open Go.RowKit Go.Proofs.Ytlbcnkmojoinfaa.MCk
theorem rules_take (l : List S30) : ∀ (rs : List S38) (met : List ByteArray) (i : Nat), rulesT l met rs = 0 → rulesT l met (rs.take i) = 0
  | [], met, i, h => by rw [List.take_nil]; exact h
  | r :: rs, met, 0, h => rfl
  | r :: rs, met, i + 1, h => by
    rw [rulesT] at h
    rw [List.take_succ_cons, rulesT]
    split at h
    · exact absurd h (by decide)
    · rename_i h1
      rw [if_neg h1]
      split at h
      · rename_i h2
        rw [if_pos h2]
        exact rules_take l rs _ i h
      · rename_i h2
        exact absurd h h2
theorem rules_one (l : List S30) : ∀ (rs : List S38) (met : List ByteArray), rulesT l met rs = 0 → ∀ r ∈ rs, ruleT l r = 0
  | [], met, h => fun r hr => by cases hr
  | r :: rs, met, h => by
    rw [rulesT] at h
    split at h
    · exact absurd h (by decide)
    · split at h
      · rename_i h2
        intro x hx
        rcases List.mem_cons.mp hx with rfl | hx
        · exact h2
        · exact rules_one l rs _ h x hx
      · rename_i h2
        exact absurd h h2
theorem prog_parts {l : List S30} {rs : List S38} (h : programT l rs = 0) : classesT [] l = 0 ∧ rulesT l [] rs = 0 := by
  unfold programT at h
  split at h
  · rename_i h1
    exact ⟨h1, h⟩
  · rename_i h1
    exact absurd h h1
theorem fewer_take (l : List S30) (rs : List S38) (h : programT l rs = 0) (j : Nat) : programT l (rs.take j) = 0 := by
  have := prog_parts h
  unfold programT
  rw [if_pos this.1]
  exact rules_take l rs [] j this.2
theorem fewer_one (l : List S30) (rs : List S38) (h : programT l rs = 0) (j : Nat) : programT l ((rs.drop j).take 1) = 0 := by
  have hp := prog_parts h
  unfold programT
  rw [if_pos hp.1]
  by_cases hlt : j < rs.length
  · rw [List.drop_eq_getElem_cons hlt, List.take_succ_cons, List.take_zero, rulesT, if_neg (show ¬ hasN [] rs[j].f0 = true from fun h => by cases h), if_pos (rules_one l rs [] hp.2 _ (List.getElem_mem hlt))]
    rfl
  · rw [List.drop_of_length_le (by omega)]
    rfl
theorem fewRs_take {rs : List S38} (h : FewRs rs) (j : Nat) : FewRs (rs.take j) := ⟨by have := h.1; rw [List.length_take]; omega, fun r hr => h.2 r (List.mem_of_mem_take hr)⟩
theorem fewRs_drop {rs : List S38} (h : FewRs rs) (j : Nat) : FewRs ((rs.drop j).take 1) := ⟨by rw [List.length_take]; omega, fun r hr => h.2 r (List.mem_of_mem_drop (List.mem_of_mem_take hr))⟩
end Go.Proofs.Ytlbcnkmojoinfaa.ChecksV
namespace Go.Proofs.Ytlbcnkmojoinfaa.MCk
open Go.RowKit Go.Maps Go.Proofs.Ytlbcnkmojoinfaa.Hand Go.Proofs.Ytlbcnkmojoinfaa.ChecksV Go.Proofs.YtlbcnkmojoinfaaW.PrintWords Go.Proofs.YtlbcnkmojoinfaaW.PrintLast Go.Proofs.YtlbcnkmojoinfaaW.PrintMore
set_option linter.unusedVariables false
set_option linter.unusedSimpArgs false
theorem size38 : (Try.prog.info? 38).map (·.size) = some 3 := by kernel_rfl
theorem check_Program' (l : List S30) (A0 : Option Addr) (c0 : Nat) (rs : List S38) (A1 : Option Addr) (n c1 : Nat) (hn : rs.length = n) (hz : programT l rs = 0) (w : World)
    (hC : Kd.C k30 w A0 l.length l) (hc0 : l.length ≤ c0) (h1 : Kd.C k38 w A1 n rs) (hF : FewC l) (hR : FewRs rs) :
    Calls Try.prog 18 #[.agg #[.slice A0 l.length c0, .slice A1 n c1]] w fun e w' => e = .returned (.int .i64 0) ∧ Below w.heap.size w w' := by
  subst hn
  have := check_Program l A0 c0 rs A1 c1 w hC hc0 h1 hF hR
  rw [hz] at this
  exact this
def CheckFewer.T6 : Bool × List (List Nat × List Nat) := (true, [([], []), ([0], [0]), ([], []), ([2], [2]), ([], []), ([3, 4], [3, 4]), ([1, 5], [1, 5]), ([6], [6]), ([7], [7]), ([8, 7], [8]), ([9], [9]), ([10, 9], [9, 10]), ([9], [9]), ([12, 9], [9, 12]), ([9], [9]), ([9], [9]), ([15, 9], [9, 15]), ([13, 14, 16, 9], [9, 13, 14, 16]), ([11, 17, 9], [9, 11, 17]), ([18, 9, 9], [9, 18]), ([19, 9], [9, 19]), ([9, 20], [9, 20])])
def CheckFewer.B6 : List Nat := [0, 1, 0, 4, 0, 28, 63, 127, 255, 511, 1023, 2047, 1023, 5119, 1023, 1023, 33791, 127999, 262143, 524287, 1048575, 2097151]
theorem CheckFewer.tab6 : rtab .any (opsOf Try.f6 6) = CheckFewer.T6 := by kernel_rfl
theorem CheckFewer.bits6 : waitsOk CheckFewer.T6.2 CheckFewer.B6 = true := by kernel_rfl
set_option maxHeartbeats 16000000 in
set_option maxRecDepth 100000 in
theorem CheckFewer_calls (xs : List S30) (A : Option Addr) (c : Nat) (ys : List S38) (B : Option Addr) (d : Nat) (w : World)
    (hC : Kd.C k30 w A xs.length xs) (hc : xs.length ≤ c) (hE : Kd.C k38 w B ys.length ys) (he : ys.length ≤ d) :
    Calls Try.prog 6 #[.agg #[.slice A xs.length c, .slice B ys.length d]] w fun e w' => e = .returned (.bool true) ∧ Below w.heap.size w w' := by
  have HC := Aside0.mk hC
  have HCc := Aside0.mk hc
  have HE := Aside0.mk hE
  have HEc := Aside0.mk he
  clear hC hc hE he
  go_enter Try.func6, Try.ntmps6
  go_upto_region 1 with fail
  have HB := Aside0.mk (Below.refl w.heap.size w)
  obtain ⟨g3, hg3⟩ : ∃ g, g = w.heap.size := ⟨_, rfl⟩
  have hW := below_alloc (Below.refl w.heap.size w) (Obj.cells #[Value.slice A xs.length c, Value.slice B ys.length d] 25)
  have hN := blk_new w (Obj.cells #[Value.slice A xs.length c, Value.slice B ys.length d] 25)
  rw [← hg3] at hN ⊢
  generalize w.alloc (Obj.cells #[Value.slice A xs.length c, Value.slice B ys.length d] 25) = W1 at hW hN ⊢
  have n_HB := Aside0.mk (below_step HB.out hW)
  have n_HC := Aside0.mk (Kd.C_below HC.out hW)
  have n_HE := Aside0.mk (Kd.C_below HE.out hW)
  clear HB HC HE
  have HB := n_HB
  have HC := n_HC
  have HE := n_HE
  clear n_HB n_HC n_HE
  have HK3 := Aside0.mk (hN)
  have Eg3 := Aside0.mk hg3
  clear hW hN hg3
  have k0 := blk_cell HK3.out 0
  have k1 := blk_cell HK3.out 1
  go_wp2_with fail
  go_at_call 7
  clear k0 k1
  obtain ⟨r, hr, hP⟩ := light_tell xs ys
  refine (intarsiaref15_Light.calls 2000 A c xs B d ys r W1 HC.out HCc.out HE.out HEc.out hr).mono ?_
  clear hr
  rintro ex W2 ⟨rfl, hb⟩
  have n_HB := Aside0.mk (below_step HB.out hb)
  have n_HC := Aside0.mk (Kd.C_below HC.out hb)
  have n_HE := Aside0.mk (Kd.C_below HE.out hb)
  have n_HK3 := Aside0.mk (blk_below HK3.out hb)
  clear HB HC HE HK3
  have HB := n_HB
  have HC := n_HC
  have HE := n_HE
  have HK3 := n_HK3
  clear n_HB n_HC n_HE n_HK3
  clear hb
  cases r with
  | false =>
    clear hP
    go_wp2_with fail
    go_at_call 8
    refine (awake_calls W2).mono ?_
    rintro ex VA ⟨rfl, hb⟩
    have HBA := Aside0.mk (below_step HB.out hb)
    clear hb
    go_wp2_with fail
    go_ret
    exact ⟨rfl, HBA.out⟩
  | true =>
    obtain ⟨hFC, hFR, hx, hy⟩ := hP rfl
    have HFC := Aside0.mk hFC
    have HFR := Aside0.mk hFR
    have HX := Aside0.mk hx
    have HY := Aside0.mk hy
    clear hP hFC hFR hx hy
    have k0 := blk_cell HK3.out 0
    have k1 := blk_cell HK3.out 1
    go_wp2_with fail
    go_at_call 18
    clear k0 k1
    refine (check_Program xs A c ys B d W2 HC.out HCc.out HE.out HFC.out HFR.out).mono ?_
    rintro ex W3 ⟨rfl, hb⟩
    have n_HB := Aside0.mk (below_step HB.out hb)
    have n_HC := Aside0.mk (Kd.C_below HC.out hb)
    have n_HE := Aside0.mk (Kd.C_below HE.out hb)
    have n_HK3 := Aside0.mk (blk_below HK3.out hb)
    clear HB HC HE HK3
    have HB := n_HB
    have HC := n_HC
    have HE := n_HE
    have HK3 := n_HK3
    clear n_HB n_HC n_HE n_HK3
    clear hb
    by_cases hz : programT xs ys = 0
    · skip
      have HZ := Aside0.mk hz
      rw [hz]
      clear hz
      go_wp2_with fail
      have HL := Aside0.mk (Below.refl W3.heap.size W3)
      go_loopw [3] (fun i wr => ∃ (j : Nat), j ≤ ys.length ∧ i = .int .i64 (j : Int) ∧ Below W3.heap.size W3 wr)
        (fun i _ => ys.length - (intOf i).toNat)
      case atStart => exact ⟨0, Nat.zero_le _, rfl, HL.out⟩
      case round =>
        obtain ⟨j, hj, rfl, hb⟩ := hrel
        clear HL
        have n_HB := Aside0.mk (below_step HB.out hb)
        have n_HC := Aside0.mk (Kd.C_below HC.out hb)
        have n_HE := Aside0.mk (Kd.C_below HE.out hb)
        have n_HK3 := Aside0.mk (blk_below HK3.out hb)
        clear HB HC HE HK3
        have HB := n_HB
        have HC := n_HC
        have HE := n_HE
        have HK3 := n_HK3
        clear n_HB n_HC n_HE n_HK3
        have HL := Aside0.mk hb
        clear hb
        have k1 := blk_cell HK3.out 1
        by_cases hlt : j < ys.length
        · skip
          have b1 : decide ((j : Int) < (ys.length : Int)) = true := decide_eq_true (by omega)
          have HLT := Aside0.mk hlt
          go_upto_region 6 with fail
          clear k1 b1
          have hw : wrap64 ((j : Int) + 1) = (j : Int) + 1 := by unfold wrap64; have := HY.out; omega
          obtain ⟨i0, hi0, hsz⟩ := Option.map_eq_some_iff.1 size38
          have hcutT := cut_to (P := Try.prog) 23 38 .i64 Try.underlying23 hi0 B ys.length d (j : Int) (by omega) (by omega) HEc.out
          have hcutD := cut_mid (P := Try.prog) 23 38 .i64 .i64 Try.underlying23 hi0 3 hsz B ys.length d (j : Int) ((j : Int) + 1) (by omega) (by omega) (by omega) HEc.out
          have e1 : ((j : Int) + 1).toNat - j = 1 := by omega
          rw [Int.toNat_natCast] at hcutT hcutD
          rw [e1] at hcutD
          obtain ⟨AD, hAD⟩ : ∃ A1, A1 = (if d = j then B else (B : Option Addr).map (·.add (j * 3))) := ⟨_, rfl⟩
          rw [← hAD] at hcutD
          have hT := Kd.C_take (m := j) HE.out (by omega)
          have hD := Kd.C_take (m := 1) (Kd.C_drop (m := j) (c := d) HE.out (by omega) HEc.out) (by rw [List.length_drop]; omega)
          replace hD : Kd.C k38 wr AD ((ys.drop j).take 1).length ((ys.drop j).take 1) := by rw [hAD]; exact hD
          have lT : (ys.take j).length = j := by rw [List.length_take]; exact Nat.min_eq_left hj
          have lD : ((ys.drop j).take 1).length = 1 := by rw [List.length_take, List.length_drop]; omega
          rw [lT] at hT
          rw [lD] at hD
          have HTK := Aside0.mk hT
          have HDK := Aside0.mk hD
          have LT := Aside0.mk lT
          have LD := Aside0.mk lD
          have HP1 := Aside0.mk (fewer_take xs ys HZ.out j)
          have HP2 := Aside0.mk (fewer_one xs ys HZ.out j)
          clear hT hD lT lD hAD hsz hi0 e1 hlt
          have hD := below_drew1 (Below.refl wr.heap.size wr)
          have n_HB := Aside0.mk (below_step HB.out hD)
          have n_HC := Aside0.mk (Kd.C_below HC.out hD)
          have n_HE := Aside0.mk (Kd.C_below HE.out hD)
          have n_HK3 := Aside0.mk (blk_below HK3.out hD)
          have n_HL := Aside0.mk (below_step HL.out hD)
          have n_HTK := Aside0.mk (Kd.C_below HTK.out hD)
          have n_HDK := Aside0.mk (Kd.C_below HDK.out hD)
          clear HB HC HE HK3 HL HTK HDK
          have HB := n_HB
          have HC := n_HC
          have HE := n_HE
          have HK3 := n_HK3
          have HL := n_HL
          have HTK := n_HTK
          have HDK := n_HDK
          clear n_HB n_HC n_HE n_HK3 n_HL n_HTK n_HDK
          clear hD
          refine start_ (n := 22) (S := fun w' => w'.cell? ⟨g3, 0, none⟩ = some (.slice A xs.length c) ∧ w'.cell? ⟨g3, 1, none⟩ = some (.slice B ys.length d)) (ds := []) #[false, false, false, false, false, false, false, false, false, false, false, false, false, false, false, false, false, false, false, false, false, false] (by kernel_rfl) rfl rfl ⟨(blk_cell HK3.out 0).trans rfl, (blk_cell HK3.out 1).trans rfl⟩ (fun hHeld => ?_); refine with_tabW CheckFewer.tab6 CheckFewer.bits6 (fun HT_ HW_ => ?_)
          generalize wr.drew = V0 at HB HC HE HK3 HL HTK HDK hHeld ⊢
          refine pure_ (i := 0) (N := some 20) (v := ?_) (a' := ?_) #[true, false, false, false, false, false, false, false, false, false, false, false, false, false, false, false, false, false, false, false, false, false] rfl rfl (any_of HT_.out (by kernel_rfl)) (fun _ _ _ h => h) (Or.inl ⟨by rfl, ?_⟩) ?_ ?_
          rotate_left
          · intro w'
            go_simp
            with_reducible rfl
          rotate_left
          · simp only [Act.put, List.setIfInBounds_toArray, List.set_cons_zero, List.set_cons_succ, i64_w, i32_w]
            rfl
          refine take_ (i := 1) (N := some 21) (v := ?_) (a' := ?_) #[true, true, false, false, false, false, false, false, false, false, false, false, false, false, false, false, false, false, false, false, false, false] rfl rfl (take_ofW HT_.out HW_.out (by kernel_rfl)) (fun _ _ _ h => h) (Or.inl ⟨by rfl, ?_⟩) hHeld ?_ ?_
          rotate_left
          · rintro w' ⟨s0, s1⟩
            go_simp
            with_reducible rfl
          rotate_left
          · simp only [Act.put, List.setIfInBounds_toArray, List.set_cons_zero, List.set_cons_succ, i64_w, i32_w]
            rfl
          refine pure_ (i := 2) (N := some 22) (v := ?_) (a' := ?_) #[true, true, true, false, false, false, false, false, false, false, false, false, false, false, false, false, false, false, false, false, false, false] rfl rfl (any_of HT_.out (by kernel_rfl)) (fun _ _ _ h => h) (Or.inl ⟨by rfl, ?_⟩) ?_ ?_
          rotate_left
          · intro w'
            go_simp
            with_reducible rfl
          rotate_left
          · simp only [Act.put, List.setIfInBounds_toArray, List.set_cons_zero, List.set_cons_succ, i64_w, i32_w]
            rfl
          refine take_ (i := 3) (N := some 23) (v := ?_) (a' := ?_) #[true, true, true, true, false, false, false, false, false, false, false, false, false, false, false, false, false, false, false, false, false, false] rfl rfl (take_ofW HT_.out HW_.out (by kernel_rfl)) (fun _ _ _ h => h) (Or.inl ⟨by rfl, ?_⟩) hHeld ?_ ?_
          rotate_left
          · rintro w' ⟨s0, s1⟩
            go_simp
            with_reducible rfl
          rotate_left
          · simp only [Act.put, List.setIfInBounds_toArray, List.set_cons_zero, List.set_cons_succ, i64_w, i32_w]
            rfl
          refine pure_ (i := 4) (N := some 24) (v := ?_) (a' := ?_) #[true, true, true, true, true, false, false, false, false, false, false, false, false, false, false, false, false, false, false, false, false, false] rfl rfl (any_of HT_.out (by kernel_rfl)) (fun _ _ _ h => h) (Or.inl ⟨by rfl, ?_⟩) ?_ ?_
          rotate_left
          · intro w'
            go_simp
            with_reducible rfl
          rotate_left
          · simp only [Act.put, List.setIfInBounds_toArray, List.set_cons_zero, List.set_cons_succ, i64_w, i32_w]
            rfl
          refine pure_ (i := 5) (N := some 25) (v := ?_) (a' := ?_) #[true, true, true, true, true, true, false, false, false, false, false, false, false, false, false, false, false, false, false, false, false, false] rfl rfl (any_of HT_.out (by kernel_rfl)) (fun _ _ _ h => h) (Or.inl ⟨by rfl, ?_⟩) ?_ ?_
          rotate_left
          · intro w'
            go_simp
            with_reducible rfl
          rotate_left
          · simp only [Act.put, List.setIfInBounds_toArray, List.set_cons_zero, List.set_cons_succ, i64_w, i32_w]
            rfl
          refine pure_ (i := 6) (N := some 26) (v := ?_) (a' := ?_) #[true, true, true, true, true, true, true, false, false, false, false, false, false, false, false, false, false, false, false, false, false, false] rfl rfl (any_of HT_.out (by kernel_rfl)) (fun _ _ _ h => h) (Or.inl ⟨by rfl, ?_⟩) ?_ ?_
          rotate_left
          · intro w'
            go_simp
            with_reducible rfl
          rotate_left
          · simp only [Act.put, List.setIfInBounds_toArray, List.set_cons_zero, List.set_cons_succ, i64_w, i32_w]
            rfl
          refine one_ (i := 7) (N := some 27) #[true, true, true, true, true, true, true, true, false, false, false, false, false, false, false, false, false, false, false, false, false, false] rfl rfl (one_of HT_.out (by kernel_rfl)) (by decide) (fun K hK => ?_)
          refine goes_ Try.func18 (by kernel_rfl) rfl #[.agg #[.slice A xs.length c, .slice B j d]] (by rfl) rfl rfl (by (try simp only [List.map_toArray, List.map_cons, List.map_nil]); first | done | rfl) ?_
          refine (check_Program' xs A c (ys.take j) B j d LT.out HP1.out V0 HC.out HCc.out HTK.out HFC.out (fewRs_take HFR.out j)).mono ?_
          rintro ex V1 ⟨rfl, hb⟩
          refine ⟨_, rfl, ?_⟩
          have n_HB := Aside0.mk (below_step HB.out hb)
          have n_HC := Aside0.mk (Kd.C_below HC.out hb)
          have n_HE := Aside0.mk (Kd.C_below HE.out hb)
          have n_HK3 := Aside0.mk (blk_below HK3.out hb)
          have n_HL := Aside0.mk (below_step HL.out hb)
          have n_HTK := Aside0.mk (Kd.C_below HTK.out hb)
          have n_HDK := Aside0.mk (Kd.C_below HDK.out hb)
          clear HB HC HE HK3 HL HTK HDK
          have HB := n_HB
          have HC := n_HC
          have HE := n_HE
          have HK3 := n_HK3
          have HL := n_HL
          have HTK := n_HTK
          have HDK := n_HDK
          clear n_HB n_HC n_HE n_HK3 n_HL n_HTK n_HDK
          clear hb
          refine hK.out _ _ ⟨(blk_cell HK3.out 0).trans rfl, (blk_cell HK3.out 1).trans rfl⟩ (fun hHeld => ?_)
          clear hK K
          refine norm_ (a' := ?_) ?_ ?_
          rotate_left
          · show Act.put _ (some 27) _ = _
            simp only [Act.put, List.setIfInBounds_toArray, List.set_cons_zero, List.set_cons_succ, i64_w, i32_w]
            rfl
          refine pure_ (i := 8) (N := some 28) (v := ?_) (a' := ?_) #[true, true, true, true, true, true, true, true, true, false, false, false, false, false, false, false, false, false, false, false, false, false] rfl rfl (any_of HT_.out (by kernel_rfl)) (fun _ _ _ h => h) (Or.inl ⟨by rfl, ?_⟩) ?_ ?_
          rotate_left
          · intro w'
            go_simp
            with_reducible rfl
          rotate_left
          · simp only [Act.put, List.setIfInBounds_toArray, List.set_cons_zero, List.set_cons_succ, i64_w, i32_w]
            rfl
          refine pure_ (i := 9) (N := some 29) (v := ?_) (a' := ?_) #[true, true, true, true, true, true, true, true, true, true, false, false, false, false, false, false, false, false, false, false, false, false] rfl rfl (any_of HT_.out (by kernel_rfl)) (fun _ _ _ h => h) (Or.inl ⟨by rfl, ?_⟩) ?_ ?_
          rotate_left
          · intro w'
            go_simp
            with_reducible rfl
          rotate_left
          · simp only [Act.put, List.setIfInBounds_toArray, List.set_cons_zero, List.set_cons_succ, i64_w, i32_w]
            rfl
          refine pure_ (i := 10) (N := some 30) (v := ?_) (a' := ?_) #[true, true, true, true, true, true, true, true, true, true, true, false, false, false, false, false, false, false, false, false, false, false] rfl rfl (any_of HT_.out (by kernel_rfl)) (fun _ _ _ h => h) (Or.inl ⟨by rfl, ?_⟩) ?_ ?_
          rotate_left
          · intro w'
            go_simp
            with_reducible rfl
          rotate_left
          · simp only [Act.put, List.setIfInBounds_toArray, List.set_cons_zero, List.set_cons_succ, i64_w, i32_w]
            rfl
          refine take_ (i := 11) (N := some 31) (v := ?_) (a' := ?_) #[true, true, true, true, true, true, true, true, true, true, true, true, false, false, false, false, false, false, false, false, false, false] rfl rfl (take_ofW HT_.out HW_.out (by kernel_rfl)) (fun _ _ _ h => h) (Or.inl ⟨by rfl, ?_⟩) hHeld ?_ ?_
          rotate_left
          · rintro w' ⟨s0, s1⟩
            go_simp
            with_reducible rfl
          rotate_left
          · simp only [Act.put, List.setIfInBounds_toArray, List.set_cons_zero, List.set_cons_succ, i64_w, i32_w]
            rfl
          refine pure_ (i := 12) (N := some 32) (v := ?_) (a' := ?_) #[true, true, true, true, true, true, true, true, true, true, true, true, true, false, false, false, false, false, false, false, false, false] rfl rfl (any_of HT_.out (by kernel_rfl)) (fun _ _ _ h => h) (Or.inl ⟨by rfl, ?_⟩) ?_ ?_
          rotate_left
          · intro w'
            go_simp
            with_reducible rfl
          rotate_left
          · simp only [Act.put, List.setIfInBounds_toArray, List.set_cons_zero, List.set_cons_succ, i64_w, i32_w]
            rfl
          refine take_ (i := 13) (N := some 33) (v := ?_) (a' := ?_) #[true, true, true, true, true, true, true, true, true, true, true, true, true, true, false, false, false, false, false, false, false, false] rfl rfl (take_ofW HT_.out HW_.out (by kernel_rfl)) (fun _ _ _ h => h) (Or.inl ⟨by rfl, ?_⟩) hHeld ?_ ?_
          rotate_left
          · rintro w' ⟨s0, s1⟩
            go_simp
            with_reducible rfl
          rotate_left
          · simp only [Act.put, List.setIfInBounds_toArray, List.set_cons_zero, List.set_cons_succ, i64_w, i32_w]
            rfl
          refine pure_ (i := 14) (N := some 34) (v := ?_) (a' := ?_) #[true, true, true, true, true, true, true, true, true, true, true, true, true, true, true, false, false, false, false, false, false, false] rfl rfl (any_of HT_.out (by kernel_rfl)) (fun _ _ _ h => h) (Or.inl ⟨by rfl, ?_⟩) ?_ ?_
          rotate_left
          · intro w'
            go_simp
            with_reducible rfl
          rotate_left
          · simp only [Act.put, List.setIfInBounds_toArray, List.set_cons_zero, List.set_cons_succ, i64_w, i32_w]
            rfl
          refine pure_ (i := 15) (N := some 35) (v := ?_) (a' := ?_) #[true, true, true, true, true, true, true, true, true, true, true, true, true, true, true, true, false, false, false, false, false, false] rfl rfl (any_of HT_.out (by kernel_rfl)) (fun _ _ _ h => h) (Or.inl ⟨by rfl, ?_⟩) ?_ ?_
          rotate_left
          · intro w'
            go_simp
            with_reducible rfl
          rotate_left
          · simp only [Act.put, List.setIfInBounds_toArray, List.set_cons_zero, List.set_cons_succ, i64_w, i32_w]
            rfl
          refine pure_ (i := 16) (N := some 36) (v := ?_) (a' := ?_) #[true, true, true, true, true, true, true, true, true, true, true, true, true, true, true, true, true, false, false, false, false, false] rfl rfl (any_of HT_.out (by kernel_rfl)) (fun _ _ _ h => h) (Or.inl ⟨by rfl, ?_⟩) ?_ ?_
          rotate_left
          · intro w'
            go_simp
            with_reducible rfl
          rotate_left
          · simp only [Act.put, List.setIfInBounds_toArray, List.set_cons_zero, List.set_cons_succ, i64_w, i32_w]
            rfl
          refine pure_ (i := 17) (N := some 37) (v := ?_) (a' := ?_) #[true, true, true, true, true, true, true, true, true, true, true, true, true, true, true, true, true, true, false, false, false, false] rfl rfl (any_of HT_.out (by kernel_rfl)) (fun _ _ _ h => h) (Or.inl ⟨by rfl, ?_⟩) ?_ ?_
          rotate_left
          · intro w'
            go_simp
            with_reducible rfl
          rotate_left
          · simp only [Act.put, List.setIfInBounds_toArray, List.set_cons_zero, List.set_cons_succ, i64_w, i32_w]
            rfl
          refine pure_ (i := 18) (N := some 38) (v := ?_) (a' := ?_) #[true, true, true, true, true, true, true, true, true, true, true, true, true, true, true, true, true, true, true, false, false, false] rfl rfl (any_of HT_.out (by kernel_rfl)) (fun _ _ _ h => h) (Or.inl ⟨by rfl, ?_⟩) ?_ ?_
          rotate_left
          · intro w'
            go_simp
            with_reducible rfl
          rotate_left
          · simp only [Act.put, List.setIfInBounds_toArray, List.set_cons_zero, List.set_cons_succ, i64_w, i32_w]
            rfl
          refine one_ (i := 19) (N := some 39) #[true, true, true, true, true, true, true, true, true, true, true, true, true, true, true, true, true, true, true, true, false, false] rfl rfl (one_of HT_.out (by kernel_rfl)) (by decide) (fun K hK => ?_)
          refine goes_ Try.func18 (by kernel_rfl) rfl #[.agg #[.slice A xs.length c, .slice AD 1 (d - j)]] (by rfl) rfl rfl (by (try simp only [List.map_toArray, List.map_cons, List.map_nil]); first | done | rfl) ?_
          refine (check_Program' xs A c ((ys.drop j).take 1) AD 1 (d - j) LD.out HP2.out V1 HC.out HCc.out HDK.out HFC.out (fewRs_drop HFR.out j)).mono ?_
          rintro ex V2 ⟨rfl, hb⟩
          refine ⟨_, rfl, ?_⟩
          have n_HB := Aside0.mk (below_step HB.out hb)
          have n_HC := Aside0.mk (Kd.C_below HC.out hb)
          have n_HE := Aside0.mk (Kd.C_below HE.out hb)
          have n_HK3 := Aside0.mk (blk_below HK3.out hb)
          have n_HL := Aside0.mk (below_step HL.out hb)
          have n_HTK := Aside0.mk (Kd.C_below HTK.out hb)
          have n_HDK := Aside0.mk (Kd.C_below HDK.out hb)
          clear HB HC HE HK3 HL HTK HDK
          have HB := n_HB
          have HC := n_HC
          have HE := n_HE
          have HK3 := n_HK3
          have HL := n_HL
          have HTK := n_HTK
          have HDK := n_HDK
          clear n_HB n_HC n_HE n_HK3 n_HL n_HTK n_HDK
          clear hb
          refine hK.out _ _ ⟨(blk_cell HK3.out 0).trans rfl, (blk_cell HK3.out 1).trans rfl⟩ (fun hHeld => ?_)
          clear hK K
          refine norm_ (a' := ?_) ?_ ?_
          rotate_left
          · show Act.put _ (some 39) _ = _
            simp only [Act.put, List.setIfInBounds_toArray, List.set_cons_zero, List.set_cons_succ, i64_w, i32_w]
            rfl
          refine pure_ (i := 20) (N := some 40) (v := ?_) (a' := ?_) #[true, true, true, true, true, true, true, true, true, true, true, true, true, true, true, true, true, true, true, true, true, false] rfl rfl (any_of HT_.out (by kernel_rfl)) (fun _ _ _ h => h) (Or.inl ⟨by rfl, ?_⟩) ?_ ?_
          rotate_left
          · intro w'
            go_simp
            with_reducible rfl
          rotate_left
          · simp only [Act.put, List.setIfInBounds_toArray, List.set_cons_zero, List.set_cons_succ, i64_w, i32_w]
            rfl
          refine pure_ (i := 21) (N := some 41) (v := ?_) (a' := ?_) #[true, true, true, true, true, true, true, true, true, true, true, true, true, true, true, true, true, true, true, true, true, true] rfl rfl (any_of HT_.out (by kernel_rfl)) (fun _ _ _ h => h) (Or.inl ⟨by rfl, ?_⟩) ?_ ?_
          rotate_left
          · intro w'
            go_simp
            with_reducible rfl
          rotate_left
          · simp only [Act.put, List.setIfInBounds_toArray, List.set_cons_zero, List.set_cons_succ, i64_w, i32_w]
            rfl
          refine done_ (done_of HT_.out (by kernel_rfl)) ?_
          go_wp2_with fail
          have hlt2 := HLT.out
          have hyl := HY.out
          rw [add1' (by omega)]
          exact ⟨⟨j + 1, by omega, rfl, HL.out⟩, by simp [intOf]; omega⟩
        · skip
          obtain rfl : j = ys.length := by omega
          have b1 : decide ((ys.length : Int) < (ys.length : Int)) = false := decide_eq_false (by omega)
          clear hlt
          go_wp2_with fail
          go_at_call 8
          refine (awake_calls wr).mono ?_
          rintro ex VA ⟨rfl, hb⟩
          have HBA := Aside0.mk (below_step HB.out hb)
          clear hb
          go_wp2_with fail
          go_ret
          exact ⟨rfl, HBA.out⟩
    · skip
      have hzz : (programT xs ys != 0) = true := bne_iff_ne.mpr hz
      clear hz
      go_wp2_with fail
      go_at_call 8
      refine (awake_calls W3).mono ?_
      rintro ex VA ⟨rfl, hb⟩
      have HBA := Aside0.mk (below_step HB.out hb)
      clear hb
      go_wp2_with fail
      go_ret
      exact ⟨rfl, HBA.out⟩
end Go.Proofs.Ytlbcnkmojoinfaa.MCk
