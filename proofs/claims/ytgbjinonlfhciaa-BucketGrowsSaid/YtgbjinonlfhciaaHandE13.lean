/- The contract of slices.Delete of one pair, on a row of the call's own. -/
import Derived.Test.YtgbjinonlfhciaaGrowsP
import Derived.ArgAppend
namespace Go.Proofs.Ytgbjinonlfhciaa.MBk
open Go.RowKit Go.Proofs.Ytgbjinonlfhciaa.BkV Go.Proofs.YtgbjinonlfhciaaW.PrintWords Go.Proofs.YtgbjinonlfhciaaW.PrintLast Go.Proofs.YtgbjinonlfhciaaW.PrintMore
set_option linter.unusedVariables false
set_option linter.unusedSimpArgs false
theorem below_cells {base : Nat} {w : World} {g : Nat} : ∀ {w1 : World}, Below base w w1 → base ≤ g → ∀ (vs : List Value) (o : Nat), Below base w (w1.setCells g o vs)
  | _, h, _, [], _ => h
  | _, h, hb, v :: r, o => below_cells (h.setCell (p := ⟨g, o, none⟩) hb v) hb r (o + 1)
/-- A builtin of two slices in a drawn region: append. -/
theorem step_append_ {P : Program} {ops : Array Oper} {oi : Oper} {N : Option Tmp} {a : Act} {w : World} {K : Act → World → Prop} {Q : Exit → Act → World → Prop} (d x : Operand) (dT sT : TypeId)
    (hw : Region.wanted oi (yielded ops a.tmps) = true) (hN : oi.dst = N) (hop : oi.op = Op.call { callee := Callee.builtin Builtin.append, args := #[d, x], argTypes := #[dT, sT] })
    (v u : Value) (hd : a.eval d = v) (hx : a.eval x = u) {v' : Value} {w' : World} (hr : (Builtin.append_ #[dT, sT] oi.type #[v, u]).run P w = .ok v' w') (hK : K (a.put N v') w') :
    if Region.wanted oi (yielded ops a.tmps) = true then Oper.wp P oi a w K Q else K (a.put N undef) w := by
  rw [if_pos hw]
  subst hN
  unfold Oper.wp
  simp [execOp, hop, resolve, invoke, builtin, hd, hx, hr, Result.andThen]
  exact hK
theorem wpList_clear_run {P : Program} (w : World) {ops : Array Oper} {rest : List Oper} {o : Oper} {a : Act} {Q : Exit → Act → World → Prop}
    (hg : o.guard = none) (x : Operand) (t : TypeId) (hop : o.op = Op.call { callee := Callee.builtin Builtin.clear, args := #[x], argTypes := #[t] }) {u v : Value} {w1 : World} (hx : a.eval x = u)
    (hrun : (Builtin.clear_ #[t] o.type #[u]).run P w = .ok v w1) (h : wpList P ops Q rest (a.put o.dst v) w1) : wpList P ops Q (o :: rest) a w := by
  refine wpList_plain hg fun K hK' => ?_
  unfold Oper.wp
  simp [execOp, hop, resolve, invoke, builtin, hx, hrun, Result.andThen]
  exact hK' _ _ h
theorem cut_over {P : Program} (t e : TypeId) (kl kh : IntKind) {i : TypeInfo} (ht : P.underlying t = some (.slice e)) (hi : P.info? e = some i) (size : Nat) (hsz : i.size = size) (A : Option Addr) (n c : Nat) (lo hi' : Int) (h0 : 0 ≤ lo) (h1 : lo ≤ hi') (h2 : hi' ≤ c) :
    ∀ W : World, (Instr.slice t (.slice A n c) (some (.int kl lo)) (some (.int kh hi')) none).run P W = .ok (.slice (if c = lo.toNat then A else A.map (·.add (lo.toNat * size))) (hi'.toNat - lo.toNat) (c - lo.toNat)) W := by
  intro W
  have hel : P.elem t = e := by simp [Program.elem, ht]
  have hu : P.underlying t = some (.slice (P.elem t)) := by rw [hel]; exact ht
  rw [run_slice_lh W t A n c hu kl kh lo hi' h0 h1 h2, hel]
  simp [sizeOf, typeInfo, hi, hsz, sliced, Result.andThen]
theorem cut_three {P : Program} (t e : TypeId) (kl kh km : IntKind) {i : TypeInfo} (ht : P.underlying t = some (.slice e)) (hi : P.info? e = some i) (A : Option Addr) (n c : Nat) (lo hi' m : Int) (h0 : 0 ≤ lo) (h1 : lo ≤ hi') (h2 : hi' ≤ m) (h3 : m ≤ c) :
    ∀ W : World, (Instr.slice t (.slice A n c) (some (.int kl lo)) (some (.int kh hi')) (some (.int km m))).run P W = .ok (sliced A lo.toNat hi'.toNat m.toNat i.size) W := by
  intro W
  have hel : P.elem t = e := by simp [Program.elem, ht]
  have hu : P.underlying t = some (.slice (P.elem t)) := by rw [hel]; exact ht
  rw [run_slice_lhm W t A n c hu kl kh km lo hi' m h0 h1 h2 h3, hel]
  simp [sizeOf, typeInfo, hi, Result.andThen]
theorem clear_pair (w : World) (ty : TypeId) (g o c : Nat) (hc : ∀ j, j < 2 → (w.cell? ⟨g, o + j, none⟩).isSome = true) (hf : ∀ j, j < 2 → w.frozen? ⟨g, o + j, none⟩ = false) :
    (Builtin.clear_ #[22] ty #[.slice (some ⟨g, o, none⟩) 1 c]).run Try.prog w = .ok (.tuple #[]) (w.setCells g o [.string ⟨#[]⟩, .string ⟨#[]⟩]) := by
  obtain ⟨i0, hi0, hz, _, _⟩ := info_parts info27
  have hst := run_storeCells_cells (P := Try.prog) g o [.string ⟨#[]⟩, .string ⟨#[]⟩] 0 w (by simpa using hc) (by simpa using hf) (by intro v hv; simp at hv; rw [hv]; rfl)
  simp only [Nat.add_zero] at hst
  have hzv : ∀ w, (zeroValue 27).run Try.prog w = .ok (.agg #[.string ⟨#[]⟩, .string ⟨#[]⟩]) w := by
    intro w
    simp [zeroValue, typeInfo, hi0, hz]
  have hzc : (Builtin.zeroCells (Value.agg #[.string ⟨#[]⟩, .string ⟨#[]⟩]).cells 1).toList = [.string ⟨#[]⟩, .string ⟨#[]⟩] := by kernel_rfl
  simp [Builtin.clear_, run_underlying Try.underlying22, hzv, hzc, hst]
def Delete.T5 : Bool × List (List Nat × List Nat) := (true, [([], []), ([], []), ([0, 1], [0, 1]), ([], []), ([], []), ([3, 4], [3, 4]), ([2, 5], [2, 5]), ([6, 6, 0, 1, 2, 3, 4, 5, 6], [0, 3, 6])])
def Delete.B5 : List Nat := [0, 0, 3, 0, 0, 24, 63, 127]
theorem Delete.tab5 : rtab .any (opsOf Try.f37 5) = Delete.T5 := by kernel_rfl
theorem Delete.bits5 : waitsOk Delete.T5.2 Delete.B5 = true := by kernel_rfl
set_option maxHeartbeats 8000000 in
set_option maxRecDepth 100000 in
theorem delete_calls (xs : List S27) (i : Nat) (g cap : Nat) (cur : Array Value) (base : Nat) (w : World) (hbase : base ≤ g) (hg : w.heap[g]? = some (.cells cur 27 (0, 0))) (hroom : xs.length ≤ cap) (hcap : cap ≤ maxLen) (hsz : cur.size = cap * 2) (hcur : cur.toList.take (xs.length * 2) = pcs xs)
    (hi : i < xs.length) (hl : xs.length ≤ 1000) (hbw : base ≤ w.heap.size) :
    Calls Try.prog 37 #[.slice (some ⟨g, 0, none⟩) xs.length cap, .int .i64 (i : Int), .int .i64 ((i : Int) + 1)] w fun e w' => ∃ v1, e = .returned v1 ∧ Kd.R k27 27 w' base (fun _ => True) v1 (xs.take i ++ xs.drop (i + 1)) ∧ Below base w w' := by
  obtain ⟨i0, hi0, hz0, hsz2, hb0⟩ := info_parts info27
  have t1 : ((i : Int) + 1).toNat = i + 1 := by omega
  have hcut3 := cut_three (P := Try.prog) 22 27 .i64 .i64 .i64 Try.underlying22 hi0 (some ⟨g, 0, none⟩) xs.length cap (i : Int) ((i : Int) + 1) (xs.length : Int) (by omega) (by omega) (by omega) (by omega)
  have hcutA := cut_to (P := Try.prog) 22 27 .i64 Try.underlying22 hi0 (some ⟨g, 0, none⟩) xs.length cap (i : Int) (by omega) (by omega) hroom
  have hcutB := cut_from (P := Try.prog) 22 27 .i64 Try.underlying22 hi0 2 hsz2 (some ⟨g, 0, none⟩) xs.length cap ((i : Int) + 1) (by omega) (by omega)
  have hcutC := cut_over (P := Try.prog) 22 27 .i64 .i64 Try.underlying22 hi0 2 hsz2 (some ⟨g, 0, none⟩) (xs.length - 1) cap ((xs.length - 1 : Nat) : Int) (xs.length : Int) (by omega) (by omega) (by omega)
  generalize sliced (some ⟨g, 0, none⟩) (i : Int).toNat ((i : Int) + 1).toNat (xs.length : Int).toNat i0.size = V3 at hcut3
  have a1 : (Option.map (fun (y : Addr) => y.add ((i + 1) * 2)) (some ⟨g, 0, none⟩)) = some ⟨g, (i + 1) * 2, none⟩ := by
    show some (Addr.add ⟨g, 0, none⟩ ((i + 1) * 2)) = _
    rw [Addr.add_lit, Nat.zero_add]
  have a2 : (Option.map (fun (y : Addr) => y.add ((xs.length - 1) * 2)) (some ⟨g, 0, none⟩)) = some ⟨g, (xs.length - 1) * 2, none⟩ := by
    show some (Addr.add ⟨g, 0, none⟩ ((xs.length - 1) * 2)) = _
    rw [Addr.add_lit, Nat.zero_add]
  rw [Int.toNat_natCast] at hcutA
  rw [t1, a1] at hcutB
  rw [Int.toNat_natCast, Int.toNat_natCast, if_neg (show ¬ cap = xs.length - 1 by omega), a2, show xs.length - (xs.length - 1) = 1 by omega] at hcutC
  obtain ⟨ab, hab, hab2⟩ : ∃ ab : Addr, (if cap = i + 1 then (some ⟨g, 0, none⟩ : Option Addr) else some ⟨g, (i + 1) * 2, none⟩) = some ab ∧ (i + 1 < xs.length → ab = ⟨g, (i + 1) * 2, none⟩) := by
    by_cases h : cap = i + 1
    · exact ⟨_, if_pos h, fun h2 => by omega⟩
    · exact ⟨_, if_neg h, fun _ => rfl⟩
  rw [hab] at hcutB
  have lD : (pcs (xs.drop (i + 1))).length = (xs.length - (i + 1)) * 2 := by rw [pcs_len, List.length_drop]
  have lT : (pcs (xs.take i)).length = i * 2 := by rw [pcs_len, List.length_take]; congr 1; omega
  have hcs : cur.toList.length = cap * 2 := by rw [Array.length_toList]; exact hsz
  have happ : ∀ ty, (Builtin.append_ #[22, 22] ty #[.slice (some ⟨g, 0, none⟩) i cap, .slice (some ab) (xs.length - (i + 1)) (cap - (i + 1))]).run Try.prog w.drew = .ok (.slice (some ⟨g, 0, none⟩) (xs.length - 1) cap) (w.drew.setCells g (i * 2) (pcs (xs.drop (i + 1)))) := by
    intro ty
    have h := run_append_room_cells (P := Try.prog) w.drew 22 ty 27 i0 Try.underlying22 hi0 g 0 i cap ab (xs.length - (i + 1)) (cap - (i + 1)) (pcs (xs.drop (i + 1))) (by rw [hsz2]; exact lD) (fun j u hj => by
        have hlt : i + 1 < xs.length := by
          have := (List.getElem?_eq_some_iff.1 hj).1
          rw [lD] at this
          omega
        rw [hab2 hlt]
        exact pcs_cells (w := w.drew) hg hcur ((i + 1) * 2) _ (fun j u hj => by rw [← pcs_drop xs (i + 1) (by omega), List.getElem?_drop] at hj; exact hj) j u hj) (pcs_one _) (by omega)
      (fun j hj => by
        rw [lD] at hj
        rw [hsz2, Nat.zero_add, cell_of_row w.drew g (i * 2 + j) cur 27 (0, 0) hg, Array.getElem?_eq_getElem (by omega)]
        rfl)
      (fun j hj => frozen_of_row w.drew g _ cur 27 hg)
    rw [hsz2, Nat.zero_add, show i + (xs.length - (i + 1)) = xs.length - 1 by omega] at h
    exact h
  obtain ⟨cur1, hg1, hs1, hc1⟩ := setCells_row (pcs (xs.drop (i + 1))) (i * 2) w.drew cur hg (by rw [lD]; omega)
  have hbl1 : Below base w (w.drew.setCells g (i * 2) (pcs (xs.drop (i + 1)))) := below_cells ((below_drew1 (Below.refl base w))) hbase _ _
  generalize w.drew.setCells g (i * 2) (pcs (xs.drop (i + 1))) = W1 at happ hg1 hbl1
  have hclr : ∀ ty, (Builtin.clear_ #[22] ty #[.slice (some ⟨g, (xs.length - 1) * 2, none⟩) 1 (cap - (xs.length - 1))]).run Try.prog W1 = .ok (.tuple #[]) (W1.setCells g ((xs.length - 1) * 2) [.string ⟨#[]⟩, .string ⟨#[]⟩]) := fun ty =>
    clear_pair W1 ty g ((xs.length - 1) * 2) (cap - (xs.length - 1)) (fun j hj => by
        rw [cell_of_row W1 g _ cur1 27 (0, 0) hg1, Array.getElem?_eq_getElem (by omega)]
        rfl) (fun j hj => frozen_of_row W1 g _ cur1 27 hg1)
  obtain ⟨cur2, hg2, hs2, hc2⟩ := setCells_row [Value.string ⟨#[]⟩, Value.string ⟨#[]⟩] ((xs.length - 1) * 2) W1 cur1 hg1 (by simp; omega)
  have hbl2 : Below base w (W1.setCells g ((xs.length - 1) * 2) [.string ⟨#[]⟩, .string ⟨#[]⟩]) := below_cells hbl1 hbase _ _
  generalize W1.setCells g ((xs.length - 1) * 2) [.string ⟨#[]⟩, .string ⟨#[]⟩] = W2 at hclr hg2 hbl2
  have hpx : pcs (xs.take i ++ xs.drop (i + 1)) = cur1.toList.take ((xs.length - 1) * 2) := by
    have hti : cur.toList.take (i * 2) = pcs (xs.take i) := by
      rw [← pcs_take xs i (by omega), ← hcur, List.take_take, Nat.min_eq_left (by omega)]
    have e : (pcs (xs.take i) ++ pcs (xs.drop (i + 1))).length = (xs.length - 1) * 2 := by rw [List.length_append, lT, lD]; omega
    rw [hc1, hti, pcs_append, ← e, List.take_left]
  have hlx : (xs.take i ++ xs.drop (i + 1)).length = xs.length - 1 := by rw [List.length_append, List.length_take, List.length_drop]; omega
  have hres : Kd.R k27 27 W2 base (fun _ => True) (.slice (some ⟨g, 0, none⟩) (xs.length - 1) cap) (xs.take i ++ xs.drop (i + 1)) := by
    have e2 : cur2 = (cur1.toList.take ((xs.length - 1) * 2) ++ ([Value.string ⟨#[]⟩, Value.string ⟨#[]⟩] ++ cur1.toList.drop ((xs.length - 1) * 2 + 2))).toArray := by
      rw [← List.append_assoc]
      exact Array.toList_inj.mp hc2
    rw [e2] at hg2
    refine own_row hbase hg2 hpx hlx (by omega) hcap ?_
    have h3 : cur2.toList.length = cap * 2 := by rw [Array.length_toList, hs2, hs1, hsz]
    rw [← h3, hc2, List.append_assoc]
    rfl
  have HRES := Aside0.mk hres
  have HBL := Aside0.mk hbl2
  have HAP := Aside0.mk happ
  have HCLR := Aside0.mk hclr
  have q0 : ((i : Int) == (i : Int) + 1) = false := beq_eq_false_iff_ne.mpr (by omega)
  have HW1 : ((xs.length - 1 : Nat) : Int) = ((xs.length - 1 : Nat) : Int) := rfl
  clear hres hbl1 hbl2 happ hclr hg1 hs1 hc1 hg2 hs2 hc2 hpx hlx lD lT hcs hab hab2 a1 a2 t1 hi0 hz0 hsz2 hb0 hsz hcur hg hcap hl hi HW1
  go_enter Try.func37, Try.ntmps37
  go_upto_region 5 with fail
  refine start_ (n := 8) (S := fun w' => True) (ds := []) #[false, false, false, false, false, false, false, false] (by kernel_rfl) rfl rfl trivial (fun hHeld => ?_); refine with_tabW Delete.tab5 Delete.bits5 (fun HT_ HW_ => ?_)
  refine pure_ (i := 0) (N := some 20) (v := ?_) (a' := ?_) #[true, false, false, false, false, false, false, false] rfl rfl (any_of HT_.out (by kernel_rfl)) (fun _ _ _ h => h) (Or.inl ⟨by rfl, ?_⟩) ?_ ?_
  rotate_left
  · intro w'
    go_simp
    with_reducible rfl
  rotate_left
  · simp only [Act.put, List.setIfInBounds_toArray, List.set_cons_zero, List.set_cons_succ, i64_w, i32_w]
    rfl
  refine pure_ (i := 1) (N := some 21) (v := ?_) (a' := ?_) #[true, true, false, false, false, false, false, false] rfl rfl (any_of HT_.out (by kernel_rfl)) (fun _ _ _ h => h) (Or.inl ⟨by rfl, ?_⟩) ?_ ?_
  rotate_left
  · intro w'
    go_simp
    with_reducible rfl
  rotate_left
  · simp only [Act.put, List.setIfInBounds_toArray, List.set_cons_zero, List.set_cons_succ, i64_w, i32_w]
    rfl
  refine pure_ (i := 2) (N := some 22) (v := ?_) (a' := ?_) #[true, true, true, false, false, false, false, false] rfl rfl (any_of HT_.out (by kernel_rfl)) (fun _ _ _ h => h) (Or.inl ⟨by rfl, ?_⟩) ?_ ?_
  rotate_left
  · intro w'
    go_simp
    with_reducible rfl
  rotate_left
  · simp only [Act.put, List.setIfInBounds_toArray, List.set_cons_zero, List.set_cons_succ, i64_w, i32_w]
    rfl
  refine pure_ (i := 3) (N := some 23) (v := ?_) (a' := ?_) #[true, true, true, true, false, false, false, false] rfl rfl (any_of HT_.out (by kernel_rfl)) (fun _ _ _ h => h) (Or.inl ⟨by rfl, ?_⟩) ?_ ?_
  rotate_left
  · intro w'
    go_simp
    with_reducible rfl
  rotate_left
  · simp only [Act.put, List.setIfInBounds_toArray, List.set_cons_zero, List.set_cons_succ, i64_w, i32_w]
    rfl
  refine pure_ (i := 4) (N := some 24) (v := ?_) (a' := ?_) #[true, true, true, true, true, false, false, false] rfl rfl (any_of HT_.out (by kernel_rfl)) (fun _ _ _ h => h) (Or.inl ⟨by rfl, ?_⟩) ?_ ?_
  rotate_left
  · intro w'
    go_simp
    with_reducible rfl
  rotate_left
  · simp only [Act.put, List.setIfInBounds_toArray, List.set_cons_zero, List.set_cons_succ, i64_w, i32_w]
    rfl
  refine pure_ (i := 5) (N := some 25) (v := ?_) (a' := ?_) #[true, true, true, true, true, true, false, false] rfl rfl (any_of HT_.out (by kernel_rfl)) (fun _ _ _ h => h) (Or.inl ⟨by rfl, ?_⟩) ?_ ?_
  rotate_left
  · intro w'
    go_simp
    with_reducible rfl
  rotate_left
  · simp only [Act.put, List.setIfInBounds_toArray, List.set_cons_zero, List.set_cons_succ, i64_w, i32_w]
    rfl
  refine one_ (i := 6) (N := some 26) #[true, true, true, true, true, true, true, false] rfl rfl (one_of HT_.out (by kernel_rfl)) (by decide) (fun K hK => ?_)
  refine step_append_ (.tmp 22) (.tmp 25) 22 22 (by rfl) rfl rfl (.slice (some ⟨g, 0, none⟩) i cap) (.slice (some ab) (xs.length - (i + 1)) (cap - (i + 1))) (by rfl) (by rfl) (HAP.out _) ?_
  refine hK.out _ _ trivial (fun hHeld => ?_)
  clear hK K
  refine norm_ (a' := ?_) ?_ ?_
  rotate_left
  · show Act.put _ (some 26) _ = _
    simp only [Act.put, List.setIfInBounds_toArray, List.set_cons_zero, List.set_cons_succ, i64_w, i32_w]
    rfl
  refine pure_ (i := 7) (N := some 0) (v := ?_) (a' := ?_) #[true, true, true, true, true, true, true, true] rfl rfl (any_of HT_.out (by kernel_rfl)) (fun _ _ _ h => h) (Or.inl ⟨by rfl, ?_⟩) ?_ ?_
  rotate_left
  · intro w'
    go_simp
    with_reducible rfl
  rotate_left
  · simp only [Act.put, List.setIfInBounds_toArray, List.set_cons_zero, List.set_cons_succ, i64_w, i32_w]
    rfl
  refine done_ (done_of HT_.out (by kernel_rfl)) ?_
  have hclr0 := HCLR.out 0
  go_wp2_with fail
  go_ret
  exact ⟨_, rfl, HRES.out, HBL.out⟩
end Go.Proofs.Ytgbjinonlfhciaa.MBk
