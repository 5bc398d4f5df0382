/- The contracts of every, bucket.Check, slices.Clone of pairs, own, and what bucket.Size tells. -/
import Derived.Test.YtgbjinonlfhciaaHandE1
import Derived.Test.YtgbjinonlfhciaaMBkx2
import Derived.Lib.SliceRun
import Derived.WalkSpells
import Derived.Laws.Tables
namespace Go.Proofs.Ytgbjinonlfhciaa.BkV
open Go.RowKit Go.Proofs.Ytgbjinonlfhciaa.MBk Go.Proofs.YtgbjinonlfhciaaW.PrintWords Go.Proofs.YtgbjinonlfhciaaW.PrintLast
/-- How many bytes pairs have, with the head. -/
def sizeN : List S27 → Nat
  | [] => 4
  | x :: r => 2 + x.f0.size + x.f1.size + sizeN r
/-- Pairs are few, and short. -/
def FewP (l : List S27) : Prop := l.length ≤ 1000 ∧ ∀ x ∈ l, x.f0.size ≤ 1000 ∧ x.f1.size ≤ 1000
theorem sizeN_le : ∀ (l : List S27), (∀ x ∈ l, x.f0.size ≤ 1000 ∧ x.f1.size ≤ 1000) → sizeN l ≤ 4 + 2002 * l.length
  | [], _ => Nat.le_refl _
  | x :: r, h => by
    have h1 := sizeN_le r (fun y hy => h y (List.mem_cons_of_mem _ hy))
    have h2 := h x List.mem_cons_self
    show 2 + x.f0.size + x.f1.size + sizeN r ≤ 4 + 2002 * (r.length + 1)
    omega
theorem sizeN_ge : ∀ (l : List S27), 4 ≤ sizeN l
  | [] => Nat.le_refl _
  | x :: r => Nat.le_trans (sizeN_ge r) (by show sizeN r ≤ 2 + x.f0.size + x.f1.size + sizeN r; omega)
theorem size_l (l : List S27) (hl : l.length ≤ 1000) (hs : ∀ x ∈ l, x.f0.size ≤ 1000 ∧ x.f1.size ≤ 1000) (d : Nat) : ∀ (k j acc : Nat), j + d = l.length → acc ≤ 4 + 2002 * j → bucket_Size.l0 (k + d + 1) (acc : Int) l (l.length : Int) (j : Int) = some ((acc + (sizeN (l.drop j) - 4) : Nat) : Int) := by
  induction d with
  | zero =>
    intro k j acc hj ha
    rw [bucket_Size.l0, if_neg (by omega), List.drop_of_length_le (by omega)]
    rfl
  | succ d ih =>
    intro k j acc hj ha
    have hlt : j < l.length := by omega
    have hy := hs _ (List.getElem_mem hlt)
    rw [show k + (d + 1) + 1 = (k + d + 1) + 1 by omega, bucket_Size.l0, if_pos (by omega), if_pos (by omega), if_pos (by omega), rd27 l j hlt, add1 (by omega), List.drop_eq_getElem_cons hlt]
    generalize l[j] = y at hy
    have e1 : wrap64 ((acc : Int) + wrap64 (wrap64 (2 + (y.f0.size : Int)) + (y.f1.size : Int))) = ((acc + (2 + y.f0.size + y.f1.size) : Nat) : Int) := by unfold wrap64; omega
    rw [e1, ih k (j + 1) _ (by omega) (by omega)]
    congr 2
    have := sizeN_ge (l.drop (j + 1))
    show acc + (2 + y.f0.size + y.f1.size) + (sizeN (l.drop (j + 1)) - 4) = acc + (2 + y.f0.size + y.f1.size + sizeN (l.drop (j + 1)) - 4)
    omega
theorem size_is (d n : Int) (l : List S27) (h : FewP l) : bucket_Size.f 1001 d n l = some (sizeN l : Int) := by
  have := size_l l h.1 h.2 l.length (1000 - l.length) 0 4 (by omega) (by omega)
  rw [show 1000 - l.length + l.length + 1 = 1001 by have := h.1; omega, List.drop_zero] at this
  refine this.trans ?_
  have := sizeN_ge l
  congr 2
  omega
/-- What a bucket is checked for. -/
def checkT (d n : Int) (l : List S27) : Int :=
  if d < 0 ∨ 10 < d ∨ n < 0 ∨ 3000 < n then 12 else if l.any longT = true then 5 else if 246 < sizeN l then 10 else if risesT l = true then 0 else 4
end Go.Proofs.Ytgbjinonlfhciaa.BkV
namespace Go.Proofs.Ytgbjinonlfhciaa.MBk
open Go.RowKit Go.Proofs.Ytgbjinonlfhciaa.BkV Go.Proofs.YtgbjinonlfhciaaW.PrintWords Go.Proofs.YtgbjinonlfhciaaW.PrintLast Go.Proofs.YtgbjinonlfhciaaW.PrintMore
set_option linter.unusedVariables false
set_option linter.unusedSimpArgs false
/-- A call of a function's value in a drawn region. -/
theorem goesV_ {P : Program} {ops : Array Oper} {Q : Exit → Act → World → Prop} {oi : Oper} {N : Option Tmp} {a : Act} {w : World} {K : Act → World → Prop} {f : FuncId} {fn : Func} {o : Operand} {ars : Array Operand} {ts : Array TypeId} (hf : P.funcs[f]? = some fn) (hname : (fn.name == "runtime.NumGoroutine") = false) (hb : fn.body.isSome = true) (args : Array Value)
    (hw : Region.wanted oi (yielded ops a.tmps) = true) (hN : oi.dst = N) (hop : oi.op = .call { callee := .value o, args := ars, argTypes := ts }) (ho : a.eval o = .func (Fn.func f) #[] #[]) (hargs : ars.map a.eval = args)
    (h : Calls P f args w fun e w' => ∃ v, e = .returned v ∧ K (a.put N v) w') : if Region.wanted oi (yielded ops a.tmps) = true then Oper.wp P oi a w K Q else K (a.put N undef) w := by
  refine call_ f args hw hN ?_ h
  have he := enters_ hf hname hb args w
  unfold execOp
  simp [hop, resolve, ho, Deferred.ofValue, invoke, hargs, he]
def Every.T4 : Bool × List (List Nat × List Nat) := (true, [([], []), ([], []), ([], []), ([2], [2]), ([1, 3], [1, 3]), ([4], [4]), ([], []), ([], []), ([6, 7], [6, 7]), ([8], [8]), ([0, 5, 9], [0, 5, 9]), ([10], [10])])
def Every.B4 : List Nat := [0, 0, 0, 4, 14, 30, 0, 0, 192, 448, 1023, 2047]
theorem Every.tab4 : rtab .any (opsOf Try.f35 4) = Every.T4 := by kernel_rfl
theorem Every.bits4 : waitsOk Every.T4.2 Every.B4 = true := by kernel_rfl
set_option maxHeartbeats 4000000 in
set_option maxRecDepth 100000 in
theorem every_calls (l : List S27) (A0 : Option Addr) (c0 : Nat) (w : World) (hC : Kd.C k27 w A0 l.length l) (hl : l.length ≤ 1000) :
    Calls Try.prog 35 #[.slice A0 l.length c0, .func (Fn.func 17) #[] #[]] w fun e w' => e = .returned (.bool (risesT l)) ∧ Below w.heap.size w w' := by
  have HC := Aside0.mk hC
  have HLL := Aside0.mk hl
  clear hC hl
  obtain ⟨r, hr⟩ : ∃ r, risesT l = r := ⟨_, rfl⟩
  rw [hr]
  have HR := Aside0.mk hr
  clear hr
  go_enter Try.func35, Try.ntmps35
  go_wp2_with fail
  have HB := Aside0.mk (Below.refl w.heap.size w)
  go_loopw [5] (fun i wr => ∃ (j : Nat), 1 ≤ j ∧ (j ≤ l.length ∨ j = 1) ∧ i = .int .i64 (j : Int) ∧ risesT (l.drop (j - 1)) = r ∧ Below w.heap.size w wr)
    (fun i _ => l.length - (intOf i).toNat)
  case atStart => exact ⟨1, Nat.le_refl _, .inr rfl, rfl, HR.out, HB.out⟩
  case round =>
    clear HB
    obtain ⟨j, hj1, hj2, rfl, hf, hb⟩ := hrel
    have nC := Aside0.mk (Kd.C_below HC.out hb)
    have HF := Aside0.mk hf
    have HB := Aside0.mk hb
    have HC0 := HC
    clear HC
    have HC := nC
    clear nC hf hb
    by_cases hlt : j < l.length
    · have b1 : decide ((j : Int) < (l.length : Int)) = true := decide_eq_true (by omega)
      have b1n : decide (j < l.length) = true := decide_eq_true hlt
      obtain ⟨m, hm⟩ : ∃ m, j = m + 1 := ⟨j - 1, by omega⟩
      have hd := HF.out
      rw [show j - 1 = m by omega, List.drop_eq_getElem_cons (show m < l.length by omega)] at hd
      have hd2 : risesT (l[m] :: l[j] :: l.drop (j + 1)) = r := by
        have e : l.drop (m + 1) = l[j] :: l.drop (j + 1) := by rw [← hm]; exact List.drop_eq_getElem_cons hlt
        rw [e] at hd
        exact hd
      obtain ⟨ad, e1, hx0, hx1⟩ := at_T27 HC.out (m : Int) (by omega) (by omega)
      obtain ⟨ad2, e2, hy0, hy1⟩ := at_T27 HC.out (j : Int) (by omega) (by omega)
      rw [e1] at e2
      injection e2 with e2
      subst e2
      subst e1
      rw [rd27 l m (by omega)] at hx0 hx1
      rw [rd27 l j hlt] at hy0 hy1
      rw [Int.toNat_natCast] at hx0 hx1 hy0 hy1
      have hd3 : risesT (l[j] :: l.drop (j + 1)) = risesT (l.drop j) := by rw [← List.drop_eq_getElem_cons hlt]
      generalize l[m] = a at hx0 hx1 hd2
      generalize l[j] = b at hy0 hy1 hd2 hd3
      rw [risesT, hd3] at hd2
      have HD := Aside0.mk hd2
      have HX0 := Aside0.mk hx0
      have HX1 := Aside0.mk hx1
      have HY0 := Aside0.mk hy0
      have HY1 := Aside0.mk hy1
      have hw : wrap64 ((j : Int) - 1) = (m : Int) := by unfold wrap64; have := HLL.out; omega
      have p0 := eq_true (show 0 ≤ (j : Int) by omega)
      have p1 := eq_true (show (j : Int) < (l.length : Int) by omega)
      have p2 := eq_true (show 0 ≤ (m : Int) by omega)
      have p3 := eq_true (show (m : Int) < (l.length : Int) by omega)
      have p4 := eq_true (show m < l.length by omega)
      have p5 := eq_true hlt
      have HLT := Aside0.mk hlt
      have HJ1 := Aside0.mk hj1
      clear hd hd2 hd3 hx0 hx1 hy0 hy1 hm hlt hj1 hj2 HF
      go_upto_region 4 with fail
      clear b1 b1n
      have hD := below_drew1 (Below.refl wr.heap.size wr)
      have n_HX0 := Aside0.mk ((hD.cell (World.block_lt_of_cell? _ _ HX0.out)).trans HX0.out)
      have n_HX1 := Aside0.mk ((hD.cell (World.block_lt_of_cell? _ _ HX1.out)).trans HX1.out)
      have n_HY0 := Aside0.mk ((hD.cell (World.block_lt_of_cell? _ _ HY0.out)).trans HY0.out)
      have n_HY1 := Aside0.mk ((hD.cell (World.block_lt_of_cell? _ _ HY1.out)).trans HY1.out)
      clear HX0 HX1 HY0 HY1
      have HX0 := n_HX0
      have HX1 := n_HX1
      have HY0 := n_HY0
      have HY1 := n_HY1
      clear n_HX0 n_HX1 n_HY0 n_HY1
      have n_HC := Aside0.mk (Kd.C_below HC.out hD)
      have n_HB := Aside0.mk (below_step HB.out hD)
      clear HC HB
      have HC := n_HC
      have HB := n_HB
      clear n_HC n_HB
      clear hD
      refine start_ (n := 12) (S := fun w' => w'.cell? (ad.add (m * 2)) = some (.string a.f0) ∧ w'.cell? ⟨(ad.add (m * 2)).block, (ad.add (m * 2)).off + 1, none⟩ = some (.string a.f1) ∧ w'.cell? (ad.add (j * 2)) = some (.string b.f0) ∧ w'.cell? ⟨(ad.add (j * 2)).block, (ad.add (j * 2)).off + 1, none⟩ = some (.string b.f1)) (ds := []) #[false, false, false, false, false, false, false, false, false, false, false, false] (by kernel_rfl) rfl rfl ⟨HX0.out, HX1.out, HY0.out, HY1.out⟩ (fun hHeld => ?_); refine with_tabW Every.tab4 Every.bits4 (fun HT_ HW_ => ?_)
      generalize wr.drew = V0 at HC HB HX0 HX1 HY0 HY1 hHeld ⊢
      refine pure_ (i := 0) (N := some 12) (v := ?_) (a' := ?_) #[true, false, false, false, false, false, false, false, false, false, false, false] rfl rfl (any_of HT_.out (by kernel_rfl)) (fun _ _ _ h => h) (Or.inl ⟨by rfl, ?_⟩) ?_ ?_
      rotate_left
      · intro w'
        go_simp
        with_reducible rfl
      rotate_left
      · simp only [Act.put, List.setIfInBounds_toArray, List.set_cons_zero, List.set_cons_succ, i64_w, i32_w]
        rfl
      refine pure_ (i := 1) (N := some 13) (v := ?_) (a' := ?_) #[true, true, false, false, false, false, false, false, false, false, false, false] rfl rfl (any_of HT_.out (by kernel_rfl)) (fun _ _ _ h => h) (Or.inl ⟨by rfl, ?_⟩) ?_ ?_
      rotate_left
      · intro w'
        go_simp
        with_reducible rfl
      rotate_left
      · simp only [Act.put, List.setIfInBounds_toArray, List.set_cons_zero, List.set_cons_succ, i64_w, i32_w]
        rfl
      refine pure_ (i := 2) (N := some 14) (v := ?_) (a' := ?_) #[true, true, true, false, false, false, false, false, false, false, false, false] rfl rfl (any_of HT_.out (by kernel_rfl)) (fun _ _ _ h => h) (Or.inl ⟨by rfl, ?_⟩) ?_ ?_
      rotate_left
      · intro w'
        go_simp
        with_reducible rfl
      rotate_left
      · simp only [Act.put, List.setIfInBounds_toArray, List.set_cons_zero, List.set_cons_succ, i64_w, i32_w]
        rfl
      refine pure_ (i := 3) (N := some 15) (v := ?_) (a' := ?_) #[true, true, true, true, false, false, false, false, false, false, false, false] rfl rfl (any_of HT_.out (by kernel_rfl)) (fun _ _ _ h => h) (Or.inl ⟨by rfl, ?_⟩) ?_ ?_
      rotate_left
      · intro w'
        go_simp
        with_reducible rfl
      rotate_left
      · simp only [Act.put, List.setIfInBounds_toArray, List.set_cons_zero, List.set_cons_succ, i64_w, i32_w]
        rfl
      refine pure_ (i := 4) (N := some 16) (v := ?_) (a' := ?_) #[true, true, true, true, true, false, false, false, false, false, false, false] rfl rfl (any_of HT_.out (by kernel_rfl)) (fun _ _ _ h => h) (Or.inl ⟨by rfl, ?_⟩) ?_ ?_
      rotate_left
      · intro w'
        go_simp
        with_reducible rfl
      rotate_left
      · simp only [Act.put, List.setIfInBounds_toArray, List.set_cons_zero, List.set_cons_succ, i64_w, i32_w]
        rfl
      refine take_ (i := 5) (N := some 17) (v := ?_) (a' := ?_) #[true, true, true, true, true, true, false, false, false, false, false, false] rfl rfl (take_ofW HT_.out HW_.out (by kernel_rfl)) (fun _ _ _ h => h) (Or.inl ⟨by rfl, ?_⟩) hHeld ?_ ?_
      rotate_left
      · rintro w' ⟨s0, s1, s2, s3⟩
        go_simp
        with_reducible rfl
      rotate_left
      · simp only [Act.put, List.setIfInBounds_toArray, List.set_cons_zero, List.set_cons_succ, i64_w, i32_w]
        rfl
      refine pure_ (i := 6) (N := some 18) (v := ?_) (a' := ?_) #[true, true, true, true, true, true, true, false, false, false, false, false] rfl rfl (any_of HT_.out (by kernel_rfl)) (fun _ _ _ h => h) (Or.inl ⟨by rfl, ?_⟩) ?_ ?_
      rotate_left
      · intro w'
        go_simp
        with_reducible rfl
      rotate_left
      · simp only [Act.put, List.setIfInBounds_toArray, List.set_cons_zero, List.set_cons_succ, i64_w, i32_w]
        rfl
      refine pure_ (i := 7) (N := some 19) (v := ?_) (a' := ?_) #[true, true, true, true, true, true, true, true, false, false, false, false] rfl rfl (any_of HT_.out (by kernel_rfl)) (fun _ _ _ h => h) (Or.inl ⟨by rfl, ?_⟩) ?_ ?_
      rotate_left
      · intro w'
        go_simp
        with_reducible rfl
      rotate_left
      · simp only [Act.put, List.setIfInBounds_toArray, List.set_cons_zero, List.set_cons_succ, i64_w, i32_w]
        rfl
      refine pure_ (i := 8) (N := some 20) (v := ?_) (a' := ?_) #[true, true, true, true, true, true, true, true, true, false, false, false] rfl rfl (any_of HT_.out (by kernel_rfl)) (fun _ _ _ h => h) (Or.inl ⟨by rfl, ?_⟩) ?_ ?_
      rotate_left
      · intro w'
        go_simp
        with_reducible rfl
      rotate_left
      · simp only [Act.put, List.setIfInBounds_toArray, List.set_cons_zero, List.set_cons_succ, i64_w, i32_w]
        rfl
      refine take_ (i := 9) (N := some 21) (v := ?_) (a' := ?_) #[true, true, true, true, true, true, true, true, true, true, false, false] rfl rfl (take_ofW HT_.out HW_.out (by kernel_rfl)) (fun _ _ _ h => h) (Or.inl ⟨by rfl, ?_⟩) hHeld ?_ ?_
      rotate_left
      · rintro w' ⟨s0, s1, s2, s3⟩
        go_simp
        with_reducible rfl
      rotate_left
      · simp only [Act.put, List.setIfInBounds_toArray, List.set_cons_zero, List.set_cons_succ, i64_w, i32_w]
        rfl
      refine one_ (i := 10) (N := some 22) #[true, true, true, true, true, true, true, true, true, true, true, false] rfl rfl (one_of HT_.out (by kernel_rfl)) (by decide) (fun K hK => ?_)
      refine goesV_ Try.func17 (by kernel_rfl) rfl #[.agg #[.string a.f0, .string a.f1], .agg #[.string b.f0, .string b.f1]] (by rfl) rfl rfl rfl (by (try simp only [List.map_toArray, List.map_cons, List.map_nil]); first | done | rfl) ?_
      refine (bucket_Less.calls 3 a.f0 a.f1 b.f0 b.f1 (lessT a b) V0 (less_is 0 a b)).mono ?_
      rintro ex V1 ⟨rfl, hb⟩
      refine ⟨_, rfl, ?_⟩
      have n_HX0 := Aside0.mk ((hb.cell (World.block_lt_of_cell? _ _ HX0.out)).trans HX0.out)
      have n_HX1 := Aside0.mk ((hb.cell (World.block_lt_of_cell? _ _ HX1.out)).trans HX1.out)
      have n_HY0 := Aside0.mk ((hb.cell (World.block_lt_of_cell? _ _ HY0.out)).trans HY0.out)
      have n_HY1 := Aside0.mk ((hb.cell (World.block_lt_of_cell? _ _ HY1.out)).trans HY1.out)
      clear HX0 HX1 HY0 HY1
      have HX0 := n_HX0
      have HX1 := n_HX1
      have HY0 := n_HY0
      have HY1 := n_HY1
      clear n_HX0 n_HX1 n_HY0 n_HY1
      have n_HC := Aside0.mk (Kd.C_below HC.out hb)
      have n_HB := Aside0.mk (below_step HB.out hb)
      clear HC HB
      have HC := n_HC
      have HB := n_HB
      clear n_HC n_HB
      clear hb
      refine hK.out _ _ ⟨HX0.out, HX1.out, HY0.out, HY1.out⟩ (fun hHeld => ?_)
      clear hK K
      refine norm_ (a' := ?_) ?_ ?_
      rotate_left
      · show Act.put _ (some 22) _ = _
        simp only [Act.put, List.setIfInBounds_toArray, List.set_cons_zero, List.set_cons_succ, i64_w, i32_w]
        rfl
      refine pure_ (i := 11) (N := some 23) (v := ?_) (a' := ?_) #[true, true, true, true, true, true, true, true, true, true, true, true] rfl rfl (any_of HT_.out (by kernel_rfl)) (fun _ _ _ h => h) (Or.inl ⟨by rfl, ?_⟩) ?_ ?_
      rotate_left
      · intro w'
        go_simp
        with_reducible rfl
      rotate_left
      · simp only [Act.put, List.setIfInBounds_toArray, List.set_cons_zero, List.set_cons_succ, i64_w, i32_w]
        rfl
      refine done_ (done_of HT_.out (by kernel_rfl)) ?_
      clear hHeld HT_ HW_ HX0 HX1 HY0 HY1 hw p0 p1 p2 p3 p4 p5
      by_cases he : lessT a b = true
      · have hd := HD.out
        rw [he, Bool.true_and] at hd
        have HD2 := Aside0.mk hd
        rw [he]
        clear hd he
        go_wp2_with fail
        have h1 := HLT.out
        have h2 := HLL.out
        have h3 := HJ1.out
        rw [add1 (by omega)]
        exact ⟨⟨j + 1, by omega, by omega, rfl, by rw [show j + 1 - 1 = j by omega]; exact HD2.out, HB.out⟩, by simp [intOf]; omega⟩
      · have hd := HD.out
        rw [Bool.eq_false_iff.mpr he, Bool.false_and] at hd
        have HD2 := Aside0.mk hd
        rw [Bool.eq_false_iff.mpr he]
        clear hd he
        go_wp2_with fail
        go_ret
        exact ⟨by rw [← HD2.out]; rfl, HB.out⟩
    · have b1 : decide ((j : Int) < (l.length : Int)) = false := decide_eq_false (by omega)
      have b1n : decide (j < l.length) = false := decide_eq_false hlt
      have hd := HF.out
      have ht : r = true := by
        rw [← hd]
        have hlen : (l.drop (j - 1)).length ≤ 1 := by rw [List.length_drop]; omega
        generalize l.drop (j - 1) = q at hlen
        match q, hlen with
        | [], _ => rfl
        | [_], _ => rfl
      subst ht
      clear hlt hd hj1 hj2
      go_wp2
      go_ret
      exact ⟨rfl, HB.out⟩
set_option maxHeartbeats 8000000 in
set_option maxRecDepth 100000 in
theorem bucket_Check (d n : Int) (l : List S27) (A : Option Addr) (c : Nat) (w : World) (hC : Kd.C k27 w A l.length l) (hc : l.length ≤ c) (hl : FewP l) :
    Calls Try.prog 10 #[.agg #[.int .i64 d, .int .i64 n, .slice A l.length c]] w fun e w' => e = .returned (.int .i64 (checkT d n l)) ∧ Below w.heap.size w w' := by
  have HC := Aside0.mk hC
  have HCc := Aside0.mk hc
  have HLL := Aside0.mk hl
  clear hC hc hl
  obtain ⟨r, hr⟩ : ∃ r, checkT d n l = r := ⟨_, rfl⟩
  rw [hr]
  unfold checkT at hr
  have HT := Aside0.mk hr
  clear hr
  go_enter Try.func10, Try.ntmps10
  go_upto_region 1 with fail
  obtain ⟨g, hg⟩ : ∃ g, g = w.heap.size := ⟨_, rfl⟩
  have hW := below_alloc (Below.refl w.heap.size w) (Obj.cells #[Value.int IntKind.i64 d, Value.int IntKind.i64 n, Value.slice A l.length c] 25)
  have hN := blk_new w (Obj.cells #[Value.int IntKind.i64 d, Value.int IntKind.i64 n, Value.slice A l.length c] 25)
  rw [← hg] at hN ⊢
  generalize w.alloc (Obj.cells #[Value.int IntKind.i64 d, Value.int IntKind.i64 n, Value.slice A l.length c] 25) = W1 at hW hN ⊢
  have HB := Aside0.mk hW
  have HK := Aside0.mk hN
  clear hW hN hg
  have k0 := blk_cell HK.out 0
  have k1 := blk_cell HK.out 1
  by_cases h1 : d < 0
  · have ht := HT.out
    rw [if_pos (.inl h1)] at ht
    have HT2 := Aside0.mk ht
    have b0 : decide (d < 0) = true := decide_eq_true h1
    clear ht h1
    go_wp2_with fail
    go_ret
    exact ⟨by rw [← HT2.out]; rfl, HB.out⟩
  have b0 : decide (d < 0) = false := decide_eq_false h1
  by_cases h2 : 10 < d
  · have ht := HT.out
    rw [if_pos (.inr (.inl h2))] at ht
    have HT2 := Aside0.mk ht
    have b1 : decide (10 < d) = true := decide_eq_true h2
    clear ht h2
    go_wp2_with fail
    go_ret
    exact ⟨by rw [← HT2.out]; rfl, HB.out⟩
  have b1 : decide (10 < d) = false := decide_eq_false h2
  by_cases h3 : n < 0
  · have ht := HT.out
    rw [if_pos (.inr (.inr (.inl h3)))] at ht
    have HT2 := Aside0.mk ht
    have b2 : decide (n < 0) = true := decide_eq_true h3
    clear ht h3
    go_wp2_with fail
    go_ret
    exact ⟨by rw [← HT2.out]; rfl, HB.out⟩
  have b2 : decide (n < 0) = false := decide_eq_false h3
  by_cases h4 : 3000 < n
  · have ht := HT.out
    rw [if_pos (.inr (.inr (.inr h4)))] at ht
    have HT2 := Aside0.mk ht
    have b3 : decide (3000 < n) = true := decide_eq_true h4
    clear ht h4
    go_wp2_with fail
    go_ret
    exact ⟨by rw [← HT2.out]; rfl, HB.out⟩
  have b3 : decide (3000 < n) = false := decide_eq_false h4
  have ht := HT.out
  rw [if_neg (fun h => h.elim h1 (fun h => h.elim h2 (fun h => h.elim h3 h4)))] at ht
  clear HT
  have HT := Aside0.mk ht
  clear ht h1 h2 h3 h4
  have k2 := blk_cell HK.out 2
  go_wp2_with fail
  go_at_call 33
  refine (anylong_calls l A c W1 (Kd.C_below HC.out HB.out)).mono ?_
  clear k0 k1 k2 b0 b1 b2 b3
  rintro ex W2 ⟨rfl, hb⟩
  have nB := Aside0.mk (below_step HB.out hb)
  have nK := Aside0.mk (blk_below HK.out hb)
  clear hb HB HK
  have HB := nB
  have HK := nK
  clear nB nK
  by_cases h5 : l.any longT = true
  · have ht := HT.out
    rw [if_pos h5] at ht
    have HT2 := Aside0.mk ht
    rw [h5]
    clear ht h5
    go_wp2_with fail
    go_ret
    exact ⟨by rw [← HT2.out]; rfl, HB.out⟩
  have ht := HT.out
  rw [if_neg h5] at ht
  clear HT
  have HT := Aside0.mk ht
  rw [Bool.eq_false_iff.mpr h5]
  clear ht h5
  have k0 := blk_cell HK.out 0
  have k1 := blk_cell HK.out 1
  have k2 := blk_cell HK.out 2
  go_wp2_with fail
  go_at_call 13
  refine (bucket_Size.calls 1001 d n A c l (sizeN l) W2 (Kd.C_below HC.out HB.out) HCc.out (size_is d n l HLL.out)).mono ?_
  clear k0 k1 k2
  rintro ex W3 ⟨rfl, hb⟩
  have nB := Aside0.mk (below_step HB.out hb)
  have nK := Aside0.mk (blk_below HK.out hb)
  clear hb HB HK
  have HB := nB
  have HK := nK
  clear nB nK
  by_cases h6 : 246 < sizeN l
  · have ht := HT.out
    rw [if_pos h6] at ht
    have HT2 := Aside0.mk ht
    have b0 : decide ((246 : Int) < (sizeN l : Int)) = true := decide_eq_true (by omega)
    have b1 : decide (246 < sizeN l) = true := decide_eq_true (by omega)
    clear ht h6
    go_wp2_with fail
    go_ret
    exact ⟨by rw [← HT2.out]; rfl, HB.out⟩
  have ht := HT.out
  rw [if_neg h6] at ht
  clear HT
  have HT := Aside0.mk ht
  have b0 : decide ((246 : Int) < (sizeN l : Int)) = false := decide_eq_false (by omega)
  have b1 : decide (246 < sizeN l) = false := decide_eq_false (by omega)
  clear ht h6
  have k2 := blk_cell HK.out 2
  go_wp2_with fail
  go_at_call 35
  refine (every_calls l A c W3 (Kd.C_below HC.out HB.out) HLL.out.1).mono ?_
  clear k2 b0 b1
  rintro ex W4 ⟨rfl, hb⟩
  have nB := Aside0.mk (below_step HB.out hb)
  clear hb HB HK
  have HB := nB
  clear nB
  by_cases h7 : risesT l = true
  · have ht := HT.out
    rw [if_pos h7] at ht
    have HT2 := Aside0.mk ht
    rw [h7]
    clear ht h7
    go_wp2_with fail
    go_ret
    exact ⟨by rw [← HT2.out]; rfl, HB.out⟩
  · have ht := HT.out
    rw [if_neg h7] at ht
    have HT2 := Aside0.mk ht
    rw [Bool.eq_false_iff.mpr h7]
    clear ht h7
    go_wp2_with fail
    go_ret
    exact ⟨by rw [← HT2.out]; rfl, HB.out⟩
/-- What slices.Clone tells of pairs. -/
def pairs_Clone.f (l0 : List S27) : Option (List S27) := if l0.length < 4398046511104 then some l0 else none
set_option maxHeartbeats 2000000 in
set_option maxRecDepth 100000 in
theorem pairs_Clone.calls (A0 : Option Addr) (c0 : Nat) (l0 : List S27) (r : List S27) (w : World) (hr0 : Kd.C k27 w A0 l0.length l0) (hc0 : l0.length ≤ c0) (h : pairs_Clone.f l0 = some r) :
    Calls Try.prog 31 #[.slice A0 l0.length c0] w fun e w' => ∃ v0_ : Value, e = .returned (v0_) ∧ Kd.R k27 27 w' w.heap.size (fun _ => True) v0_ r ∧ Below w.heap.size w w' := by
  unfold pairs_Clone.f at h
  by_cases hl : l0.length < 4398046511104
  · rw [if_pos hl] at h
    obtain rfl := Option.some.inj h
    clear h
    have HR0 := Aside0.mk hr0
    have HC0 := Aside0.mk hc0
    have HL := Aside0.mk hl
    clear hc0 hl
    cases A0 with
    | none =>
      have hn : l0 = [] := by
        rcases Nat.eq_zero_or_pos l0.length with h0 | h0
        · exact List.eq_nil_of_length_eq_zero h0
        · obtain ⟨ad, e, _⟩ := hr0.2.2 h0
          cases e
      subst hn
      clear hr0
      have q := fun (W : World) => Lib.run_eql_slice_nil (P := Try.prog) W 22 27 none ([] : List S27).length c0 0 0 Try.underlying22
      simp only [List.length_nil] at q ⊢
      go_enter Try.func31, Try.ntmps31
      go_wp2
      go_ret
      exact ⟨_, rfl, Kd.R_nil _ _ _ _ _, Below.refl _ _⟩
    | some ad =>
      clear hr0
      have q := fun (W : World) => Lib.run_eql_slice_nil (P := Try.prog) W 22 27 (some ad) l0.length c0 0 0 Try.underlying22
      have HB := Aside0.mk (Below.refl w.heap.size w)
      go_enter Try.func31, Try.ntmps31
      go_wp2_with (first | ((with_reducible refine gate_dst (N := 5) rfl ?_); refine Kd.R_lit k27 _ 27 ?hg (N := 5) ?hd (xs := ([] : List S27)) (inner := []) (ok := fun _ => True) (okp := fun _ => True) ?hr ?hp (fun _ hk => hk) trivial (Below.refl _ _) (Nat.le_refl _) (by simp) ?_; (case hd => rfl); (case hg => rfl); (case hr => first | (go_simp; done) | (go_simp; rfl)); (case hp => exact (Reps.none _ _)); intro v112 w5 ho6 hb hg_ hnew_; clear hg_ hnew_; have HO := Aside0.mk (Kd.R_lower ho6 (below_size HB.out)); have n1_ := Aside0.mk (below_step HB.out hb); clear HB; have HB := n1_; clear n1_; clear hb ho6) | ((with_reducible refine gate_builtin (b := .append) (xs := #[.tmp 5, .tmp 6]) rfl ?_); at_builtin; refine Kd.R_append_rows k27 (w0 := w) w.heap.size rfl (.tmp 5) (.tmp 6) 22 27 (.agg #[.string ⟨#[]⟩, .string ⟨#[]⟩]) 32 rfl Try.underlying22 info27 rfl (by decide) (by omega) v112 ([] : List S27) l0 _ _ _ (fun _ => True) (fun _ => False) rfl rfl ?aO ?aR (fun _ _ h => h) (fun _ h => h.elim) ?aF ?aB ?aS ?aL ?_; (case aR => exact (Kd.C_below HR0.out HB.out)); (case aB => exact HB.out); (case aF => exact (fun _ _ => trivial)); (case aO => exact HO.out); (case aS => exact (below_size HB.out)); (case aL => have := HL.out; simp only [List.length_nil]; omega); intro v115 w7 ho hb hg hat; have n0_ := Aside0.mk (hb); have n1_ := Aside0.mk (ho); clear HB; clear HO; have HB := n0_; have HO := n1_; clear n0_ n1_; clear ho hb hg hat))
      go_ret
      exact ⟨_, rfl, by have := HO.out; rwa [List.nil_append] at this, HB.out⟩
  · rw [if_neg hl] at h
    cases h
end Go.Proofs.Ytgbjinonlfhciaa.MBk
