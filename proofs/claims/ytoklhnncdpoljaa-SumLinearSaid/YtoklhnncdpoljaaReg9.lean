/- The last region of SumLinear, whose order is drawn: walked once, by an invariant. -/
import Derived.Test.YtoklhnncdpoljaaMSumLinearx1
import Derived.Test.YtoklhnncdpoljaaRegInv
namespace Go.Proofs.Ytoklhnncdpoljaa.Reg
open Go.RowKit Go.Proofs.Ytoklhnncdpoljaa.Hand Go.Proofs.Ytoklhnncdpoljaa.MSumLinear Go.Proofs.YtoklhnncdpoljaaW.PrintWords Go.Proofs.YtoklhnncdpoljaaW.PrintLast Go.Proofs.YtoklhnncdpoljaaW.PrintMore
open Go.Proofs.Ytoklhnncdpoljaa.RegInv
set_option linter.unusedVariables false
/-- What is asked of an operation: where its value goes, what it is, its guard, and what it waits for. -/
def sig (o : Oper) : Option Tmp × Op × Option (Nat × Bool) × List Nat := (o.dst, o.op, o.guard, (o.after.toList.filter fun e => Region.binds .any e).map (·.on))
def sigs : List (Option Tmp × Op × Option (Nat × Bool) × List Nat) := [
  (some 38, .move (.tmp 6), none, []),
  (some 39, .buildSlice 48 1 #[(0, .tmp 38)], none, [0]),
  (some 40, .call { callee := .value (.func 20), args := #[.tmp 39], argTypes := #[48] }, none, [1]),
  (some 41, .move (.tmp 0), none, []),
  (some 42, .move (.tmp 5), none, []),
  (some 43, .slice 29 (.tmp 41) none (some (.tmp 42)) none, none, [3, 4]),
  (some 44, .buildSlice 48 1 #[(0, .tmp 43)], none, [5]),
  (some 45, .call { callee := .value (.func 20), args := #[.tmp 44], argTypes := #[48] }, none, [6, 2]),
  (some 46, .move (.tmp 1), none, []),
  (some 47, .move (.tmp 5), none, []),
  (some 48, .slice 29 (.tmp 46) none (some (.tmp 47)) none, none, [8, 9]),
  (some 49, .buildSlice 48 1 #[(0, .tmp 48)], none, [10]),
  (some 50, .call { callee := .value (.func 20), args := #[.tmp 49], argTypes := #[48] }, none, [11, 7]),
  (some 51, .binOp .xor 23 (.tmp 45) (.tmp 50) 23, none, [7, 12]),
  (some 52, .move (.tmp 7), none, []),
  (some 53, .buildSlice 48 1 #[(0, .tmp 52)], none, [14]),
  (some 54, .call { callee := .value (.func 20), args := #[.tmp 53], argTypes := #[48] }, none, [15, 12]),
  (some 55, .binOp .xor 23 (.tmp 51) (.tmp 54) 23, none, [13, 16]),
  (some 56, .binOp .eql 23 (.tmp 40) (.tmp 55) 23, none, [2, 17]),
  (some 57, .move (.tmp 56), none, [18, 16]),
  (some 58, .call { callee := .value (.func 18), args := #[], argTypes := #[] }, some (19, true), [19, 19]),
  (some 59, .pick (.tmp 57) (.tmp 58) (.const (.bool false)), none, [19, 20]),
  (some 4, .assign (.tmp 59), none, [21, 20, 0, 1, 2, 3, 4, 5, 6, 7, 8, 9, 10, 11, 12, 13, 14, 15, 16, 17, 18, 19, 20, 21])]
theorem sigs_are : ((opsOf Try.f10 9).map sig).toList = sigs := by kernel_rfl
theorem ex_move (a : Act) (o : Oper) (x : Nat) (w : World) (v : Value) (h : o.op = .move (.tmp x)) (hv : a.tmps[x]? = some v) : (execOp a.eval o).run Try.prog w = .ok (.value v) w := by
  unfold execOp
  rw [h]
  go_simp
theorem ex_assign (a : Act) (o : Oper) (x : Nat) (w : World) (v : Value) (h : o.op = .assign (.tmp x)) (hv : a.tmps[x]? = some v) : (execOp a.eval o).run Try.prog w = .ok (.value v) w := by
  unfold execOp
  rw [h]
  go_simp
theorem ex_build (a : Act) (o : Oper) (t : Nat) (w : World) (A : Option Addr) (n c : Nat) (h : o.op = .buildSlice 48 1 #[(0, .tmp t)]) (hv : a.tmps[t]? = some (.slice A n c)) : (execOp a.eval o).run Try.prog w = .ok (.value (.slice (some ⟨w.heap.size, 0, none⟩) 1 1)) (w.alloc (.cells #[.slice A n c] 29)) := by
  unfold execOp
  rw [h]
  go_simp
theorem ex_xor (a : Act) (o : Oper) (x y : Nat) (w : World) (p q : Int) (h : o.op = .binOp .xor 23 (.tmp x) (.tmp y) 23) (hx : a.tmps[x]? = some (.int .u32 p)) (hy : a.tmps[y]? = some (.int .u32 q)) : (execOp a.eval o).run Try.prog w = .ok (.value (.int .u32 (Go.bits .xor .u32 p q))) w := by
  unfold execOp
  rw [h]
  go_simp
theorem ex_eql (a : Act) (o : Oper) (x y : Nat) (w : World) (p q : Int) (h : o.op = .binOp .eql 23 (.tmp x) (.tmp y) 23) (hx : a.tmps[x]? = some (.int .u32 p)) (hy : a.tmps[y]? = some (.int .u32 q)) : (execOp a.eval o).run Try.prog w = .ok (.value (.bool (p == q))) w := by
  unfold execOp
  rw [h]
  go_simp
theorem ex_call (a : Act) (o : Oper) (x : Nat) (w : World) (v : Value) (h : o.op = .call { callee := .value (.func 20), args := #[.tmp x], argTypes := #[48] }) (hx : a.tmps[x]? = some v) : (execOp a.eval o).run Try.prog w = .ok (.enter 20 #[v]) w := by
  unfold execOp
  rw [h]
  go_simp
theorem ex_call0 (a : Act) (o : Oper) (w : World) (h : o.op = .call { callee := .value (.func 18), args := #[], argTypes := #[] }) : (execOp a.eval o).run Try.prog w = .ok (.enter 18 #[]) w := by
  unfold execOp
  rw [h]
  go_simp
theorem ex_slice (a : Act) (o : Oper) (x y : Nat) (w : World) (A : Option Addr) (n c : Nat) (j : Int) (h : o.op = .slice 29 (.tmp x) none (some (.tmp y)) none) (hx : a.tmps[x]? = some (.slice A n c)) (hy : a.tmps[y]? = some (.int .i64 j)) (h0 : 0 ≤ j) (hm : j ≤ n) (hc : n ≤ c) : (execOp a.eval o).run Try.prog w = .ok (.value (.slice A j.toNat c)) w := by
  obtain ⟨i, hi, _, hsz, _⟩ := info_parts info5
  have hcut := cut_to (P := Try.prog) 29 5 .i64 Try.underlying29 hi A n c j h0 hm hc
  unfold execOp
  rw [h]
  go_simp
theorem ex_pick (a : Act) (o : Oper) (x y : Nat) (w : World) (b : Bool) (v : Value) (h : o.op = .pick (.tmp x) (.tmp y) (.const (.bool false))) (hx : a.tmps[x]? = some (.bool b)) (hy : a.tmps[y]? = some v) : (execOp a.eval o).run Try.prog w = .ok (.value (if b = true then v else .bool false)) w := by
  unfold execOp
  rw [h]
  go_simp

/-- Where operation j's value goes. -/
def D (j : Nat) : Nat := if j = 22 then 4 else 38 + j
theorem D_ne (i j : Nat) (hi : i < 23) (hj : j < 23) (h : i ≠ j) : D i ≠ D j := by unfold D; split <;> split <;> omega
theorem D_lt (i : Nat) (hi : i < 23) : D i < 60 := by unfold D; split <;> omega
theorem D_fix (i t : Nat) (ht : t < 38) (h4 : t ≠ 4) : D i ≠ t := by unfold D; split <;> omega
/-- What one slice of one row is. -/
def One (w : World) (x : List Int) (v : Value) : Prop := ∃ p c, v = .slice p 1 c ∧ 1 ≤ c ∧ Kd.C (Kd.slice 5 (Kd.int .u8)) w p 1 [x]
/-- What operation j leaves. -/
def V (X A B Z : Option Addr × Nat) (x a b z : List Int) (la lb : Nat) (n : Int) (s1 s2 s3 s4 : Int) (aw : Bool) (w : World) : Nat → Value → Prop
  | 0, v => v = .slice X.1 x.length X.2
  | 1, v => One w x v
  | 2, v => v = .int .u32 s1
  | 3, v => v = .slice A.1 la A.2
  | 4, v => v = .int .i64 n
  | 5, v => v = .slice A.1 a.length A.2
  | 6, v => One w a v
  | 7, v => v = .int .u32 s2
  | 8, v => v = .slice B.1 lb B.2
  | 9, v => v = .int .i64 n
  | 10, v => v = .slice B.1 b.length B.2
  | 11, v => One w b v
  | 12, v => v = .int .u32 s3
  | 13, v => v = .int .u32 (Go.bits .xor .u32 s2 s3)
  | 14, v => v = .slice Z.1 z.length Z.2
  | 15, v => One w z v
  | 16, v => v = .int .u32 s4
  | 17, v => v = .int .u32 (Go.bits .xor .u32 (Go.bits .xor .u32 s2 s3) s4)
  | 18, v => v = .bool (s1 == Go.bits .xor .u32 (Go.bits .xor .u32 s2 s3) s4)
  | 19, v => v = .bool (s1 == Go.bits .xor .u32 (Go.bits .xor .u32 s2 s3) s4)
  | 20, v => (s1 == Go.bits .xor .u32 (Go.bits .xor .u32 s2 s3) s4) = true → v = .bool aw
  | 21, v => v = .bool ((s1 == Go.bits .xor .u32 (Go.bits .xor .u32 s2 s3) s4) && aw)
  | _, v => v = .bool ((s1 == Go.bits .xor .u32 (Go.bits .xor .u32 s2 s3) s4) && aw)
theorem One.later {w w' : World} {x : List Int} {v : Value} (h : One w x v) (hb : Below w.heap.size w w') : One w' x v := by
  obtain ⟨p, c, hv, hc, hC⟩ := h
  exact ⟨p, c, hv, hc, Kd.C_below hC hb⟩
theorem V.later {X A B Z : Option Addr × Nat} {x a b z : List Int} {la lb : Nat} {n s1 s2 s3 s4 : Int} {aw : Bool} {w w' : World} (hb : Below w.heap.size w w') : ∀ {j : Nat} {v : Value}, V X A B Z x a b z la lb n s1 s2 s3 s4 aw w j v → V X A B Z x a b z la lb n s1 s2 s3 s4 aw w' j v
  | 0, _, h => h
  | 1, _, h => One.later h hb
  | 2, _, h => h
  | 3, _, h => h
  | 4, _, h => h
  | 5, _, h => h
  | 6, _, h => One.later h hb
  | 7, _, h => h
  | 8, _, h => h
  | 9, _, h => h
  | 10, _, h => h
  | 11, _, h => One.later h hb
  | 12, _, h => h
  | 13, _, h => h
  | 14, _, h => h
  | 15, _, h => One.later h hb
  | 16, _, h => h
  | 17, _, h => h
  | 18, _, h => h
  | 19, _, h => h
  | 20, _, h => h
  | 21, _, h => h
  | _ + 22, _, h => h
/-- What stands while the region goes: the frame's other slots as they were, and of each operation that came up, its value. -/
structure Inv (ds : List Deferred) (W : World) (X A B Z : Option Addr × Nat) (x a b z : List Int) (la lb : Nat) (n s1 s2 s3 s4 : Int) (aw : Bool) (l : Array Bool) (f : Act) (w : World) : Prop where
  size : f.tmps.size = 60
  lsize : l.size = 23
  defers : f.defers = ds
  t0 : f.tmps[0]? = some (.slice A.1 la A.2)
  t1 : f.tmps[1]? = some (.slice B.1 lb B.2)
  t5 : f.tmps[5]? = some (.int .i64 n)
  t6 : f.tmps[6]? = some (.slice X.1 x.length X.2)
  t7 : f.tmps[7]? = some (.slice Z.1 z.length Z.2)
  below : Below W.heap.size W w
  done : ∀ j, j < 23 → l.getD j false = true → ∃ v, f.tmps[D j]? = some v ∧ V X A B Z x a b z la lb n s1 s2 s3 s4 aw w j v
theorem Inv.put {ds : List Deferred} {W : World} {X A B Z : Option Addr × Nat} {x a b z : List Int} {la lb : Nat} {n s1 s2 s3 s4 : Int} {aw : Bool} {l : Array Bool} {f : Act} {w : World}
    (h : Inv ds W X A B Z x a b z la lb n s1 s2 s3 s4 aw l f w) {i : Nat} (hi : i < 23) {v : Value} {w' : World} (hb : Below w.heap.size w w') (hv : V X A B Z x a b z la lb n s1 s2 s3 s4 aw w' i v) :
    Inv ds W X A B Z x a b z la lb n s1 s2 s3 s4 aw (l.setIfInBounds i true) (f.put (some (D i)) v) w' := by
  have hne : ∀ t, D i ≠ t → (f.put (some (D i)) v).tmps[t]? = f.tmps[t]? := fun t ht => by
    show (f.tmps.setIfInBounds (D i) v)[t]? = _
    exact Array.getElem?_setIfInBounds_ne ht
  refine ⟨?_, ?_, h.defers, ?_, ?_, ?_, ?_, ?_, below_then h.below h.below.size hb, ?_⟩
  · show (f.tmps.setIfInBounds (D i) v).size = 60
    rw [Array.size_setIfInBounds]; exact h.size
  · rw [Array.size_setIfInBounds]; exact h.lsize
  · rw [hne 0 (D_fix i 0 (by decide) (by decide))]; exact h.t0
  · rw [hne 1 (D_fix i 1 (by decide) (by decide))]; exact h.t1
  · rw [hne 5 (D_fix i 5 (by decide) (by decide))]; exact h.t5
  · rw [hne 6 (D_fix i 6 (by decide) (by decide))]; exact h.t6
  · rw [hne 7 (D_fix i 7 (by decide) (by decide))]; exact h.t7
  · intro j hj hd
    by_cases hij : i = j
    · subst hij
      refine ⟨v, ?_, hv⟩
      show (f.tmps.setIfInBounds (D i) v)[D i]? = some v
      rw [Array.getElem?_setIfInBounds_self_of_lt (by rw [h.size]; exact D_lt i hi)]
    · have hd' : l.getD j false = true := by
        rw [Array.getD_eq_getD_getElem?, Array.getElem?_setIfInBounds_ne hij, ← Array.getD_eq_getD_getElem?] at hd
        exact hd
      obtain ⟨u, hu, hV⟩ := h.done j hj hd'
      exact ⟨u, by rw [hne _ (D_ne i j hi hj hij)]; exact hu, V.later hb hV⟩

theorem st_val {ds : List Deferred} {W : World} {X A B Z : Option Addr × Nat} {x a b z : List Int} {la lb : Nat} {n s1 s2 s3 s4 : Int} {aw : Bool} {l : Array Bool} {f : Act} {w : World} {Q : Exit → Act → World → Prop} {i : Nat} {o : Oper} {v : Value} {w' : World} (ho : (opsOf Try.f10 9)[i]? = some o) (hg : o.guard = none) (hd : o.dst = some (D i)) (hI : Inv ds W X A B Z x a b z la lb n s1 s2 s3 s4 aw l f w) (hi : i < 23)
    (hrun : (execOp f.eval o).run Try.prog w = .ok (.value v) w') (hb : Below w.heap.size w w') (hv : V X A B Z x a b z la lb n s1 s2 s3 s4 aw w' i v) :
    wpOp Try.prog (opsOf Try.f10 9) Q i (Inv ds W X A B Z x a b z la lb n s1 s2 s3 s4 aw (l.setIfInBounds i true)) f w := by
  unfold wpOp
  rw [ho]
  have hw : Region.wanted o (yielded (opsOf Try.f10 9) f.tmps) = true := by unfold Region.wanted; rw [hg]
  simp only [hw, if_true]
  refine .inl ?_
  unfold Oper.wp
  rw [hrun]
  show Inv ds W X A B Z x a b z la lb n s1 s2 s3 s4 aw (l.setIfInBounds i true) (f.put o.dst v) w'
  rw [hd]
  exact hI.put hi hb hv
theorem st_call {ds : List Deferred} {W : World} {X A B Z : Option Addr × Nat} {x a b z : List Int} {la lb : Nat} {n s1 s2 s3 s4 : Int} {aw : Bool} {l : Array Bool} {f : Act} {w : World} {Q : Exit → Act → World → Prop} {i : Nat} {o : Oper} {g : FuncId} {args : Array Value} (ho : (opsOf Try.f10 9)[i]? = some o) (hw : Region.wanted o (yielded (opsOf Try.f10 9) f.tmps) = true) (hd : o.dst = some (D i)) (hI : Inv ds W X A B Z x a b z la lb n s1 s2 s3 s4 aw l f w) (hi : i < 23)
    (hrun : (execOp f.eval o).run Try.prog w = .ok (.enter g args) w) {v : Value} (hc : Calls Try.prog g args w fun e w' => e = .returned v ∧ Below w.heap.size w w') (hv : ∀ w', V X A B Z x a b z la lb n s1 s2 s3 s4 aw w' i v) :
    wpOp Try.prog (opsOf Try.f10 9) Q i (Inv ds W X A B Z x a b z la lb n s1 s2 s3 s4 aw (l.setIfInBounds i true)) f w := by
  unfold wpOp
  rw [ho]
  simp only [hw, if_true]
  refine .inl ?_
  unfold Oper.wp
  rw [hrun]
  refine Calls.mono hc ?_
  rintro e w' ⟨rfl, hb⟩
  show Inv ds W X A B Z x a b z la lb n s1 s2 s3 s4 aw (l.setIfInBounds i true) (f.put o.dst v) w'
  rw [hd]
  exact hI.put hi hb (hv w')
theorem st_skip {ds : List Deferred} {W : World} {X A B Z : Option Addr × Nat} {x a b z : List Int} {la lb : Nat} {n s1 s2 s3 s4 : Int} {aw : Bool} {l : Array Bool} {f : Act} {w : World} {Q : Exit → Act → World → Prop} {i : Nat} {o : Oper} (ho : (opsOf Try.f10 9)[i]? = some o) (hw : Region.wanted o (yielded (opsOf Try.f10 9) f.tmps) = false) (hd : o.dst = some (D i)) (hI : Inv ds W X A B Z x a b z la lb n s1 s2 s3 s4 aw l f w) (hi : i < 23)
    (hv : V X A B Z x a b z la lb n s1 s2 s3 s4 aw w i undef) :
    wpOp Try.prog (opsOf Try.f10 9) Q i (Inv ds W X A B Z x a b z la lb n s1 s2 s3 s4 aw (l.setIfInBounds i true)) f w := by
  unfold wpOp
  rw [ho]
  simp only [hw, Bool.false_eq_true, if_false]
  rw [hd]
  exact hI.put hi (Below.refl _ _) hv
theorem one_new (w : World) (A : Option Addr) (c : Nat) (x : List Int) (hx : Kd.C (Kd.int .u8) w A x.length x) (hc : x.length ≤ c) : One (w.alloc (.cells #[.slice A x.length c] 29)) x (.slice (some ⟨w.heap.size, 0, none⟩) 1 1) := by
  refine ⟨_, _, rfl, Nat.le_refl _, ⟨rfl, by decide, fun _ => ⟨⟨w.heap.size, 0, none⟩, rfl, ?_⟩⟩⟩
  intro j p hp
  match j, hp with
  | 0, hp =>
    obtain rfl := Option.some.inj hp
    refine ⟨[.slice A x.length c], rfl, ⟨_, _, rfl, hc, Kd.C_alloc hx _⟩, fun i u hu => ?_⟩
    have hi : i = 0 := by
      cases i with
      | zero => rfl
      | succ i => simp at hu
    subst hi
    rw [add_plain, cell_of_row _ _ _ _ _ _ (heap_alloc_new w _)]
    simpa using hu
theorem sig_at {i : Nat} {l : Array Bool} (h : i ∈ Region.ready .any (opsOf Try.f10 9) l) : ∃ o, (opsOf Try.f10 9)[i]? = some o ∧ sigs[i]? = some (sig o) ∧ ∀ j ∈ (sig o).2.2.2, l.getD j false = true := by
  obtain ⟨_, o, ho, hall⟩ := mem_ready.1 h
  refine ⟨o, ho, ?_, ?_⟩
  · rw [← sigs_are, Array.getElem?_toList, Array.getElem?_map, ho]; rfl
  · intro j hj
    obtain ⟨e, he, rfl⟩ := List.mem_map.mp hj
    have := List.mem_filter.mp he
    exact hall e (by simpa using this.1) (by simpa using this.2)
structure Given (k : Nat) (W : World) (X A B Z : Option Addr × Nat) (x a b z : List Int) (la lb : Nat) (n s1 s2 s3 s4 : Int) (aw : Bool) : Prop where
  n0 : 0 ≤ n
  na : n ≤ la
  nb : n ≤ lb
  ca : la ≤ A.2
  cb : lb ≤ B.2
  an : a.length = n.toNat
  bn : b.length = n.toNat
  xc : x.length ≤ X.2
  zc : z.length ≤ Z.2
  hx : Kd.C (Kd.int .u8) W X.1 x.length x
  ha : Kd.C (Kd.int .u8) W A.1 a.length a
  hb : Kd.C (Kd.int .u8) W B.1 b.length b
  hz : Kd.C (Kd.int .u8) W Z.1 z.length z
  f1 : sum_Of.f k [x] = some s1
  f2 : sum_Of.f k [a] = some s2
  f3 : sum_Of.f k [b] = some s3
  f4 : sum_Of.f k [z] = some s4
  faw : intarsialaw02_awake.f = some aw
theorem step0 {ds : List Deferred} {W : World} {X A B Z : Option Addr × Nat} {x a b z : List Int} {la lb : Nat} {n s1 s2 s3 s4 : Int} {aw : Bool} {l : Array Bool} {f : Act} {w : World} {Q : Exit → Act → World → Prop} {k : Nat} (hG : Given k W X A B Z x a b z la lb n s1 s2 s3 s4 aw) (hI : Inv ds W X A B Z x a b z la lb n s1 s2 s3 s4 aw l f w) (hi : 0 ∈ Region.ready .any (opsOf Try.f10 9) l) : wpOp Try.prog (opsOf Try.f10 9) Q 0 (Inv ds W X A B Z x a b z la lb n s1 s2 s3 s4 aw (l.setIfInBounds 0 true)) f w := by
  obtain ⟨o, ho, hs, hdep⟩ := sig_at hi
  have hs := Option.some.inj hs
  have hd : o.dst = some (D 0) := (congrArg (·.1) hs).symm
  have hop := (congrArg (·.2.1) hs).symm
  have hg : o.guard = none := (congrArg (·.2.2.1) hs).symm
  rw [← hs] at hdep
  dsimp only at hop hdep
  exact st_val ho hg hd hI (by decide) (ex_move f o _ w _ hop hI.t6) (Below.refl _ _) rfl
theorem step1 {ds : List Deferred} {W : World} {X A B Z : Option Addr × Nat} {x a b z : List Int} {la lb : Nat} {n s1 s2 s3 s4 : Int} {aw : Bool} {l : Array Bool} {f : Act} {w : World} {Q : Exit → Act → World → Prop} {k : Nat} (hG : Given k W X A B Z x a b z la lb n s1 s2 s3 s4 aw) (hI : Inv ds W X A B Z x a b z la lb n s1 s2 s3 s4 aw l f w) (hi : 1 ∈ Region.ready .any (opsOf Try.f10 9) l) : wpOp Try.prog (opsOf Try.f10 9) Q 1 (Inv ds W X A B Z x a b z la lb n s1 s2 s3 s4 aw (l.setIfInBounds 1 true)) f w := by
  obtain ⟨o, ho, hs, hdep⟩ := sig_at hi
  have hs := Option.some.inj hs
  have hd : o.dst = some (D 1) := (congrArg (·.1) hs).symm
  have hop := (congrArg (·.2.1) hs).symm
  have hg : o.guard = none := (congrArg (·.2.2.1) hs).symm
  rw [← hs] at hdep
  dsimp only at hop hdep
  obtain ⟨vp, tp, hvp⟩ := hI.done 0 (by decide) (hdep 0 (by decide))
  obtain rfl : vp = _ := hvp
  exact st_val ho hg hd hI (by decide) (ex_build f o _ w _ _ _ hop tp) (below_alloc (Below.refl _ _) _) (one_new w _ _ _ (Kd.C_below hG.hx hI.below) hG.xc)
theorem step2 {ds : List Deferred} {W : World} {X A B Z : Option Addr × Nat} {x a b z : List Int} {la lb : Nat} {n s1 s2 s3 s4 : Int} {aw : Bool} {l : Array Bool} {f : Act} {w : World} {Q : Exit → Act → World → Prop} {k : Nat} (hG : Given k W X A B Z x a b z la lb n s1 s2 s3 s4 aw) (hI : Inv ds W X A B Z x a b z la lb n s1 s2 s3 s4 aw l f w) (hi : 2 ∈ Region.ready .any (opsOf Try.f10 9) l) : wpOp Try.prog (opsOf Try.f10 9) Q 2 (Inv ds W X A B Z x a b z la lb n s1 s2 s3 s4 aw (l.setIfInBounds 2 true)) f w := by
  obtain ⟨o, ho, hs, hdep⟩ := sig_at hi
  have hs := Option.some.inj hs
  have hd : o.dst = some (D 2) := (congrArg (·.1) hs).symm
  have hop := (congrArg (·.2.1) hs).symm
  have hg : o.guard = none := (congrArg (·.2.2.1) hs).symm
  rw [← hs] at hdep
  dsimp only at hop hdep
  obtain ⟨vp, tp, hvp⟩ := hI.done 1 (by decide) (hdep 1 (by decide))
  obtain ⟨p, c, rfl, hc, hC⟩ := (show One w x vp from hvp)
  exact st_call ho (by unfold Region.wanted; rw [hg]) hd hI (by decide) (ex_call f o _ w _ hop tp) (sum_Of.calls k _ _ [x] s1 w hC hc hG.f1) (fun _ => rfl)
theorem step3 {ds : List Deferred} {W : World} {X A B Z : Option Addr × Nat} {x a b z : List Int} {la lb : Nat} {n s1 s2 s3 s4 : Int} {aw : Bool} {l : Array Bool} {f : Act} {w : World} {Q : Exit → Act → World → Prop} {k : Nat} (hG : Given k W X A B Z x a b z la lb n s1 s2 s3 s4 aw) (hI : Inv ds W X A B Z x a b z la lb n s1 s2 s3 s4 aw l f w) (hi : 3 ∈ Region.ready .any (opsOf Try.f10 9) l) : wpOp Try.prog (opsOf Try.f10 9) Q 3 (Inv ds W X A B Z x a b z la lb n s1 s2 s3 s4 aw (l.setIfInBounds 3 true)) f w := by
  obtain ⟨o, ho, hs, hdep⟩ := sig_at hi
  have hs := Option.some.inj hs
  have hd : o.dst = some (D 3) := (congrArg (·.1) hs).symm
  have hop := (congrArg (·.2.1) hs).symm
  have hg : o.guard = none := (congrArg (·.2.2.1) hs).symm
  rw [← hs] at hdep
  dsimp only at hop hdep
  exact st_val ho hg hd hI (by decide) (ex_move f o _ w _ hop hI.t0) (Below.refl _ _) rfl
theorem step4 {ds : List Deferred} {W : World} {X A B Z : Option Addr × Nat} {x a b z : List Int} {la lb : Nat} {n s1 s2 s3 s4 : Int} {aw : Bool} {l : Array Bool} {f : Act} {w : World} {Q : Exit → Act → World → Prop} {k : Nat} (hG : Given k W X A B Z x a b z la lb n s1 s2 s3 s4 aw) (hI : Inv ds W X A B Z x a b z la lb n s1 s2 s3 s4 aw l f w) (hi : 4 ∈ Region.ready .any (opsOf Try.f10 9) l) : wpOp Try.prog (opsOf Try.f10 9) Q 4 (Inv ds W X A B Z x a b z la lb n s1 s2 s3 s4 aw (l.setIfInBounds 4 true)) f w := by
  obtain ⟨o, ho, hs, hdep⟩ := sig_at hi
  have hs := Option.some.inj hs
  have hd : o.dst = some (D 4) := (congrArg (·.1) hs).symm
  have hop := (congrArg (·.2.1) hs).symm
  have hg : o.guard = none := (congrArg (·.2.2.1) hs).symm
  rw [← hs] at hdep
  dsimp only at hop hdep
  exact st_val ho hg hd hI (by decide) (ex_move f o _ w _ hop hI.t5) (Below.refl _ _) rfl
theorem step5 {ds : List Deferred} {W : World} {X A B Z : Option Addr × Nat} {x a b z : List Int} {la lb : Nat} {n s1 s2 s3 s4 : Int} {aw : Bool} {l : Array Bool} {f : Act} {w : World} {Q : Exit → Act → World → Prop} {k : Nat} (hG : Given k W X A B Z x a b z la lb n s1 s2 s3 s4 aw) (hI : Inv ds W X A B Z x a b z la lb n s1 s2 s3 s4 aw l f w) (hi : 5 ∈ Region.ready .any (opsOf Try.f10 9) l) : wpOp Try.prog (opsOf Try.f10 9) Q 5 (Inv ds W X A B Z x a b z la lb n s1 s2 s3 s4 aw (l.setIfInBounds 5 true)) f w := by
  obtain ⟨o, ho, hs, hdep⟩ := sig_at hi
  have hs := Option.some.inj hs
  have hd : o.dst = some (D 5) := (congrArg (·.1) hs).symm
  have hop := (congrArg (·.2.1) hs).symm
  have hg : o.guard = none := (congrArg (·.2.2.1) hs).symm
  rw [← hs] at hdep
  dsimp only at hop hdep
  obtain ⟨vp, tp, hvp⟩ := hI.done 3 (by decide) (hdep 3 (by decide))
  obtain rfl : vp = _ := hvp
  obtain ⟨vq, tq, hvq⟩ := hI.done 4 (by decide) (hdep 4 (by decide))
  obtain rfl : vq = _ := hvq
  refine st_val ho hg hd hI (by decide) (ex_slice f o _ _ w _ _ _ n hop tp tq hG.n0 hG.na hG.ca) (Below.refl _ _) ?_
  rw [← hG.an]
  rfl
theorem step6 {ds : List Deferred} {W : World} {X A B Z : Option Addr × Nat} {x a b z : List Int} {la lb : Nat} {n s1 s2 s3 s4 : Int} {aw : Bool} {l : Array Bool} {f : Act} {w : World} {Q : Exit → Act → World → Prop} {k : Nat} (hG : Given k W X A B Z x a b z la lb n s1 s2 s3 s4 aw) (hI : Inv ds W X A B Z x a b z la lb n s1 s2 s3 s4 aw l f w) (hi : 6 ∈ Region.ready .any (opsOf Try.f10 9) l) : wpOp Try.prog (opsOf Try.f10 9) Q 6 (Inv ds W X A B Z x a b z la lb n s1 s2 s3 s4 aw (l.setIfInBounds 6 true)) f w := by
  obtain ⟨o, ho, hs, hdep⟩ := sig_at hi
  have hs := Option.some.inj hs
  have hd : o.dst = some (D 6) := (congrArg (·.1) hs).symm
  have hop := (congrArg (·.2.1) hs).symm
  have hg : o.guard = none := (congrArg (·.2.2.1) hs).symm
  rw [← hs] at hdep
  dsimp only at hop hdep
  obtain ⟨vp, tp, hvp⟩ := hI.done 5 (by decide) (hdep 5 (by decide))
  obtain rfl : vp = _ := hvp
  exact st_val ho hg hd hI (by decide) (ex_build f o _ w _ _ _ hop tp) (below_alloc (Below.refl _ _) _) (one_new w _ _ _ (Kd.C_below hG.ha hI.below) (by have h1 := hG.an; have h2 := hG.na; have h3 := hG.ca; have h4 := hG.n0; omega))
theorem step7 {ds : List Deferred} {W : World} {X A B Z : Option Addr × Nat} {x a b z : List Int} {la lb : Nat} {n s1 s2 s3 s4 : Int} {aw : Bool} {l : Array Bool} {f : Act} {w : World} {Q : Exit → Act → World → Prop} {k : Nat} (hG : Given k W X A B Z x a b z la lb n s1 s2 s3 s4 aw) (hI : Inv ds W X A B Z x a b z la lb n s1 s2 s3 s4 aw l f w) (hi : 7 ∈ Region.ready .any (opsOf Try.f10 9) l) : wpOp Try.prog (opsOf Try.f10 9) Q 7 (Inv ds W X A B Z x a b z la lb n s1 s2 s3 s4 aw (l.setIfInBounds 7 true)) f w := by
  obtain ⟨o, ho, hs, hdep⟩ := sig_at hi
  have hs := Option.some.inj hs
  have hd : o.dst = some (D 7) := (congrArg (·.1) hs).symm
  have hop := (congrArg (·.2.1) hs).symm
  have hg : o.guard = none := (congrArg (·.2.2.1) hs).symm
  rw [← hs] at hdep
  dsimp only at hop hdep
  obtain ⟨vp, tp, hvp⟩ := hI.done 6 (by decide) (hdep 6 (by decide))
  obtain ⟨p, c, rfl, hc, hC⟩ := (show One w a vp from hvp)
  exact st_call ho (by unfold Region.wanted; rw [hg]) hd hI (by decide) (ex_call f o _ w _ hop tp) (sum_Of.calls k _ _ [a] s2 w hC hc hG.f2) (fun _ => rfl)
theorem step8 {ds : List Deferred} {W : World} {X A B Z : Option Addr × Nat} {x a b z : List Int} {la lb : Nat} {n s1 s2 s3 s4 : Int} {aw : Bool} {l : Array Bool} {f : Act} {w : World} {Q : Exit → Act → World → Prop} {k : Nat} (hG : Given k W X A B Z x a b z la lb n s1 s2 s3 s4 aw) (hI : Inv ds W X A B Z x a b z la lb n s1 s2 s3 s4 aw l f w) (hi : 8 ∈ Region.ready .any (opsOf Try.f10 9) l) : wpOp Try.prog (opsOf Try.f10 9) Q 8 (Inv ds W X A B Z x a b z la lb n s1 s2 s3 s4 aw (l.setIfInBounds 8 true)) f w := by
  obtain ⟨o, ho, hs, hdep⟩ := sig_at hi
  have hs := Option.some.inj hs
  have hd : o.dst = some (D 8) := (congrArg (·.1) hs).symm
  have hop := (congrArg (·.2.1) hs).symm
  have hg : o.guard = none := (congrArg (·.2.2.1) hs).symm
  rw [← hs] at hdep
  dsimp only at hop hdep
  exact st_val ho hg hd hI (by decide) (ex_move f o _ w _ hop hI.t1) (Below.refl _ _) rfl
theorem step9 {ds : List Deferred} {W : World} {X A B Z : Option Addr × Nat} {x a b z : List Int} {la lb : Nat} {n s1 s2 s3 s4 : Int} {aw : Bool} {l : Array Bool} {f : Act} {w : World} {Q : Exit → Act → World → Prop} {k : Nat} (hG : Given k W X A B Z x a b z la lb n s1 s2 s3 s4 aw) (hI : Inv ds W X A B Z x a b z la lb n s1 s2 s3 s4 aw l f w) (hi : 9 ∈ Region.ready .any (opsOf Try.f10 9) l) : wpOp Try.prog (opsOf Try.f10 9) Q 9 (Inv ds W X A B Z x a b z la lb n s1 s2 s3 s4 aw (l.setIfInBounds 9 true)) f w := by
  obtain ⟨o, ho, hs, hdep⟩ := sig_at hi
  have hs := Option.some.inj hs
  have hd : o.dst = some (D 9) := (congrArg (·.1) hs).symm
  have hop := (congrArg (·.2.1) hs).symm
  have hg : o.guard = none := (congrArg (·.2.2.1) hs).symm
  rw [← hs] at hdep
  dsimp only at hop hdep
  exact st_val ho hg hd hI (by decide) (ex_move f o _ w _ hop hI.t5) (Below.refl _ _) rfl
theorem step10 {ds : List Deferred} {W : World} {X A B Z : Option Addr × Nat} {x a b z : List Int} {la lb : Nat} {n s1 s2 s3 s4 : Int} {aw : Bool} {l : Array Bool} {f : Act} {w : World} {Q : Exit → Act → World → Prop} {k : Nat} (hG : Given k W X A B Z x a b z la lb n s1 s2 s3 s4 aw) (hI : Inv ds W X A B Z x a b z la lb n s1 s2 s3 s4 aw l f w) (hi : 10 ∈ Region.ready .any (opsOf Try.f10 9) l) : wpOp Try.prog (opsOf Try.f10 9) Q 10 (Inv ds W X A B Z x a b z la lb n s1 s2 s3 s4 aw (l.setIfInBounds 10 true)) f w := by
  obtain ⟨o, ho, hs, hdep⟩ := sig_at hi
  have hs := Option.some.inj hs
  have hd : o.dst = some (D 10) := (congrArg (·.1) hs).symm
  have hop := (congrArg (·.2.1) hs).symm
  have hg : o.guard = none := (congrArg (·.2.2.1) hs).symm
  rw [← hs] at hdep
  dsimp only at hop hdep
  obtain ⟨vp, tp, hvp⟩ := hI.done 8 (by decide) (hdep 8 (by decide))
  obtain rfl : vp = _ := hvp
  obtain ⟨vq, tq, hvq⟩ := hI.done 9 (by decide) (hdep 9 (by decide))
  obtain rfl : vq = _ := hvq
  refine st_val ho hg hd hI (by decide) (ex_slice f o _ _ w _ _ _ n hop tp tq hG.n0 hG.nb hG.cb) (Below.refl _ _) ?_
  rw [← hG.bn]
  rfl
theorem step11 {ds : List Deferred} {W : World} {X A B Z : Option Addr × Nat} {x a b z : List Int} {la lb : Nat} {n s1 s2 s3 s4 : Int} {aw : Bool} {l : Array Bool} {f : Act} {w : World} {Q : Exit → Act → World → Prop} {k : Nat} (hG : Given k W X A B Z x a b z la lb n s1 s2 s3 s4 aw) (hI : Inv ds W X A B Z x a b z la lb n s1 s2 s3 s4 aw l f w) (hi : 11 ∈ Region.ready .any (opsOf Try.f10 9) l) : wpOp Try.prog (opsOf Try.f10 9) Q 11 (Inv ds W X A B Z x a b z la lb n s1 s2 s3 s4 aw (l.setIfInBounds 11 true)) f w := by
  obtain ⟨o, ho, hs, hdep⟩ := sig_at hi
  have hs := Option.some.inj hs
  have hd : o.dst = some (D 11) := (congrArg (·.1) hs).symm
  have hop := (congrArg (·.2.1) hs).symm
  have hg : o.guard = none := (congrArg (·.2.2.1) hs).symm
  rw [← hs] at hdep
  dsimp only at hop hdep
  obtain ⟨vp, tp, hvp⟩ := hI.done 10 (by decide) (hdep 10 (by decide))
  obtain rfl : vp = _ := hvp
  exact st_val ho hg hd hI (by decide) (ex_build f o _ w _ _ _ hop tp) (below_alloc (Below.refl _ _) _) (one_new w _ _ _ (Kd.C_below hG.hb hI.below) (by have h1 := hG.bn; have h2 := hG.nb; have h3 := hG.cb; have h4 := hG.n0; omega))
theorem step12 {ds : List Deferred} {W : World} {X A B Z : Option Addr × Nat} {x a b z : List Int} {la lb : Nat} {n s1 s2 s3 s4 : Int} {aw : Bool} {l : Array Bool} {f : Act} {w : World} {Q : Exit → Act → World → Prop} {k : Nat} (hG : Given k W X A B Z x a b z la lb n s1 s2 s3 s4 aw) (hI : Inv ds W X A B Z x a b z la lb n s1 s2 s3 s4 aw l f w) (hi : 12 ∈ Region.ready .any (opsOf Try.f10 9) l) : wpOp Try.prog (opsOf Try.f10 9) Q 12 (Inv ds W X A B Z x a b z la lb n s1 s2 s3 s4 aw (l.setIfInBounds 12 true)) f w := by
  obtain ⟨o, ho, hs, hdep⟩ := sig_at hi
  have hs := Option.some.inj hs
  have hd : o.dst = some (D 12) := (congrArg (·.1) hs).symm
  have hop := (congrArg (·.2.1) hs).symm
  have hg : o.guard = none := (congrArg (·.2.2.1) hs).symm
  rw [← hs] at hdep
  dsimp only at hop hdep
  obtain ⟨vp, tp, hvp⟩ := hI.done 11 (by decide) (hdep 11 (by decide))
  obtain ⟨p, c, rfl, hc, hC⟩ := (show One w b vp from hvp)
  exact st_call ho (by unfold Region.wanted; rw [hg]) hd hI (by decide) (ex_call f o _ w _ hop tp) (sum_Of.calls k _ _ [b] s3 w hC hc hG.f3) (fun _ => rfl)
theorem step13 {ds : List Deferred} {W : World} {X A B Z : Option Addr × Nat} {x a b z : List Int} {la lb : Nat} {n s1 s2 s3 s4 : Int} {aw : Bool} {l : Array Bool} {f : Act} {w : World} {Q : Exit → Act → World → Prop} {k : Nat} (hG : Given k W X A B Z x a b z la lb n s1 s2 s3 s4 aw) (hI : Inv ds W X A B Z x a b z la lb n s1 s2 s3 s4 aw l f w) (hi : 13 ∈ Region.ready .any (opsOf Try.f10 9) l) : wpOp Try.prog (opsOf Try.f10 9) Q 13 (Inv ds W X A B Z x a b z la lb n s1 s2 s3 s4 aw (l.setIfInBounds 13 true)) f w := by
  obtain ⟨o, ho, hs, hdep⟩ := sig_at hi
  have hs := Option.some.inj hs
  have hd : o.dst = some (D 13) := (congrArg (·.1) hs).symm
  have hop := (congrArg (·.2.1) hs).symm
  have hg : o.guard = none := (congrArg (·.2.2.1) hs).symm
  rw [← hs] at hdep
  dsimp only at hop hdep
  obtain ⟨vp, tp, hvp⟩ := hI.done 7 (by decide) (hdep 7 (by decide))
  obtain rfl : vp = _ := hvp
  obtain ⟨vq, tq, hvq⟩ := hI.done 12 (by decide) (hdep 12 (by decide))
  obtain rfl : vq = _ := hvq
  exact st_val ho hg hd hI (by decide) (ex_xor f o _ _ w _ _ hop tp tq) (Below.refl _ _) rfl
theorem step14 {ds : List Deferred} {W : World} {X A B Z : Option Addr × Nat} {x a b z : List Int} {la lb : Nat} {n s1 s2 s3 s4 : Int} {aw : Bool} {l : Array Bool} {f : Act} {w : World} {Q : Exit → Act → World → Prop} {k : Nat} (hG : Given k W X A B Z x a b z la lb n s1 s2 s3 s4 aw) (hI : Inv ds W X A B Z x a b z la lb n s1 s2 s3 s4 aw l f w) (hi : 14 ∈ Region.ready .any (opsOf Try.f10 9) l) : wpOp Try.prog (opsOf Try.f10 9) Q 14 (Inv ds W X A B Z x a b z la lb n s1 s2 s3 s4 aw (l.setIfInBounds 14 true)) f w := by
  obtain ⟨o, ho, hs, hdep⟩ := sig_at hi
  have hs := Option.some.inj hs
  have hd : o.dst = some (D 14) := (congrArg (·.1) hs).symm
  have hop := (congrArg (·.2.1) hs).symm
  have hg : o.guard = none := (congrArg (·.2.2.1) hs).symm
  rw [← hs] at hdep
  dsimp only at hop hdep
  exact st_val ho hg hd hI (by decide) (ex_move f o _ w _ hop hI.t7) (Below.refl _ _) rfl
theorem step15 {ds : List Deferred} {W : World} {X A B Z : Option Addr × Nat} {x a b z : List Int} {la lb : Nat} {n s1 s2 s3 s4 : Int} {aw : Bool} {l : Array Bool} {f : Act} {w : World} {Q : Exit → Act → World → Prop} {k : Nat} (hG : Given k W X A B Z x a b z la lb n s1 s2 s3 s4 aw) (hI : Inv ds W X A B Z x a b z la lb n s1 s2 s3 s4 aw l f w) (hi : 15 ∈ Region.ready .any (opsOf Try.f10 9) l) : wpOp Try.prog (opsOf Try.f10 9) Q 15 (Inv ds W X A B Z x a b z la lb n s1 s2 s3 s4 aw (l.setIfInBounds 15 true)) f w := by
  obtain ⟨o, ho, hs, hdep⟩ := sig_at hi
  have hs := Option.some.inj hs
  have hd : o.dst = some (D 15) := (congrArg (·.1) hs).symm
  have hop := (congrArg (·.2.1) hs).symm
  have hg : o.guard = none := (congrArg (·.2.2.1) hs).symm
  rw [← hs] at hdep
  dsimp only at hop hdep
  obtain ⟨vp, tp, hvp⟩ := hI.done 14 (by decide) (hdep 14 (by decide))
  obtain rfl : vp = _ := hvp
  exact st_val ho hg hd hI (by decide) (ex_build f o _ w _ _ _ hop tp) (below_alloc (Below.refl _ _) _) (one_new w _ _ _ (Kd.C_below hG.hz hI.below) hG.zc)
theorem step16 {ds : List Deferred} {W : World} {X A B Z : Option Addr × Nat} {x a b z : List Int} {la lb : Nat} {n s1 s2 s3 s4 : Int} {aw : Bool} {l : Array Bool} {f : Act} {w : World} {Q : Exit → Act → World → Prop} {k : Nat} (hG : Given k W X A B Z x a b z la lb n s1 s2 s3 s4 aw) (hI : Inv ds W X A B Z x a b z la lb n s1 s2 s3 s4 aw l f w) (hi : 16 ∈ Region.ready .any (opsOf Try.f10 9) l) : wpOp Try.prog (opsOf Try.f10 9) Q 16 (Inv ds W X A B Z x a b z la lb n s1 s2 s3 s4 aw (l.setIfInBounds 16 true)) f w := by
  obtain ⟨o, ho, hs, hdep⟩ := sig_at hi
  have hs := Option.some.inj hs
  have hd : o.dst = some (D 16) := (congrArg (·.1) hs).symm
  have hop := (congrArg (·.2.1) hs).symm
  have hg : o.guard = none := (congrArg (·.2.2.1) hs).symm
  rw [← hs] at hdep
  dsimp only at hop hdep
  obtain ⟨vp, tp, hvp⟩ := hI.done 15 (by decide) (hdep 15 (by decide))
  obtain ⟨p, c, rfl, hc, hC⟩ := (show One w z vp from hvp)
  exact st_call ho (by unfold Region.wanted; rw [hg]) hd hI (by decide) (ex_call f o _ w _ hop tp) (sum_Of.calls k _ _ [z] s4 w hC hc hG.f4) (fun _ => rfl)
theorem step17 {ds : List Deferred} {W : World} {X A B Z : Option Addr × Nat} {x a b z : List Int} {la lb : Nat} {n s1 s2 s3 s4 : Int} {aw : Bool} {l : Array Bool} {f : Act} {w : World} {Q : Exit → Act → World → Prop} {k : Nat} (hG : Given k W X A B Z x a b z la lb n s1 s2 s3 s4 aw) (hI : Inv ds W X A B Z x a b z la lb n s1 s2 s3 s4 aw l f w) (hi : 17 ∈ Region.ready .any (opsOf Try.f10 9) l) : wpOp Try.prog (opsOf Try.f10 9) Q 17 (Inv ds W X A B Z x a b z la lb n s1 s2 s3 s4 aw (l.setIfInBounds 17 true)) f w := by
  obtain ⟨o, ho, hs, hdep⟩ := sig_at hi
  have hs := Option.some.inj hs
  have hd : o.dst = some (D 17) := (congrArg (·.1) hs).symm
  have hop := (congrArg (·.2.1) hs).symm
  have hg : o.guard = none := (congrArg (·.2.2.1) hs).symm
  rw [← hs] at hdep
  dsimp only at hop hdep
  obtain ⟨vp, tp, hvp⟩ := hI.done 13 (by decide) (hdep 13 (by decide))
  obtain rfl : vp = _ := hvp
  obtain ⟨vq, tq, hvq⟩ := hI.done 16 (by decide) (hdep 16 (by decide))
  obtain rfl : vq = _ := hvq
  exact st_val ho hg hd hI (by decide) (ex_xor f o _ _ w _ _ hop tp tq) (Below.refl _ _) rfl
theorem step18 {ds : List Deferred} {W : World} {X A B Z : Option Addr × Nat} {x a b z : List Int} {la lb : Nat} {n s1 s2 s3 s4 : Int} {aw : Bool} {l : Array Bool} {f : Act} {w : World} {Q : Exit → Act → World → Prop} {k : Nat} (hG : Given k W X A B Z x a b z la lb n s1 s2 s3 s4 aw) (hI : Inv ds W X A B Z x a b z la lb n s1 s2 s3 s4 aw l f w) (hi : 18 ∈ Region.ready .any (opsOf Try.f10 9) l) : wpOp Try.prog (opsOf Try.f10 9) Q 18 (Inv ds W X A B Z x a b z la lb n s1 s2 s3 s4 aw (l.setIfInBounds 18 true)) f w := by
  obtain ⟨o, ho, hs, hdep⟩ := sig_at hi
  have hs := Option.some.inj hs
  have hd : o.dst = some (D 18) := (congrArg (·.1) hs).symm
  have hop := (congrArg (·.2.1) hs).symm
  have hg : o.guard = none := (congrArg (·.2.2.1) hs).symm
  rw [← hs] at hdep
  dsimp only at hop hdep
  obtain ⟨vp, tp, hvp⟩ := hI.done 2 (by decide) (hdep 2 (by decide))
  obtain rfl : vp = _ := hvp
  obtain ⟨vq, tq, hvq⟩ := hI.done 17 (by decide) (hdep 17 (by decide))
  obtain rfl : vq = _ := hvq
  exact st_val ho hg hd hI (by decide) (ex_eql f o _ _ w _ _ hop tp tq) (Below.refl _ _) rfl
theorem step19 {ds : List Deferred} {W : World} {X A B Z : Option Addr × Nat} {x a b z : List Int} {la lb : Nat} {n s1 s2 s3 s4 : Int} {aw : Bool} {l : Array Bool} {f : Act} {w : World} {Q : Exit → Act → World → Prop} {k : Nat} (hG : Given k W X A B Z x a b z la lb n s1 s2 s3 s4 aw) (hI : Inv ds W X A B Z x a b z la lb n s1 s2 s3 s4 aw l f w) (hi : 19 ∈ Region.ready .any (opsOf Try.f10 9) l) : wpOp Try.prog (opsOf Try.f10 9) Q 19 (Inv ds W X A B Z x a b z la lb n s1 s2 s3 s4 aw (l.setIfInBounds 19 true)) f w := by
  obtain ⟨o, ho, hs, hdep⟩ := sig_at hi
  have hs := Option.some.inj hs
  have hd : o.dst = some (D 19) := (congrArg (·.1) hs).symm
  have hop := (congrArg (·.2.1) hs).symm
  have hg : o.guard = none := (congrArg (·.2.2.1) hs).symm
  rw [← hs] at hdep
  dsimp only at hop hdep
  obtain ⟨vp, tp, hvp⟩ := hI.done 18 (by decide) (hdep 18 (by decide))
  obtain rfl : vp = _ := hvp
  exact st_val ho hg hd hI (by decide) (ex_move f o _ w _ hop tp) (Below.refl _ _) rfl
theorem step20 {ds : List Deferred} {W : World} {X A B Z : Option Addr × Nat} {x a b z : List Int} {la lb : Nat} {n s1 s2 s3 s4 : Int} {aw : Bool} {l : Array Bool} {f : Act} {w : World} {Q : Exit → Act → World → Prop} {k : Nat} (hG : Given k W X A B Z x a b z la lb n s1 s2 s3 s4 aw) (hI : Inv ds W X A B Z x a b z la lb n s1 s2 s3 s4 aw l f w) (hi : 20 ∈ Region.ready .any (opsOf Try.f10 9) l) : wpOp Try.prog (opsOf Try.f10 9) Q 20 (Inv ds W X A B Z x a b z la lb n s1 s2 s3 s4 aw (l.setIfInBounds 20 true)) f w := by
  obtain ⟨o, ho, hs, hdep⟩ := sig_at hi
  have hs := Option.some.inj hs
  have hd : o.dst = some (D 20) := (congrArg (·.1) hs).symm
  have hop := (congrArg (·.2.1) hs).symm
  have hg : o.guard = some (19, true) := (congrArg (·.2.2.1) hs).symm
  rw [← hs] at hdep
  dsimp only at hop hdep
  obtain ⟨vp, tp, hvp⟩ := hI.done 19 (by decide) (hdep 19 (by decide))
  obtain rfl : vp = _ := hvp
  have hy : yielded (opsOf Try.f10 9) f.tmps 19 = some (s1 == Go.bits .xor .u32 (Go.bits .xor .u32 s2 s3) s4) := by
    have h19 : ((opsOf Try.f10 9)[19]?).bind (·.dst) = some 57 := by kernel_rfl
    unfold yielded
    rw [h19, Option.bind_some, show (57 : Nat) = D 19 from rfl, tp]
  by_cases hB : (s1 == Go.bits .xor .u32 (Go.bits .xor .u32 s2 s3) s4) = true
  · exact st_call ho (by unfold Region.wanted; rw [hg]; dsimp only; rw [hy, hB]; rfl) hd hI (by decide) (ex_call0 f o w hop) (intarsialaw02_awake.calls aw w hG.faw) (fun _ _ => rfl)
  · exact st_skip ho (by unfold Region.wanted; rw [hg]; dsimp only; rw [hy]; simpa using hB) hd hI (by decide) (fun h => absurd h hB)
theorem step21 {ds : List Deferred} {W : World} {X A B Z : Option Addr × Nat} {x a b z : List Int} {la lb : Nat} {n s1 s2 s3 s4 : Int} {aw : Bool} {l : Array Bool} {f : Act} {w : World} {Q : Exit → Act → World → Prop} {k : Nat} (hG : Given k W X A B Z x a b z la lb n s1 s2 s3 s4 aw) (hI : Inv ds W X A B Z x a b z la lb n s1 s2 s3 s4 aw l f w) (hi : 21 ∈ Region.ready .any (opsOf Try.f10 9) l) : wpOp Try.prog (opsOf Try.f10 9) Q 21 (Inv ds W X A B Z x a b z la lb n s1 s2 s3 s4 aw (l.setIfInBounds 21 true)) f w := by
  obtain ⟨o, ho, hs, hdep⟩ := sig_at hi
  have hs := Option.some.inj hs
  have hd : o.dst = some (D 21) := (congrArg (·.1) hs).symm
  have hop := (congrArg (·.2.1) hs).symm
  have hg : o.guard = none := (congrArg (·.2.2.1) hs).symm
  rw [← hs] at hdep
  dsimp only at hop hdep
  obtain ⟨vp, tp, hvp⟩ := hI.done 19 (by decide) (hdep 19 (by decide))
  obtain rfl : vp = _ := hvp
  obtain ⟨vq, tq, hvq⟩ := hI.done 20 (by decide) (hdep 20 (by decide))
  refine st_val ho hg hd hI (by decide) (ex_pick f o _ _ w _ _ hop tp tq) (Below.refl _ _) ?_
  show (if (s1 == Go.bits .xor .u32 (Go.bits .xor .u32 s2 s3) s4) = true then vq else .bool false) = .bool ((s1 == Go.bits .xor .u32 (Go.bits .xor .u32 s2 s3) s4) && aw)
  by_cases hB : (s1 == Go.bits .xor .u32 (Go.bits .xor .u32 s2 s3) s4) = true
  · rw [if_pos hB, (show _ → vq = .bool aw from hvq) hB, hB, Bool.true_and]
  · rw [if_neg hB, Bool.eq_false_iff.mpr hB]
    rfl
theorem step22 {ds : List Deferred} {W : World} {X A B Z : Option Addr × Nat} {x a b z : List Int} {la lb : Nat} {n s1 s2 s3 s4 : Int} {aw : Bool} {l : Array Bool} {f : Act} {w : World} {Q : Exit → Act → World → Prop} {k : Nat} (hG : Given k W X A B Z x a b z la lb n s1 s2 s3 s4 aw) (hI : Inv ds W X A B Z x a b z la lb n s1 s2 s3 s4 aw l f w) (hi : 22 ∈ Region.ready .any (opsOf Try.f10 9) l) : wpOp Try.prog (opsOf Try.f10 9) Q 22 (Inv ds W X A B Z x a b z la lb n s1 s2 s3 s4 aw (l.setIfInBounds 22 true)) f w := by
  obtain ⟨o, ho, hs, hdep⟩ := sig_at hi
  have hs := Option.some.inj hs
  have hd : o.dst = some (D 22) := (congrArg (·.1) hs).symm
  have hop := (congrArg (·.2.1) hs).symm
  have hg : o.guard = none := (congrArg (·.2.2.1) hs).symm
  rw [← hs] at hdep
  dsimp only at hop hdep
  obtain ⟨vp, tp, hvp⟩ := hI.done 21 (by decide) (hdep 21 (by decide))
  obtain rfl : vp = _ := hvp
  exact st_val ho hg hd hI (by decide) (ex_assign f o _ w _ hop tp) (Below.refl _ _) rfl

theorem step {ds : List Deferred} {W : World} {X A B Z : Option Addr × Nat} {x a b z : List Int} {la lb : Nat} {n s1 s2 s3 s4 : Int} {aw : Bool} {l : Array Bool} {f : Act} {w : World} {Q : Exit → Act → World → Prop} {k : Nat} (hG : Given k W X A B Z x a b z la lb n s1 s2 s3 s4 aw) (hI : Inv ds W X A B Z x a b z la lb n s1 s2 s3 s4 aw l f w) : ∀ (i : Nat), i ∈ Region.ready .any (opsOf Try.f10 9) l → wpOp Try.prog (opsOf Try.f10 9) Q i (Inv ds W X A B Z x a b z la lb n s1 s2 s3 s4 aw (l.setIfInBounds i true)) f w
  | 0, hi => step0 hG hI hi
  | 1, hi => step1 hG hI hi
  | 2, hi => step2 hG hI hi
  | 3, hi => step3 hG hI hi
  | 4, hi => step4 hG hI hi
  | 5, hi => step5 hG hI hi
  | 6, hi => step6 hG hI hi
  | 7, hi => step7 hG hI hi
  | 8, hi => step8 hG hI hi
  | 9, hi => step9 hG hI hi
  | 10, hi => step10 hG hI hi
  | 11, hi => step11 hG hI hi
  | 12, hi => step12 hG hI hi
  | 13, hi => step13 hG hI hi
  | 14, hi => step14 hG hI hi
  | 15, hi => step15 hG hI hi
  | 16, hi => step16 hG hI hi
  | 17, hi => step17 hG hI hi
  | 18, hi => step18 hG hI hi
  | 19, hi => step19 hG hI hi
  | 20, hi => step20 hG hI hi
  | 21, hi => step21 hG hI hi
  | 22, hi => step22 hG hI hi
  | i + 23, hi => by
    obtain ⟨o, _, hs, _⟩ := sig_at hi
    cases hs
theorem deps_lt : ∀ j, j < 23 → ∀ d ∈ ((sigs[j]?).map (·.2.2.2)).getD [], d < j := by decide +kernel
theorem all_done {l : Array Bool} (hl : l.size = 23) (hr : Region.ready .any (opsOf Try.f10 9) l = []) : ∀ m j, j < m → j < 23 → l.getD j false = true := by
  intro m
  induction m with
  | zero => intro j h; omega
  | succ m ih =>
    intro j hjm hj
    have hlj : j < l.size := by omega
    cases hv : l[j] with
    | true => rw [Array.getD_eq_getD_getElem?, Array.getElem?_eq_getElem hlj, hv]; rfl
    | false =>
      have hsz : (opsOf Try.f10 9).size = 23 := by kernel_rfl
      have hjo : j < (opsOf Try.f10 9).size := by omega
      have hin : j ∈ Region.ready .any (opsOf Try.f10 9) l := by
        refine mem_ready.2 ⟨by rw [Array.getD_eq_getD_getElem?, Array.getElem?_eq_getElem hlj, hv]; rfl, (opsOf Try.f10 9)[j], Array.getElem?_eq_getElem hjo, ?_⟩
        intro e he hb
        have hs : sigs[j]? = some (sig (opsOf Try.f10 9)[j]) := by rw [← sigs_are, Array.getElem?_toList, Array.getElem?_map, Array.getElem?_eq_getElem hjo]; rfl
        have hlt := deps_lt j hj e.on (by
          rw [hs]
          exact List.mem_map.mpr ⟨e, List.mem_filter.mpr ⟨by simpa using he, by simpa using hb⟩, rfl⟩)
        exact ih e.on (by omega) (by omega)
      rw [hr] at hin
      cases hin
/-- The whole region. -/
theorem region9 {ops : Array Oper} (hops : ops = opsOf Try.f10 9) {k : Nat} {W : World} {X A B Z : Option Addr × Nat} {x a b z : List Int} {la lb : Nat} {n s1 s2 s3 s4 : Int} {aw : Bool} {f : Act} {Q : Exit → Act → World → Prop} (hG : Given k W.drew X A B Z x a b z la lb n s1 s2 s3 s4 aw)
    (size : f.tmps.size = 60) (t0 : f.tmps[0]? = some (.slice A.1 la A.2)) (t1 : f.tmps[1]? = some (.slice B.1 lb B.2)) (t5 : f.tmps[5]? = some (.int .i64 n)) (t6 : f.tmps[6]? = some (.slice X.1 x.length X.2)) (t7 : f.tmps[7]? = some (.slice Z.1 z.length Z.2))
    (hQ : ∀ f' w', f'.defers = f.defers → f'.tmps[4]? = some (.bool ((s1 == Go.bits .xor .u32 (Go.bits .xor .u32 s2 s3) s4) && aw)) → Below W.drew.heap.size W.drew w' → Q .normal f' w') :
    (Code.region 9 ops true).wp Try.prog Q f W := by
  subst hops
  have hsz : (opsOf Try.f10 9).size = 23 := by kernel_rfl
  refine wp_region_inv (I := Inv f.defers W.drew X A B Z x a b z la lb n s1 s2 s3 s4 aw) (by kernel_rfl) ?_ ?_ ?_
  · refine ⟨size, by rw [Array.size_replicate, hsz], rfl, t0, t1, t5, t6, t7, Below.refl _ _, ?_⟩
    intro j _ hd
    rw [Array.getD_eq_getD_getElem?, Array.getElem?_replicate] at hd
    split at hd <;> cases hd
  · intro l f' w' hI hr
    have h22 : l.getD 22 false = true := all_done hI.lsize hr 23 22 (by decide) (by decide)
    obtain ⟨v, t, hv⟩ := hI.done 22 (by decide) h22
    obtain rfl : v = _ := hv
    exact hQ f' w' hI.defers t hI.below
  · intro l f' w' i hI hi _
    exact step hG hI i hi
end Go.Proofs.Ytoklhnncdpoljaa.Reg
