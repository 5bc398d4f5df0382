/- The region 'out = append(out, pair[0])' of dir.Halve, whose order is drawn: walked once, by an invariant, inside a round. -/
import Derived.Test.YtiapecjiedhaoaaRegInv
import Derived.Test.YtiapecjiedhaoaaHandD2
import Derived.Test.YtiapecjiedhaoaaWTab
import Derived.RangeFuncBox
import Derived.OwnWalkIn
namespace Go.Proofs.Ytiapecjiedhaoaa.Reg8
open Go.RowKit Go.Proofs.Ytiapecjiedhaoaa.Hand Go.Proofs.Ytiapecjiedhaoaa.RegInv Go.Proofs.YtiapecjiedhaoaaW.PrintWords Go.Proofs.YtiapecjiedhaoaaW.PrintLast Go.Proofs.YtiapecjiedhaoaaW.PrintMore
set_option linter.unusedVariables false
set_option linter.unusedSimpArgs false
def sig (o : Oper) : Option Tmp × Op × Option (Nat × Bool) × TypeId × List Nat := (o.dst, o.op, o.guard, o.type, (o.after.toList.filter fun e => Region.binds .any e).map (·.on))
def sigs : List (Option Tmp × Op × Option (Nat × Bool) × TypeId × List Nat) := [
  (some 29, .load 22 (.tmp 4), none, 22, []),
  (some 30, .move (.tmp 5), none, 22, []),
  (some 31, .indexAddr 22 (.tmp 30) (.const (.int .i64 0)), none, 0, [1]),
  (some 32, .load 3 (.tmp 31), none, 3, [2]),
  (some 33, .buildSlice 22 1 #[(0, .tmp 32)], none, 22, [3]),
  (some 34, .call { callee := .builtin .append, args := #[.tmp 29, .tmp 33], argTypes := #[22, 22] }, none, 22, [0, 4]),
  (none, .store 22 (.tmp 4) (.tmp 34), none, 0, [5, 5, 0, 1, 2, 3, 4, 5])]
theorem sigs_are : ((opsOf Try.f24 8).map sig).toList = sigs := by kernel_rfl
theorem getD_set7 (l : Array Bool) (i j : Nat) (hi : i < l.size) : (l.setIfInBounds i true).getD j false = (decide (i = j) || l.getD j false) := by
  rw [Array.getD_eq_getD_getElem?, Array.getD_eq_getD_getElem?, Array.getElem?_setIfInBounds]
  by_cases h : i = j
  · subst h; rw [if_pos rfl, if_pos hi]; simp
  · rw [if_neg h]; simp [h]
theorem put_get (f : Act) (d t : Nat) (v : Value) (hd : d < f.tmps.size) : (f.put (some d) v).tmps[t]? = if d = t then some v else f.tmps[t]? := by
  show (f.tmps.setIfInBounds d v)[t]? = _
  rw [Array.getElem?_setIfInBounds]
  by_cases h : d = t
  · rw [if_pos h, if_pos h, if_pos hd]
  · rw [if_neg h, if_neg h]
structure Inv (ds : List Deferred) (S : Nat) (ap : Addr) (v v' : Value) (p : Int) (W0 w1 w2 : World) (l : Array Bool) (f : Act) (w : World) : Prop where
  size : f.tmps.size = 40
  lsize : l.size = 7
  t4 : f.tmps[4]? = some (.pointer (some ⟨S, 0, none⟩))
  t5 : f.tmps[5]? = some (.slice (some ap) 2 2)
  d0 : l.getD 0 false = true → f.tmps[29]? = some v
  d1 : l.getD 1 false = true → f.tmps[30]? = some (.slice (some ap) 2 2)
  d2 : l.getD 2 false = true → f.tmps[31]? = some (.pointer (some ap))
  d3 : l.getD 3 false = true → f.tmps[32]? = some (.int .i64 p)
  d4 : l.getD 4 false = true → f.tmps[33]? = some (.slice (some ⟨W0.heap.size, 0, none⟩) 1 1)
  d5 : l.getD 5 false = true → f.tmps[34]? = some v'
  c4 : l.getD 4 false = true → l.getD 3 false = true
  c5 : l.getD 5 false = true → l.getD 0 false = true ∧ l.getD 4 false = true
  c6 : l.getD 6 false = true → l.getD 5 false = true
  wA : l.getD 5 false = false → l.getD 4 false = false → w = W0
  wB : l.getD 5 false = false → l.getD 4 false = true → w = W0.alloc (.cells #[.int .i64 p] 3)
  wC : l.getD 5 false = true → l.getD 6 false = false → w = w1
  wD : l.getD 6 false = true → w = w2
theorem sig_at {i : Nat} {l : Array Bool} (h : i ∈ Region.ready .any (opsOf Try.f24 8) l) : ∃ o, (opsOf Try.f24 8)[i]? = some o ∧ sigs[i]? = some (sig o) ∧ ∀ j ∈ (sig o).2.2.2.2, l.getD j false = true := by
  obtain ⟨_, o, ho, hall⟩ := mem_ready.1 h
  refine ⟨o, ho, ?_, ?_⟩
  · rw [← sigs_are, Array.getElem?_toList, Array.getElem?_map, ho]; rfl
  · intro j hj
    obtain ⟨e, he, rfl⟩ := List.mem_map.mp hj
    have := List.mem_filter.mp he
    exact hall e (by simpa using this.1) (by simpa using this.2)
theorem st {F : Fence} {n i : Nat} {o : Oper} {f : Act} {w w' : World} {v : Value} {Q : Exit → Act → World → Prop} {K : Act → World → Prop} (ho : (opsOf Try.f24 8)[i]? = some o) (hg : o.guard = none) (hc : ∀ g, o.about Try.prog w f.eval = some g → F.fn g) (hd : ∀ c, o.op ≠ .defer c)
    (hrun : (execOp f.eval o).run Try.prog w = .ok (.value v) w') (hK : K (f.put o.dst v) w') : wpOpIn F n Try.prog (opsOf Try.f24 8) Q i K f w := by
  unfold wpOpIn
  rw [ho]
  have hw : Region.wanted o (yielded (opsOf Try.f24 8) f.tmps) = true := by unfold Region.wanted; rw [hg]
  simp only [hw, if_true]
  unfold Oper.wpIn
  refine ⟨hc, ?_⟩
  rw [Oper.semAt_plain F _ _ hd, hrun]
  exact hK
theorem ex_load (a : Act) (o : Oper) (t x : Nat) (w : World) (ad : Addr) (v : Value) (ty : TypeId) (h : o.op = .load ty (.tmp x)) (hty : ty = 22 ∨ ty = 3) (hx : a.tmps[x]? = some (.pointer (some ad))) (hc : w.cell? ad = some v) : (execOp a.eval o).run Try.prog w = .ok (.value v) w := by
  unfold execOp
  rw [h]
  rcases hty with rfl | rfl <;> go_simp
theorem ex_move (a : Act) (o : Oper) (x : Nat) (w : World) (v : Value) (h : o.op = .move (.tmp x)) (hv : a.tmps[x]? = some v) : (execOp a.eval o).run Try.prog w = .ok (.value v) w := by
  unfold execOp
  rw [h]
  go_simp
theorem ex_idx (a : Act) (o : Oper) (x : Nat) (w : World) (ap : Addr) (h : o.op = .indexAddr 22 (.tmp x) (.const (.int .i64 0))) (hv : a.tmps[x]? = some (.slice (some ap) 2 2)) : (execOp a.eval o).run Try.prog w = .ok (.value (.pointer (some ap))) w := by
  unfold execOp
  rw [h]
  go_simp
theorem ex_build (a : Act) (o : Oper) (x : Nat) (w : World) (p : Int) (h : o.op = .buildSlice 22 1 #[(0, .tmp x)]) (hv : a.tmps[x]? = some (.int .i64 p)) : (execOp a.eval o).run Try.prog w = .ok (.value (.slice (some ⟨w.heap.size, 0, none⟩) 1 1)) (w.alloc (.cells #[.int .i64 p] 3)) := by
  unfold execOp
  rw [h]
  go_simp
theorem ex_append (a : Act) (o : Oper) (x y : Nat) (w w' : World) (u v r : Value) (h : o.op = .call { callee := .builtin .append, args := #[.tmp x, .tmp y], argTypes := #[22, 22] }) (ht : o.type = 22) (hx : a.tmps[x]? = some u) (hy : a.tmps[y]? = some v)
    (hrun : (Builtin.append_ #[22, 22] 22 #[u, v]).run Try.prog w = .ok r w') : (execOp a.eval o).run Try.prog w = .ok (.value r) w' := by
  have e1 : a.eval (.tmp x) = u := by show a.tmps.getD x undef = u; rw [Array.getD_eq_getD_getElem?, hx]; rfl
  have e2 : a.eval (.tmp y) = v := by show a.tmps.getD y undef = v; rw [Array.getD_eq_getD_getElem?, hy]; rfl
  simp [execOp, h, ht, resolve, invoke, builtin, e1, e2, hrun, Result.andThen]
theorem st_skip {F : Fence} {n i : Nat} {o : Oper} {f : Act} {w w' : World} {Q : Exit → Act → World → Prop} {K : Act → World → Prop} (ho : (opsOf Try.f24 8)[i]? = some o) (hg : o.guard = none) (hc : ∀ g, o.about Try.prog w f.eval = some g → F.fn g) (hd : ∀ c, o.op ≠ .defer c)
    (hrun : (execOp f.eval o).run Try.prog w = .ok .skip w') (hK : K (f.put o.dst undef) w') : wpOpIn F n Try.prog (opsOf Try.f24 8) Q i K f w := by
  unfold wpOpIn
  rw [ho]
  have hw : Region.wanted o (yielded (opsOf Try.f24 8) f.tmps) = true := by unfold Region.wanted; rw [hg]
  simp only [hw, if_true]
  unfold Oper.wpIn
  refine ⟨hc, ?_⟩
  rw [Oper.semAt_plain F _ _ hd, hrun]
  exact hK
theorem ex_store (a : Act) (o : Oper) (w : World) (S g k c : Nat) (u : Value) (h : o.op = .store 22 (.tmp 4) (.tmp 34)) (h4 : a.tmps[4]? = some (.pointer (some ⟨S, 0, none⟩))) (h34 : a.tmps[34]? = some (.slice (some ⟨g, 0, none⟩) k c)) (hc : w.cell? ⟨S, 0, none⟩ = some u) (hf : w.frozen? ⟨S, 0, none⟩ = false) : (execOp a.eval o).run Try.prog w = .ok .skip (w.setCell ⟨S, 0, none⟩ (.slice (some ⟨g, 0, none⟩) k c)) := by
  unfold execOp
  rw [h]
  go_simp
structure Given (S : Nat) (ap : Addr) (v : Value) (g k c : Nat) (p : Int) (W0 w1 : World) : Prop where
  hbo : W0.cell? ⟨S, 0, none⟩ = some v
  hbo2 : (W0.alloc (.cells #[.int .i64 p] 3)).cell? ⟨S, 0, none⟩ = some v
  hA : W0.cell? ap = some (.int .i64 p)
  hrun : (Builtin.append_ #[22, 22] 22 #[v, .slice (some ⟨W0.heap.size, 0, none⟩) 1 1]).run Try.prog (W0.alloc (.cells #[.int .i64 p] 3)) = .ok (.slice (some ⟨g, 0, none⟩) k c) w1
  hc1 : w1.cell? ⟨S, 0, none⟩ = some v
  hf1 : w1.frozen? ⟨S, 0, none⟩ = false
theorem step0 {ds : List Deferred} {S : Nat} {ap : Addr} {v : Value} {g k c : Nat} {p : Int} {W0 w1 : World} {l : Array Bool} {f : Act} {w : World} {F : Fence} {n : Nat} {Q : Exit → Act → World → Prop} (hG : Given S ap v g k c p W0 w1) (hI : Inv ds S ap v (.slice (some ⟨g, 0, none⟩) k c) p W0 w1 (w1.setCell ⟨S, 0, none⟩ (.slice (some ⟨g, 0, none⟩) k c)) l f w) (hi : 0 ∈ Region.ready .any (opsOf Try.f24 8) l) (hu : l.getD 0 false = false) : wpOpIn F n Try.prog (opsOf Try.f24 8) Q 0 (Inv ds S ap v (.slice (some ⟨g, 0, none⟩) k c) p W0 w1 (w1.setCell ⟨S, 0, none⟩ (.slice (some ⟨g, 0, none⟩) k c)) (l.setIfInBounds 0 true)) f w := by
  obtain ⟨o, ho, hs, hdep⟩ := sig_at hi
  have hs := Option.some.inj hs
  have hd : o.dst = _ := (congrArg (·.1) hs).symm
  have hop := (congrArg (·.2.1) hs).symm
  have hg : o.guard = none := (congrArg (·.2.2.1) hs).symm
  have hty := (congrArg (·.2.2.2.1) hs).symm
  rw [← hs] at hdep
  dsimp only [sig] at hop hdep hty
  have hab : ∀ g, o.about Try.prog w f.eval = some g → F.fn g := by simp [Oper.about, hop, resolve, Target.leads, Sem.run_pure]
  have hnd : ∀ c, o.op ≠ .defer c := by rw [hop]; intro c h; cases h
  have z5 : l.getD 5 false = false := Bool.eq_false_iff.mpr (fun h => by rw [(hI.c5 h).1] at hu; cases hu)
  have hcell : w.cell? ⟨S, 0, none⟩ = some v := by
    cases h4 : l.getD 4 false with
    | false => rw [hI.wA z5 h4]; exact hG.hbo
    | true => rw [hI.wB z5 h4]; exact hG.hbo2
  refine st ho hg hab hnd (ex_load f o 29 4 w ⟨S, 0, none⟩ v 22 hop (.inl rfl) hI.t4 hcell) ?_
  rw [hd]
  have e := fun j => getD_set7 l 0 j (by rw [hI.lsize]; decide)
  have q := fun t u => put_get f 29 t u (by rw [hI.size]; decide)
  have hsz := hI.size
  have hls := hI.lsize
  have a4 := hI.t4
  have a5 := hI.t5
  have b0 := hI.d0
  have b1 := hI.d1
  have b2 := hI.d2
  have b3 := hI.d3
  have b4 := hI.d4
  have b5 := hI.d5
  have k4 := hI.c4
  have k5 := hI.c5
  have k6 := hI.c6
  have xA := hI.wA
  have xB := hI.wB
  have xC := hI.wC
  have xD := hI.wD
  clear hI hi ho hs hdep hop hG
  refine ⟨by show (f.tmps.setIfInBounds 29 _).size = 40; rw [Array.size_setIfInBounds]; exact hsz, by rw [Array.size_setIfInBounds]; exact hls, ?_, ?_, ?_, ?_, ?_, ?_, ?_, ?_, ?_, ?_, ?_, ?_, ?_, ?_, ?_⟩
  all_goals (simp only [e, q])
  all_goals simp_all
theorem step1 {ds : List Deferred} {S : Nat} {ap : Addr} {v : Value} {g k c : Nat} {p : Int} {W0 w1 : World} {l : Array Bool} {f : Act} {w : World} {F : Fence} {n : Nat} {Q : Exit → Act → World → Prop} (hG : Given S ap v g k c p W0 w1) (hI : Inv ds S ap v (.slice (some ⟨g, 0, none⟩) k c) p W0 w1 (w1.setCell ⟨S, 0, none⟩ (.slice (some ⟨g, 0, none⟩) k c)) l f w) (hi : 1 ∈ Region.ready .any (opsOf Try.f24 8) l) (hu : l.getD 1 false = false) : wpOpIn F n Try.prog (opsOf Try.f24 8) Q 1 (Inv ds S ap v (.slice (some ⟨g, 0, none⟩) k c) p W0 w1 (w1.setCell ⟨S, 0, none⟩ (.slice (some ⟨g, 0, none⟩) k c)) (l.setIfInBounds 1 true)) f w := by
  obtain ⟨o, ho, hs, hdep⟩ := sig_at hi
  have hs := Option.some.inj hs
  have hd : o.dst = _ := (congrArg (·.1) hs).symm
  have hop := (congrArg (·.2.1) hs).symm
  have hg : o.guard = none := (congrArg (·.2.2.1) hs).symm
  have hty := (congrArg (·.2.2.2.1) hs).symm
  rw [← hs] at hdep
  dsimp only [sig] at hop hdep hty
  have hab : ∀ g, o.about Try.prog w f.eval = some g → F.fn g := by simp [Oper.about, hop, resolve, Target.leads, Sem.run_pure]
  have hnd : ∀ c, o.op ≠ .defer c := by rw [hop]; intro c h; cases h
  refine st ho hg hab hnd (ex_move f o 5 w _ hop hI.t5) ?_
  rw [hd]
  have e := fun j => getD_set7 l 1 j (by rw [hI.lsize]; decide)
  have q := fun t u => put_get f 30 t u (by rw [hI.size]; decide)
  have hsz := hI.size
  have hls := hI.lsize
  have a4 := hI.t4
  have a5 := hI.t5
  have b0 := hI.d0
  have b1 := hI.d1
  have b2 := hI.d2
  have b3 := hI.d3
  have b4 := hI.d4
  have b5 := hI.d5
  have k4 := hI.c4
  have k5 := hI.c5
  have k6 := hI.c6
  have xA := hI.wA
  have xB := hI.wB
  have xC := hI.wC
  have xD := hI.wD
  clear hI hi ho hs hdep hop hG
  refine ⟨by show (f.tmps.setIfInBounds 30 _).size = 40; rw [Array.size_setIfInBounds]; exact hsz, by rw [Array.size_setIfInBounds]; exact hls, ?_, ?_, ?_, ?_, ?_, ?_, ?_, ?_, ?_, ?_, ?_, ?_, ?_, ?_, ?_⟩
  all_goals (simp only [e, q])
  all_goals simp_all
theorem step2 {ds : List Deferred} {S : Nat} {ap : Addr} {v : Value} {g k c : Nat} {p : Int} {W0 w1 : World} {l : Array Bool} {f : Act} {w : World} {F : Fence} {n : Nat} {Q : Exit → Act → World → Prop} (hG : Given S ap v g k c p W0 w1) (hI : Inv ds S ap v (.slice (some ⟨g, 0, none⟩) k c) p W0 w1 (w1.setCell ⟨S, 0, none⟩ (.slice (some ⟨g, 0, none⟩) k c)) l f w) (hi : 2 ∈ Region.ready .any (opsOf Try.f24 8) l) (hu : l.getD 2 false = false) : wpOpIn F n Try.prog (opsOf Try.f24 8) Q 2 (Inv ds S ap v (.slice (some ⟨g, 0, none⟩) k c) p W0 w1 (w1.setCell ⟨S, 0, none⟩ (.slice (some ⟨g, 0, none⟩) k c)) (l.setIfInBounds 2 true)) f w := by
  obtain ⟨o, ho, hs, hdep⟩ := sig_at hi
  have hs := Option.some.inj hs
  have hd : o.dst = _ := (congrArg (·.1) hs).symm
  have hop := (congrArg (·.2.1) hs).symm
  have hg : o.guard = none := (congrArg (·.2.2.1) hs).symm
  have hty := (congrArg (·.2.2.2.1) hs).symm
  rw [← hs] at hdep
  dsimp only [sig] at hop hdep hty
  have hab : ∀ g, o.about Try.prog w f.eval = some g → F.fn g := by simp [Oper.about, hop, resolve, Target.leads, Sem.run_pure]
  have hnd : ∀ c, o.op ≠ .defer c := by rw [hop]; intro c h; cases h
  refine st ho hg hab hnd (ex_idx f o 30 w ap hop (hI.d1 (hdep 1 (by decide)))) ?_
  rw [hd]
  have e := fun j => getD_set7 l 2 j (by rw [hI.lsize]; decide)
  have q := fun t u => put_get f 31 t u (by rw [hI.size]; decide)
  have hsz := hI.size
  have hls := hI.lsize
  have a4 := hI.t4
  have a5 := hI.t5
  have b0 := hI.d0
  have b1 := hI.d1
  have b2 := hI.d2
  have b3 := hI.d3
  have b4 := hI.d4
  have b5 := hI.d5
  have k4 := hI.c4
  have k5 := hI.c5
  have k6 := hI.c6
  have xA := hI.wA
  have xB := hI.wB
  have xC := hI.wC
  have xD := hI.wD
  clear hI hi ho hs hdep hop hG
  refine ⟨by show (f.tmps.setIfInBounds 31 _).size = 40; rw [Array.size_setIfInBounds]; exact hsz, by rw [Array.size_setIfInBounds]; exact hls, ?_, ?_, ?_, ?_, ?_, ?_, ?_, ?_, ?_, ?_, ?_, ?_, ?_, ?_, ?_⟩
  all_goals (simp only [e, q])
  all_goals simp_all
theorem step3 {ds : List Deferred} {S : Nat} {ap : Addr} {v : Value} {g k c : Nat} {p : Int} {W0 w1 : World} {l : Array Bool} {f : Act} {w : World} {F : Fence} {n : Nat} {Q : Exit → Act → World → Prop} (hG : Given S ap v g k c p W0 w1) (hI : Inv ds S ap v (.slice (some ⟨g, 0, none⟩) k c) p W0 w1 (w1.setCell ⟨S, 0, none⟩ (.slice (some ⟨g, 0, none⟩) k c)) l f w) (hi : 3 ∈ Region.ready .any (opsOf Try.f24 8) l) (hu : l.getD 3 false = false) : wpOpIn F n Try.prog (opsOf Try.f24 8) Q 3 (Inv ds S ap v (.slice (some ⟨g, 0, none⟩) k c) p W0 w1 (w1.setCell ⟨S, 0, none⟩ (.slice (some ⟨g, 0, none⟩) k c)) (l.setIfInBounds 3 true)) f w := by
  obtain ⟨o, ho, hs, hdep⟩ := sig_at hi
  have hs := Option.some.inj hs
  have hd : o.dst = _ := (congrArg (·.1) hs).symm
  have hop := (congrArg (·.2.1) hs).symm
  have hg : o.guard = none := (congrArg (·.2.2.1) hs).symm
  have hty := (congrArg (·.2.2.2.1) hs).symm
  rw [← hs] at hdep
  dsimp only [sig] at hop hdep hty
  have hab : ∀ g, o.about Try.prog w f.eval = some g → F.fn g := by simp [Oper.about, hop, resolve, Target.leads, Sem.run_pure]
  have hnd : ∀ c, o.op ≠ .defer c := by rw [hop]; intro c h; cases h
  have z4 : l.getD 4 false = false := Bool.eq_false_iff.mpr (fun h => by rw [hI.c4 h] at hu; cases hu)
  have z5 : l.getD 5 false = false := Bool.eq_false_iff.mpr (fun h => by rw [(hI.c5 h).2] at z4; cases z4)
  have hcell : w.cell? ap = some (.int .i64 p) := by rw [hI.wA z5 z4]; exact hG.hA
  refine st ho hg hab hnd (ex_load f o 32 31 w ap _ 3 hop (.inr rfl) (hI.d2 (hdep 2 (by decide))) hcell) ?_
  rw [hd]
  have e := fun j => getD_set7 l 3 j (by rw [hI.lsize]; decide)
  have q := fun t u => put_get f 32 t u (by rw [hI.size]; decide)
  have hsz := hI.size
  have hls := hI.lsize
  have a4 := hI.t4
  have a5 := hI.t5
  have b0 := hI.d0
  have b1 := hI.d1
  have b2 := hI.d2
  have b3 := hI.d3
  have b4 := hI.d4
  have b5 := hI.d5
  have k4 := hI.c4
  have k5 := hI.c5
  have k6 := hI.c6
  have xA := hI.wA
  have xB := hI.wB
  have xC := hI.wC
  have xD := hI.wD
  clear hI hi ho hs hdep hop hG
  refine ⟨by show (f.tmps.setIfInBounds 32 _).size = 40; rw [Array.size_setIfInBounds]; exact hsz, by rw [Array.size_setIfInBounds]; exact hls, ?_, ?_, ?_, ?_, ?_, ?_, ?_, ?_, ?_, ?_, ?_, ?_, ?_, ?_, ?_⟩
  all_goals (simp only [e, q])
  all_goals simp_all
theorem step4 {ds : List Deferred} {S : Nat} {ap : Addr} {v : Value} {g k c : Nat} {p : Int} {W0 w1 : World} {l : Array Bool} {f : Act} {w : World} {F : Fence} {n : Nat} {Q : Exit → Act → World → Prop} (hG : Given S ap v g k c p W0 w1) (hI : Inv ds S ap v (.slice (some ⟨g, 0, none⟩) k c) p W0 w1 (w1.setCell ⟨S, 0, none⟩ (.slice (some ⟨g, 0, none⟩) k c)) l f w) (hi : 4 ∈ Region.ready .any (opsOf Try.f24 8) l) (hu : l.getD 4 false = false) : wpOpIn F n Try.prog (opsOf Try.f24 8) Q 4 (Inv ds S ap v (.slice (some ⟨g, 0, none⟩) k c) p W0 w1 (w1.setCell ⟨S, 0, none⟩ (.slice (some ⟨g, 0, none⟩) k c)) (l.setIfInBounds 4 true)) f w := by
  obtain ⟨o, ho, hs, hdep⟩ := sig_at hi
  have hs := Option.some.inj hs
  have hd : o.dst = _ := (congrArg (·.1) hs).symm
  have hop := (congrArg (·.2.1) hs).symm
  have hg : o.guard = none := (congrArg (·.2.2.1) hs).symm
  have hty := (congrArg (·.2.2.2.1) hs).symm
  rw [← hs] at hdep
  dsimp only [sig] at hop hdep hty
  have hab : ∀ g, o.about Try.prog w f.eval = some g → F.fn g := by simp [Oper.about, hop, resolve, Target.leads, Sem.run_pure]
  have hnd : ∀ c, o.op ≠ .defer c := by rw [hop]; intro c h; cases h
  have z5 : l.getD 5 false = false := Bool.eq_false_iff.mpr (fun h => by rw [(hI.c5 h).2] at hu; cases hu)
  have hw := hI.wA z5 hu
  subst hw
  refine st ho hg hab hnd (ex_build f o 32 _ p hop (hI.d3 (hdep 3 (by decide)))) ?_
  rw [hd]
  have e := fun j => getD_set7 l 4 j (by rw [hI.lsize]; decide)
  have q := fun t u => put_get f 33 t u (by rw [hI.size]; decide)
  have hsz := hI.size
  have hls := hI.lsize
  have a4 := hI.t4
  have a5 := hI.t5
  have b0 := hI.d0
  have b1 := hI.d1
  have b2 := hI.d2
  have b3 := hI.d3
  have b4 := hI.d4
  have b5 := hI.d5
  have k4 := hI.c4
  have k5 := hI.c5
  have k6 := hI.c6
  have xA := hI.wA
  have xB := hI.wB
  have xC := hI.wC
  have xD := hI.wD
  have dd3 := hdep 3 (by decide)
  clear xB
  clear hI hi ho hs hdep hop hG
  refine ⟨by show (f.tmps.setIfInBounds 33 _).size = 40; rw [Array.size_setIfInBounds]; exact hsz, by rw [Array.size_setIfInBounds]; exact hls, ?_, ?_, ?_, ?_, ?_, ?_, ?_, ?_, ?_, ?_, ?_, ?_, ?_, ?_, ?_⟩
  all_goals (simp only [e, q])
  all_goals simp_all
theorem step5 {ds : List Deferred} {S : Nat} {ap : Addr} {v : Value} {g k c : Nat} {p : Int} {W0 w1 : World} {l : Array Bool} {f : Act} {w : World} {F : Fence} {n : Nat} {Q : Exit → Act → World → Prop} (hG : Given S ap v g k c p W0 w1) (hI : Inv ds S ap v (.slice (some ⟨g, 0, none⟩) k c) p W0 w1 (w1.setCell ⟨S, 0, none⟩ (.slice (some ⟨g, 0, none⟩) k c)) l f w) (hi : 5 ∈ Region.ready .any (opsOf Try.f24 8) l) (hu : l.getD 5 false = false) : wpOpIn F n Try.prog (opsOf Try.f24 8) Q 5 (Inv ds S ap v (.slice (some ⟨g, 0, none⟩) k c) p W0 w1 (w1.setCell ⟨S, 0, none⟩ (.slice (some ⟨g, 0, none⟩) k c)) (l.setIfInBounds 5 true)) f w := by
  obtain ⟨o, ho, hs, hdep⟩ := sig_at hi
  have hs := Option.some.inj hs
  have hd : o.dst = _ := (congrArg (·.1) hs).symm
  have hop := (congrArg (·.2.1) hs).symm
  have hg : o.guard = none := (congrArg (·.2.2.1) hs).symm
  have hty := (congrArg (·.2.2.2.1) hs).symm
  rw [← hs] at hdep
  dsimp only [sig] at hop hdep hty
  have hab : ∀ g, o.about Try.prog w f.eval = some g → F.fn g := by simp [Oper.about, hop, resolve, Target.leads, Sem.run_pure]
  have hnd : ∀ c, o.op ≠ .defer c := by rw [hop]; intro c h; cases h
  have g0 := hdep 0 (by decide)
  have g4 := hdep 4 (by decide)
  have hw := hI.wB hu g4
  subst hw
  refine st ho hg hab hnd (ex_append f o 29 33 _ w1 _ _ _ hop hty (hI.d0 g0) (hI.d4 g4) hG.hrun) ?_
  rw [hd]
  have e := fun j => getD_set7 l 5 j (by rw [hI.lsize]; decide)
  have q := fun t u => put_get f 34 t u (by rw [hI.size]; decide)
  have hsz := hI.size
  have hls := hI.lsize
  have a4 := hI.t4
  have a5 := hI.t5
  have b0 := hI.d0
  have b1 := hI.d1
  have b2 := hI.d2
  have b3 := hI.d3
  have b4 := hI.d4
  have b5 := hI.d5
  have k4 := hI.c4
  have k5 := hI.c5
  have k6 := hI.c6
  have xA := hI.wA
  have xB := hI.wB
  have xC := hI.wC
  have xD := hI.wD
  clear hI hi ho hs hdep hop hG
  refine ⟨by show (f.tmps.setIfInBounds 34 _).size = 40; rw [Array.size_setIfInBounds]; exact hsz, by rw [Array.size_setIfInBounds]; exact hls, ?_, ?_, ?_, ?_, ?_, ?_, ?_, ?_, ?_, ?_, ?_, ?_, ?_, ?_, ?_⟩
  all_goals (simp only [e, q])
  all_goals simp_all
theorem step6 {ds : List Deferred} {S : Nat} {ap : Addr} {v : Value} {g k c : Nat} {p : Int} {W0 w1 : World} {l : Array Bool} {f : Act} {w : World} {F : Fence} {n : Nat} {Q : Exit → Act → World → Prop} (hG : Given S ap v g k c p W0 w1) (hI : Inv ds S ap v (.slice (some ⟨g, 0, none⟩) k c) p W0 w1 (w1.setCell ⟨S, 0, none⟩ (.slice (some ⟨g, 0, none⟩) k c)) l f w) (hi : 6 ∈ Region.ready .any (opsOf Try.f24 8) l) (hu : l.getD 6 false = false) : wpOpIn F n Try.prog (opsOf Try.f24 8) Q 6 (Inv ds S ap v (.slice (some ⟨g, 0, none⟩) k c) p W0 w1 (w1.setCell ⟨S, 0, none⟩ (.slice (some ⟨g, 0, none⟩) k c)) (l.setIfInBounds 6 true)) f w := by
  obtain ⟨o, ho, hs, hdep⟩ := sig_at hi
  have hs := Option.some.inj hs
  have hd : o.dst = _ := (congrArg (·.1) hs).symm
  have hop := (congrArg (·.2.1) hs).symm
  have hg : o.guard = none := (congrArg (·.2.2.1) hs).symm
  have hty := (congrArg (·.2.2.2.1) hs).symm
  rw [← hs] at hdep
  dsimp only [sig] at hop hdep hty
  have hab : ∀ g, o.about Try.prog w f.eval = some g → F.fn g := by simp [Oper.about, hop, resolve, Target.leads, Sem.run_pure]
  have hnd : ∀ c, o.op ≠ .defer c := by rw [hop]; intro c h; cases h
  have g5 := hdep 5 (by decide)
  have hw := hI.wC g5 hu
  subst hw
  refine st_skip ho hg hab hnd (ex_store f o _ S g k c v hop hI.t4 (hI.d5 g5) hG.hc1 hG.hf1) ?_
  rw [hd]
  have e := fun j => getD_set7 l 6 j (by rw [hI.lsize]; decide)
  refine ⟨hI.size, by rw [Array.size_setIfInBounds]; exact hI.lsize, hI.t4, hI.t5, ?_, ?_, ?_, ?_, ?_, ?_, ?_, ?_, ?_, ?_, ?_, ?_, ?_⟩
  all_goals (simp only [e])
  · exact hI.d0
  · exact hI.d1
  · exact hI.d2
  · exact hI.d3
  · exact hI.d4
  · exact hI.d5
  · exact hI.c4
  · exact hI.c5
  · exact fun _ => g5
  · exact fun h => absurd (g5.symm.trans h) (by decide)
  · exact fun h => absurd (g5.symm.trans h) (by decide)
  · exact fun _ h => absurd h (by simp)
  · exact fun _ => by trivial
theorem step {ds : List Deferred} {S : Nat} {ap : Addr} {v : Value} {g k c : Nat} {p : Int} {W0 w1 : World} {l : Array Bool} {f : Act} {w : World} {F : Fence} {n : Nat} {Q : Exit → Act → World → Prop} (hG : Given S ap v g k c p W0 w1) (hI : Inv ds S ap v (.slice (some ⟨g, 0, none⟩) k c) p W0 w1 (w1.setCell ⟨S, 0, none⟩ (.slice (some ⟨g, 0, none⟩) k c)) l f w) : ∀ (i : Nat), i ∈ Region.ready .any (opsOf Try.f24 8) l → l.getD i false = false → wpOpIn F n Try.prog (opsOf Try.f24 8) Q i (Inv ds S ap v (.slice (some ⟨g, 0, none⟩) k c) p W0 w1 (w1.setCell ⟨S, 0, none⟩ (.slice (some ⟨g, 0, none⟩) k c)) (l.setIfInBounds i true)) f w
  | 0, hi, hu => step0 hG hI hi hu
  | 1, hi, hu => step1 hG hI hi hu
  | 2, hi, hu => step2 hG hI hi hu
  | 3, hi, hu => step3 hG hI hi hu
  | 4, hi, hu => step4 hG hI hi hu
  | 5, hi, hu => step5 hG hI hi hu
  | 6, hi, hu => step6 hG hI hi hu
  | i + 7, hi, _ => by
    obtain ⟨o, _, hs, _⟩ := sig_at hi
    cases hs
theorem deps_lt : ∀ j, j < 7 → ∀ d ∈ ((sigs[j]?).map (·.2.2.2.2)).getD [], d < j := by decide +kernel
theorem all_done {l : Array Bool} (hl : l.size = 7) (hr : Region.ready .any (opsOf Try.f24 8) l = []) : ∀ m j, j < m → j < 7 → l.getD j false = true := by
  intro m
  induction m with
  | zero => intro j h; omega
  | succ m ih =>
    intro j hjm hj
    have hlj : j < l.size := by omega
    cases hv : l[j] with
    | true => rw [Array.getD_eq_getD_getElem?, Array.getElem?_eq_getElem hlj, hv]; rfl
    | false =>
      have hsz : (opsOf Try.f24 8).size = 7 := by kernel_rfl
      have hjo : j < (opsOf Try.f24 8).size := by omega
      have hin : j ∈ Region.ready .any (opsOf Try.f24 8) l := by
        refine mem_ready.2 ⟨by rw [Array.getD_eq_getD_getElem?, Array.getElem?_eq_getElem hlj, hv]; rfl, (opsOf Try.f24 8)[j], Array.getElem?_eq_getElem hjo, ?_⟩
        intro e he hb
        have hs : sigs[j]? = some (sig (opsOf Try.f24 8)[j]) := by rw [← sigs_are, Array.getElem?_toList, Array.getElem?_map, Array.getElem?_eq_getElem hjo]; rfl
        have hlt := deps_lt j hj e.on (by
          rw [hs]
          exact List.mem_map.mpr ⟨e, List.mem_filter.mpr ⟨by simpa using he, by simpa using hb⟩, rfl⟩)
        exact ih e.on (by omega) (by omega)
      rw [hr] at hin
      cases hin
/-- The whole region. -/
theorem region8 {ops : Array Oper} (hops : ops = opsOf Try.f24 8) {F : Fence} {n : Nat} {Q : Exit → Act → World → Prop} {W w1 : World} {S g k c : Nat} {ap : Addr} {v : Value} {p : Int} {f : Act} (hG : Given S ap v g k c p W.drew w1)
    (size : f.tmps.size = 40) (t4 : f.tmps[4]? = some (.pointer (some ⟨S, 0, none⟩))) (t5 : f.tmps[5]? = some (.slice (some ap) 2 2)) (hQ : ∀ f', Q .normal f' (w1.setCell ⟨S, 0, none⟩ (.slice (some ⟨g, 0, none⟩) k c))) :
    (Code.region 8 ops true).wpIn F n Try.prog Q f W := by
  subst hops
  have hsz : (opsOf Try.f24 8).size = 7 := by kernel_rfl
  refine wpIn_region_inv (I := Inv f.defers S ap v (.slice (some ⟨g, 0, none⟩) k c) p W.drew w1 (w1.setCell ⟨S, 0, none⟩ (.slice (some ⟨g, 0, none⟩) k c))) (by kernel_rfl) ?_ ?_ ?_
  · have z : ∀ j, (Array.replicate (opsOf Try.f24 8).size false).getD j false = false := by
      intro j
      rw [Array.getD_eq_getD_getElem?, Array.getElem?_replicate]
      split <;> rfl
    refine ⟨size, by rw [Array.size_replicate, hsz], t4, t5, ?_, ?_, ?_, ?_, ?_, ?_, ?_, ?_, ?_, ?_, ?_, ?_, ?_⟩
    all_goals (simp only [z])
    all_goals (first | exact fun h => absurd h (by decide) | exact fun _ h => absurd h (by decide) | exact fun _ _ => rfl | (intros; trivial))
  · intro l f' w' hI hr
    have h6 := all_done hI.lsize hr 7 6 (by decide) (by decide)
    rw [hI.wD h6]
    exact hQ f'
  · intro l f' w' i hI hi hu
    refine step hG hI i hi ?_
    have h := hu
    have hin : i < l.size := by
      rcases Nat.lt_or_ge i l.size with h' | h'
      · exact h'
      · rw [Array.getD_eq_getD_getElem?, Array.getElem?_eq_none h'] at hu; cases hu
    rw [Array.getD_eq_getD_getElem?, Array.getElem?_eq_getElem hin] at hu ⊢
    exact hu
end Go.Proofs.Ytiapecjiedhaoaa.Reg8
