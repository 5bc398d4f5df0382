/- Rows of pairs, cell by cell; the contract of slices.Insert of one pair. -/
import Derived.Test.YtgbjinonlfhciaaHandE2
import Derived.Lib.Overlaps
import Derived.Lib.AppendZeros
import Derived.Lib.AppendZerosOnto
import Derived.Laws.CopyRow
import Derived.Laws.CopyOwn
import Derived.Laws.Externs
import Derived.Laws.NewBlocks
namespace Go.Proofs.Ytgbjinonlfhciaa.BkV
open Go.RowKit Go.Proofs.Ytgbjinonlfhciaa.MBk Go.Proofs.YtgbjinonlfhciaaW.PrintWords Go.Proofs.YtgbjinonlfhciaaW.PrintLast
set_option linter.unusedVariables false
/-- The cells of pairs. -/
def pcs : List S27 → List Value
  | [] => []
  | x :: r => .string x.f0 :: .string x.f1 :: pcs r
theorem pcs_len : ∀ l : List S27, (pcs l).length = l.length * 2
  | [] => rfl
  | x :: r => by
    show (pcs r).length + 1 + 1 = (r.length + 1) * 2
    rw [pcs_len r]
    omega
theorem pcs_append : ∀ a b : List S27, pcs (a ++ b) = pcs a ++ pcs b
  | [], b => rfl
  | x :: r, b => by
    show .string x.f0 :: .string x.f1 :: pcs (r ++ b) = .string x.f0 :: .string x.f1 :: (pcs r ++ pcs b)
    rw [pcs_append r b]
theorem pcs_take (l : List S27) (i : Nat) (hi : i ≤ l.length) : (pcs l).take (i * 2) = pcs (l.take i) := by
  have h := pcs_append (l.take i) (l.drop i)
  rw [List.take_append_drop] at h
  rw [h, List.take_append_of_le_length (by rw [pcs_len, List.length_take]; omega), List.take_of_length_le (by rw [pcs_len, List.length_take]; omega)]
theorem pcs_drop (l : List S27) (i : Nat) (hi : i ≤ l.length) : (pcs l).drop (i * 2) = pcs (l.drop i) := by
  have h := pcs_append (l.take i) (l.drop i)
  rw [List.take_append_drop] at h
  have hl : i * 2 = (pcs (l.take i)).length := by rw [pcs_len, List.length_take]; omega
  rw [h, hl, List.drop_left]
theorem pcs_one : ∀ l : List S27, ∀ v ∈ pcs l, v.oneCell' = true
  | [], v, h => by cases h
  | x :: r, v, h => by
    rcases List.mem_cons.mp h with rfl | h
    · rfl
    · rcases List.mem_cons.mp h with rfl | h
      · rfl
      · exact pcs_one r v h
theorem reps_pcs (w : World) (base : Nat) (ok : Nat → Prop) (l : List S27) : Reps (k27.M w base ok) 2 l (pcs l) := by
  refine ⟨pcs_len l, fun j p hj => ?_⟩
  have hlt : j < l.length := (List.getElem?_eq_some_iff.1 hj).1
  have he : l[j] = p := (List.getElem?_eq_some_iff.1 hj).2
  rw [pcs_drop l j (by omega), List.drop_eq_getElem_cons hlt, he]
  exact k27_mkM w base ok p
theorem pcs_of_reps {w : World} {base : Nat} {ok : Nat → Prop} : ∀ {l : List S27} {inner : List Value}, Reps (k27.M w base ok) 2 l inner → inner = pcs l
  | [], inner, h => List.eq_nil_of_length_eq_zero (by rw [h.1]; rfl)
  | x :: r, inner, h => by
    have h0 := k27_openM (h.2 0 x rfl)
    rw [Nat.zero_mul, List.drop_zero] at h0
    have hr : Reps (k27.M w base ok) 2 r (inner.drop 2) := by
      refine ⟨by rw [List.length_drop, h.1, List.length_cons]; omega, fun j p hj => ?_⟩
      have := h.2 (j + 1) p hj
      rw [List.drop_drop, show 2 + j * 2 = (j + 1) * 2 by omega]
      exact this
    have := pcs_of_reps hr
    rw [← List.take_append_drop 2 inner, h0, this]
    rfl
theorem own_of_R {w : World} {base : Nat} {ok : Nat → Prop} {v : Value} {l : List S27} (h : Kd.R k27 27 w base ok v l) : w.ownsRow base 27 2 v l.length (pcs l) := by
  obtain ⟨_, inner, ho, hr⟩ := h
  have e := pcs_of_reps hr
  rw [← e]
  exact ho
theorem R_of_own {w : World} {base : Nat} {ok : Nat → Prop} {v : Value} {l : List S27} (ho : w.ownsRow base 27 2 v l.length (pcs l)) (hok : ∀ k, v.ownBlock = some k → ok k) : Kd.R k27 27 w base ok v l :=
  ⟨hok, pcs l, ho, reps_pcs _ _ _ _⟩
theorem add1i {j : Nat} (h : j ≤ 1000000000) : wrap64 ((j : Int) + 1) = (j : Int) + 1 := by unfold wrap64; omega
theorem own_row {w : World} {base g cap n : Nat} {ys : List S27} {A B : List Value} (hb : base ≤ g) (hg : w.heap[g]? = some (.cells (A ++ B).toArray 27 (0, 0))) (hp : pcs ys = A) (hl : ys.length = n) (hr : n ≤ cap) (hc : cap ≤ maxLen) (hs : (A ++ B).length = cap * 2) : Kd.R k27 27 w base (fun _ => True) (.slice (some ⟨g, 0, none⟩) n cap) ys := by
  subst hl
  subst hp
  refine R_of_own ⟨pcs_len _, .inr ⟨g, cap, (pcs ys ++ B).toArray, rfl, hb, hg, hr, hc, ?_, ?_⟩⟩ (fun _ _ => trivial)
  · rw [List.size_toArray]
    exact hs
  · rw [List.toList_toArray, ← pcs_len ys, List.take_left]
theorem seg_insert {L P Q sp X : List Value} {a q : Nat} (hL : L = P ++ Q ++ sp) (hP : P.length = a) (hQ : Q.length = q) (hs : 2 ≤ sp.length) :
    ((L.take (a + 2) ++ Q ++ L.drop (a + 2 + q)).take a ++ X ++ (L.take (a + 2) ++ Q ++ L.drop (a + 2 + q)).drop (a + 2)) = P ++ X ++ Q ++ sp.drop 2 := by
  have hlen : (L.take (a + 2)).length = a + 2 := by rw [List.length_take, hL, List.length_append, List.length_append]; omega
  have e1 : (L.take (a + 2) ++ Q ++ L.drop (a + 2 + q)).take a = P := by
    rw [List.append_assoc, List.take_append_of_le_length (by omega), List.take_take, Nat.min_eq_left (by omega), hL, List.append_assoc, ← hP, List.take_left]
  have e2 : (L.take (a + 2) ++ Q ++ L.drop (a + 2 + q)).drop (a + 2) = Q ++ L.drop (a + 2 + q) := by
    rw [List.append_assoc]
    conv => lhs; arg 1; rw [← hlen]
    rw [List.drop_left]
  have e3 : L.drop (a + 2 + q) = sp.drop 2 := by
    rw [hL, show a + 2 + q = (P ++ Q).length + 2 by rw [List.length_append]; omega, ← List.drop_drop, List.drop_left]
  rw [e1, e2, e3, List.append_assoc, List.append_assoc, List.append_assoc]
theorem seg_grow {L P Q Z X : List Value} {a q : Nat} (hL : L = P ++ Z) (hP : P.length = a) (hX : X.length = 2) (hQ : Q.length = q) (hZ : 2 + q ≤ Z.length) :
    ((L.take a ++ X ++ L.drop (a + 2)).take (a + 2) ++ Q ++ (L.take a ++ X ++ L.drop (a + 2)).drop (a + 2 + q)) = P ++ X ++ Q ++ Z.drop (2 + q) := by
  have e0 : L.take a = P := by rw [hL, ← hP, List.take_left]
  have e1 : L.drop (a + 2) = Z.drop 2 := by rw [hL, ← hP, ← List.drop_drop, List.drop_left]
  rw [e0, e1]
  have hl : (P ++ X).length = a + 2 := by rw [List.length_append]; omega
  have e2 : (P ++ X ++ Z.drop 2).take (a + 2) = P ++ X := by rw [← hl, List.take_left]
  have e3 : (P ++ X ++ Z.drop 2).drop (a + 2 + q) = Z.drop (2 + q) := by
    rw [← hl, ← List.drop_drop, List.drop_left, List.drop_drop]
  rw [e2, e3]
end Go.Proofs.Ytgbjinonlfhciaa.BkV
namespace Go.Proofs.Ytgbjinonlfhciaa.MBk
open Go.RowKit Go.Proofs.Ytgbjinonlfhciaa.BkV Go.Proofs.YtgbjinonlfhciaaW.PrintWords Go.Proofs.YtgbjinonlfhciaaW.PrintLast Go.Proofs.YtgbjinonlfhciaaW.PrintMore
set_option linter.unusedVariables false
set_option linter.unusedSimpArgs false
theorem cut_room {P : Program} (t e : TypeId) (kh : IntKind) {i : TypeInfo} (ht : P.underlying t = some (.slice e)) (hi : P.info? e = some i) (A : Option Addr) (n c : Nat) (j : Int) (h0 : 0 ≤ j) (hm : j ≤ c) :
    ∀ W : World, (Instr.slice t (.slice A n c) none (some (.int kh j)) none).run P W = .ok (.slice A j.toNat c) W := by
  intro W
  have hel : P.elem t = e := by simp [Program.elem, ht]
  have hu : P.underlying t = some (.slice (P.elem t)) := by rw [hel]; exact ht
  have ha : (A.map fun x => x.add 0) = A := by cases A <;> simp [Addr.add]
  rw [run_slice_h W t A n c hu kh j h0 (by omega), hel]
  simp [sizeOf, typeInfo, hi, sliced, Result.andThen, ha]
/-- copy, at elements of any size. -/
theorem run_copy_rows {P : Program} (w : World) (dT sT ty elem : TypeId) (sz m : Nat) (g o dLen dCap : Nat) (a : Addr) (sLen sCap : Nat) (cur : Array Value) (t : TypeId) (cs : List Value)
    (hu : P.underlying dT = some (.slice elem)) (hs : (P.info? elem).map (·.size) = some sz)
    (hg : w.heap[g]? = some (.cells cur t (0, 0))) (hm : Nat.min sLen dLen = m) (hn : cs.length = m * sz)
    (hsrc : ∀ j v, cs[j]? = some v → w.cell? (a.add j) = some v) (hfit : o + cs.length ≤ cur.size) (h1 : ∀ v ∈ cs, v.oneCell' = true) :
    (Builtin.copy_ #[dT, sT] ty #[.slice (some ⟨g, o, none⟩) dLen dCap, .slice (some a) sLen sCap]).run P w =
      .ok (goInt m) (w.setRow g (cur.toList.take o ++ cs ++ cur.toList.drop (o + cs.length)).toArray) := by
  have hl := run_loadCells_list (P := P) w a cs hsrc
  have hst := run_storeCells_at P g o t cs 0 cur w hg (by simpa using hfit) h1
  rw [hn] at hl
  cases hq : P.info? elem with
  | none => simp [hq] at hs
  | some i =>
    have hi : i.size = sz := by simpa [hq] using hs
    simp only [Nat.add_zero] at hst
    simp [Builtin.copy_, run_underlying hu, Builtin.lenOf, Builtin.firstCells, sizeOf, typeInfo, hq, hi, hm, hl, hst]
theorem wpList_copy_ {P : Program} (w : World) {ops : Array Oper} {rest : List Oper} {o : Oper} {a : Act} {Q : Exit → Act → World → Prop} (hgd : o.guard = none) (d s : Operand) (t t' : TypeId)
    (ho : o.op = .call { callee := .builtin .copy, args := #[d, s], argTypes := #[t, t'] }) (v u : Value) (hd : a.eval d = v) (hs : a.eval s = u) {v' : Value} {w' : World}
    (hr : (Builtin.copy_ #[t, t'] o.type #[v, u]).run P w = .ok v' w') (h : wpList P ops Q rest (a.put o.dst v') w') : wpList P ops Q (o :: rest) a w :=
  wpList_plain hgd fun _ hK => by
    unfold Oper.wp execOp
    simp only [ho, resolve, invoke, builtin, Sem.run_bind, Sem.run_pure, Result.andThen_ok, List.map_toArray, List.map_cons, List.map_nil, hd, hs, hr]
    exact hK _ _ h
theorem step_copy_ {P : Program} {ops : Array Oper} {oi : Oper} {N : Option Tmp} {a : Act} {w : World} {K : Act → World → Prop} {Q : Exit → Act → World → Prop} (d x : Operand) (dT sT : TypeId)
    (hw : Region.wanted oi (yielded ops a.tmps) = true) (hN : oi.dst = N) (hop : oi.op = Op.call { callee := Callee.builtin Builtin.copy, args := #[d, x], argTypes := #[dT, sT] })
    (v u : Value) (hd : a.eval d = v) (hx : a.eval x = u) {v' : Value} {w' : World} (hr : (Builtin.copy_ #[dT, sT] oi.type #[v, u]).run P w = .ok v' w') (hK : K (a.put N v') w') :
    if Region.wanted oi (yielded ops a.tmps) = true then Oper.wp P oi a w K Q else K (a.put N undef) w := by
  rw [if_pos hw]
  subst hN
  unfold Oper.wp
  simp [execOp, hop, resolve, invoke, builtin, hd, hx, hr, Result.andThen]
  exact hK
theorem size27 : (Try.prog.info? 27).map (·.size) = some 2 := by kernel_rfl
theorem sizeOf27 (w : World) : (Go.sizeOf 27).run Try.prog w = .ok 2 w := by
  obtain ⟨i0, hi0, hsz⟩ := Option.map_eq_some_iff.1 size27
  simp [Go.sizeOf, typeInfo, hi0, hsz]
theorem pcs_cells {w : World} {g : Nat} {cur : Array Value} {l : List S27} {n : Nat} (hg : w.heap[g]? = some (.cells cur 27 (0, 0))) (hc : cur.toList.take (n * 2) = pcs l) (o : Nat) (q : List Value) (hq : ∀ j v, q[j]? = some v → (pcs l)[o + j]? = some v) :
    ∀ j v, q[j]? = some v → w.cell? ((⟨g, o, none⟩ : Addr).add j) = some v := by
  intro j v hj
  rw [Addr.add_lit, cell_of_row w g (o + j) cur 27 (0, 0) hg]
  have h := hq j v hj
  rw [← hc, List.getElem?_take] at h
  split at h
  · rw [← h, Array.getElem?_toList]
  · cases h
def Insert.T11 : Bool × List (List Nat × List Nat) := (true, [([], []), ([], []), ([], []), ([1, 2], [1, 2]), ([0, 3], [0, 3]), ([], []), ([], []), ([5, 6], [5, 6]), ([4, 7], [4, 7])])
def Insert.B11 : List Nat := [0, 0, 0, 6, 15, 0, 0, 96, 255]
theorem Insert.tab11 : rtab .any (opsOf Try.f30 11) = Insert.T11 := by kernel_rfl
theorem Insert.bits11 : waitsOk Insert.T11.2 Insert.B11 = true := by kernel_rfl
def Insert.T15 : Bool × List (List Nat × List Nat) := (true, [([], []), ([], []), ([], []), ([1, 2], [1, 2]), ([0, 3], [0, 3]), ([], []), ([], []), ([5, 6], [5, 6]), ([4, 7], [4, 7])])
def Insert.B15 : List Nat := [0, 0, 0, 6, 15, 0, 0, 96, 255]
theorem Insert.tab15 : rtab .any (opsOf Try.f30 15) = Insert.T15 := by kernel_rfl
theorem Insert.bits15 : waitsOk Insert.T15.2 Insert.B15 = true := by kernel_rfl
set_option maxHeartbeats 8000000 in
set_option maxRecDepth 100000 in
theorem insert_end (v : Value) (xs : List S27) (x : S27) (gv : Nat) (base : Nat) (w : World) (HO : Kd.R k27 27 w base (fun _ => True) v xs) (hbase : base ≤ w.heap.size) (hv : w.heap[gv]? = some (.cells #[.string x.f0, .string x.f1] 27 (0, 0))) (hl : xs.length ≤ 1000) :
    Calls Try.prog 30 #[v, .int .i64 (xs.length : Int), .slice (some ⟨gv, 0, none⟩) 1 1] w fun e w' => ∃ v1, e = .returned v1 ∧ Kd.R k27 27 w' base (fun _ => True) v1 (xs ++ [x]) ∧ Below base w w' ∧ w.grownBy w' v.ownBlock := by
  obtain ⟨T, cT, rfl⟩ := Kd.R_slice HO
  have hRR := Kd.R_reads' HO
  obtain ⟨i0, hi0, hsz⟩ := Option.map_eq_some_iff.1 size27
  have hcut := cut_from (P := Try.prog) 22 27 .i64 Try.underlying22 hi0 2 hsz T xs.length cT (xs.length : Int) (by omega) (by omega)
  obtain ⟨AI, hAI⟩ : ∃ A, A = (if cT = (xs.length : Int).toNat then T else T.map (·.add ((xs.length : Int).toNat * 2))) := ⟨_, rfl⟩
  rw [← hAI] at hcut
  have hread : ReadsRow (fun (p : S27) cs => cs = [.string p.f0, .string p.f1]) 2 w (some ⟨gv, 0, none⟩) 1 [x] := by
    refine ⟨rfl, by decide, fun _ => ⟨_, rfl, fun j p hj => ?_⟩⟩
    have hj0 : j = 0 := by
      rcases j with _ | j
      · rfl
      · simp at hj
    subst hj0
    obtain rfl : x = p := by simpa using hj
    refine ⟨[.string x.f0, .string x.f1], rfl, rfl, fun i u hu => ?_⟩
    have := blk_cell hv i
    rw [Addr.add_lit, show 0 + (0 * 2 + i) = i by omega, this, List.getElem?_toArray]
    exact hu
  have HOO := Aside0.mk HO
  have HRD := Aside0.mk hread
  have HL := Aside0.mk hl
  have HB0 := Aside0.mk hbase
  have q0 : ((xs.length : Int) == (xs.length : Int)) = true := beq_self_eq_true _
  clear hAI hread HO hRR hl hbase hv hi0 hsz
  go_enter Try.func30, Try.ntmps30
  go_wp2_with (first | ((with_reducible refine gate_builtin (b := .append) (xs := #[.tmp 23, .tmp 24]) rfl ?_); at_builtin; refine Kd.R_append_rows k27 (w0 := w) base rfl (.tmp 23) (.tmp 24) 22 27 (.agg #[.string ⟨#[]⟩, .string ⟨#[]⟩]) 32 rfl Try.underlying22 info27 rfl (by decide) (by omega) (.slice T xs.length cT) xs [x] (some ⟨gv, 0, none⟩) 1 1 (fun _ => True) (fun _ => False) rfl rfl HOO.out HRD.out (fun p cs hp => by rw [hp]; exact k27_mkM _ _ _ _) (fun _ hk => hk.elim) (fun _ _ => trivial) (Below.refl _ _) HB0.out (by have := HL.out; omega) ?_; intro v1 w1 ho hb hg hat; have HR1 := Aside0.mk ho; have HB1 := Aside0.mk hb; have HG1 := Aside0.mk hg; clear ho hb hg hat) | fail)
  go_ret
  exact ⟨_, rfl, HR1.out, HB1.out, HG1.out⟩
end Go.Proofs.Ytgbjinonlfhciaa.MBk
