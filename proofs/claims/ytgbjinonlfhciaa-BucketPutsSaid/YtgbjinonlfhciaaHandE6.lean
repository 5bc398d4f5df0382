/- The contracts of bucket.Has, own and Add. -/
import Derived.Test.YtgbjinonlfhciaaHandE5
namespace Go.Proofs.Ytgbjinonlfhciaa.BkV
open Go.RowKit Go.Proofs.Ytgbjinonlfhciaa.MBk Go.Proofs.YtgbjinonlfhciaaW.PrintWords Go.Proofs.YtgbjinonlfhciaaW.PrintLast
/-- Are two pairs one? -/
def eqT (x y : S27) : Bool := x.f0.toList == y.f0.toList && (x.f1.toList == y.f1.toList)
theorem eqT_iff {x y : S27} : eqT x y = true ↔ x = y := by
  unfold eqT
  rw [Bool.and_eq_true, beq_iff_eq, beq_iff_eq]
  constructor
  · intro h
    exact pair_ext h.1 h.2
  · rintro rfl
    exact ⟨rfl, rfl⟩
theorem index_l (x : S27) (l : List S27) (hl : l.length ≤ 1000) (d : Nat) : ∀ (k j : Nat), j + d = l.length → api_Pair_36.l0 (k + d + 1) l (l.length : Int) (j : Int) x.f0 x.f1 = some (ixT (eqT x) (l.drop j) (j : Int)) := by
  induction d with
  | zero =>
    intro k j hj
    rw [api_Pair_36.l0, if_neg (by omega), List.drop_of_length_le (by omega)]
    rfl
  | succ d ih =>
    intro k j hj
    have hlt : j < l.length := by omega
    rw [show k + (d + 1) + 1 = (k + d + 1) + 1 by omega, api_Pair_36.l0, if_pos (by omega), if_pos (by omega), if_pos (by omega), rd27 l j hlt, add1 (by omega), List.drop_eq_getElem_cons hlt, ixT]
    by_cases he : eqT x l[j] = true
    · rw [if_pos he, if_pos (show (x.f0.toList == l[j].f0.toList && (x.f1.toList == l[j].f1.toList)) = true from he)]
    · rw [if_neg he, if_neg (show ¬ (x.f0.toList == l[j].f0.toList && (x.f1.toList == l[j].f1.toList)) = true from he)]
      exact ih k (j + 1) (by omega)
theorem index_is (x : S27) (l : List S27) (hl : l.length ≤ 1000) : api_Pair_36.f 1001 l x.f0 x.f1 = some (ixT (eqT x) l 0) := by
  have := index_l x l hl l.length (1000 - l.length) 0 (by omega)
  rw [show 1000 - l.length + l.length + 1 = 1001 by omega, List.drop_zero] at this
  exact this
theorem has_is (d n : Int) (x : S27) (l : List S27) (hl : l.length ≤ 1000) : bucket_Has.f 1001 d n l x.f0 x.f1 = some (l.any (eqT x)) := by
  unfold bucket_Has.f api_Pair_32.f
  rw [index_is x l hl, Option.bind_some, Option.bind_some, ix_ge _ l 0 (Int.le_refl 0)]
/-- The first place of which p tells true, or the end. -/
def posN (p : S27 → Bool) : List S27 → Nat
  | [] => 0
  | c :: r => if p c = true then 0 else posN p r + 1
theorem posN_le (p : S27 → Bool) : ∀ l : List S27, posN p l ≤ l.length
  | [] => Nat.le_refl _
  | c :: r => by
    rw [posN]
    split
    · exact Nat.zero_le _
    · exact Nat.succ_le_succ (posN_le p r)
theorem ix_pos (p : S27 → Bool) : ∀ (l : List S27) (i : Nat), (ixT p l (i : Int) = -1 ∧ posN p l = l.length) ∨ ixT p l (i : Int) = ((i + posN p l : Nat) : Int)
  | [], i => .inl ⟨rfl, rfl⟩
  | c :: r, i => by
    rw [ixT, posN]
    by_cases h : p c = true
    · rw [if_pos h, if_pos h]
      exact .inr rfl
    · rw [if_neg h, if_neg h]
      rcases ix_pos p r (i + 1) with ⟨h1, h2⟩ | h1
      · exact .inl ⟨h1, by rw [h2]; rfl⟩
      · refine .inr (h1.trans ?_)
        congr 1
        omega
/-- A pair put where it belongs. -/
def insT (x : S27) (l : List S27) : List S27 := l.take (posN (lessT x) l) ++ [x] ++ l.drop (posN (lessT x) l)
/-- What Add tells. -/
def addT (l : List S27) (x : S27) : List S27 × Bool := if l.any (eqT x) = true then (l, false) else (insT x l, true)
end Go.Proofs.Ytgbjinonlfhciaa.BkV
namespace Go.Proofs.Ytgbjinonlfhciaa.MBk
open Go.RowKit Go.Proofs.Ytgbjinonlfhciaa.BkV Go.Proofs.YtgbjinonlfhciaaW.PrintWords Go.Proofs.YtgbjinonlfhciaaW.PrintLast Go.Proofs.YtgbjinonlfhciaaW.PrintMore
set_option linter.unusedVariables false
set_option linter.unusedSimpArgs false
theorem skip_step {P : Program} {ops : Array Oper} {o : Oper} {a : Act} {Q : Exit → Act → World → Prop} {Kc : Act → World → Prop} {W w1 : World} (hw : Region.wanted o (yielded ops a.tmps) = true) (hN : o.dst = none) (hrun : (execOp a.eval o).run P W = .ok .skip w1) (h : Kc a w1) : if Region.wanted o (yielded ops a.tmps) = true then Oper.wp P o a W Kc Q else Kc (a.put none undef) W := by
  rw [if_pos hw]
  unfold Oper.wp
  rw [hrun]
  show Kc (a.put o.dst undef) w1
  rw [hN]
  exact h
theorem clone_is {l : List S27} (h : l.length ≤ 1000) : pairs_Clone.f l = some l := by unfold pairs_Clone.f; exact if_pos (by omega)
/-- A struct of three cells, stored whole. -/
def put3 (w : World) (g : Nat) (a b c : Value) : World := ((w.setCell ⟨g, 0, none⟩ a).setCell ⟨g, 1, none⟩ b).setCell ⟨g, 2, none⟩ c
theorem put3_far (w : World) (g : Nat) (a b c : Value) {q : Nat} (h : q ≠ g) : (put3 w g a b c).heap[q]? = w.heap[q]? :=
  (heap_setCell_other _ ⟨g, 2, none⟩ q c h).trans ((heap_setCell_other _ ⟨g, 1, none⟩ q b h).trans (heap_setCell_other _ ⟨g, 0, none⟩ q a h))
theorem put3_heap {w : World} {g : Nat} {u v z : Value} {t : TypeId} (h : w.heap[g]? = some (.cells #[u, v, z] t (0, 0))) (a b c : Value) : (put3 w g a b c).heap[g]? = some (.cells #[a, b, c] t (0, 0)) := by
  have h1 := heap_setCell_same w g 0 _ t a h
  have h2 := heap_setCell_same _ g 1 _ t b h1
  exact heap_setCell_same _ g 2 _ t c h2
theorem put3_below {B : Nat} {w0 w : World} {g : Nat} (h : Below B w0 w) (hg : B ≤ g) (a b c : Value) : Below B w0 (put3 w g a b c) := ((h.setCell (p := ⟨g, 0, none⟩) hg a).setCell (p := ⟨g, 1, none⟩) hg b).setCell (p := ⟨g, 2, none⟩) hg c
set_option maxHeartbeats 8000000 in
set_option maxRecDepth 100000 in
theorem own_calls (d n : Int) (l : List S27) (A : Option Addr) (c : Nat) (w : World) (hC : Kd.C k27 w A l.length l) (hc : l.length ≤ c) (hl : l.length ≤ 1000) :
    Calls Try.prog 27 #[.agg #[.int .i64 d, .int .i64 n, .slice A l.length c]] w fun e w' => ∃ v, e = .returned (.agg #[.int .i64 d, .int .i64 n, v]) ∧ Kd.R k27 27 w' w.heap.size (fun _ => True) v l ∧ Below w.heap.size w w' := by
  have HC := Aside0.mk hC
  have HCc := Aside0.mk hc
  have HL := Aside0.mk hl
  clear hC hc hl
  go_enter Try.func27, Try.ntmps27
  go_upto_region 1 with fail
  have hW1 := below_alloc (Below.refl w.heap.size w) (Obj.cells #[Value.int IntKind.i64 d, Value.int IntKind.i64 n, Value.slice A l.length c] 25)
  have hN1 := blk_new w (Obj.cells #[Value.int IntKind.i64 d, Value.int IntKind.i64 n, Value.slice A l.length c] 25)
  have hS1 : (w.alloc (Obj.cells #[Value.int IntKind.i64 d, Value.int IntKind.i64 n, Value.slice A l.length c] 25)).heap.size = w.heap.size + 1 := World.size_alloc _ _
  obtain ⟨g, hg⟩ : ∃ g, g = w.heap.size := ⟨_, rfl⟩
  rw [← hg] at hN1 hS1 ⊢
  generalize w.alloc (Obj.cells #[Value.int IntKind.i64 d, Value.int IntKind.i64 n, Value.slice A l.length c] 25) = W1 at hW1 hN1 hS1 ⊢
  have hW2 := below_alloc (Below.refl W1.heap.size W1) (Obj.cells #[Value.int IntKind.i64 0, Value.int IntKind.i64 0, Value.slice none 0 0] 25)
  have hN2 := blk_new W1 (Obj.cells #[Value.int IntKind.i64 0, Value.int IntKind.i64 0, Value.slice none 0 0] 25)
  have hS2 : (W1.alloc (Obj.cells #[Value.int IntKind.i64 0, Value.int IntKind.i64 0, Value.slice none 0 0] 25)).heap.size = W1.heap.size + 1 := World.size_alloc _ _
  rw [hS1] at hN2 hS2
  generalize W1.alloc (Obj.cells #[Value.int IntKind.i64 0, Value.int IntKind.i64 0, Value.slice none 0 0] 25) = W2 at hW2 hN2 hS2 ⊢
  have HB := Aside0.mk (below_step hW1 hW2)
  have HK1 := Aside0.mk (blk_below hN1 hW2)
  have HK2 := Aside0.mk hN2
  have HG := Aside0.mk (show w.heap.size ≤ g by omega)
  have HZ := Aside0.mk (show g + 1 < W2.heap.size by omega)
  clear hW1 hN1 hS1 hW2 hN2 hS2 hg
  have k2 := blk_cell HK1.out 2
  go_wp2_with fail
  go_at_call 31
  refine (pairs_Clone.calls A c l l W2 (Kd.C_below HC.out HB.out) HCc.out (clone_is HL.out)).mono ?_
  clear k2
  rintro ex W3 ⟨v, rfl, hv, hb⟩
  obtain ⟨T, cT, rfl⟩ := Kd.R_slice hv
  have HV := Aside0.mk (Kd.R_bound hv)
  have nB := Aside0.mk (below_step HB.out hb)
  have n1 := Aside0.mk (blk_below HK1.out hb)
  have n2 := Aside0.mk (blk_below HK2.out hb)
  clear hv hb HB HK1 HK2
  have HB := nB
  have HK1 := n1
  have HK2 := n2
  clear nB n1 n2
  have k2 := blk_cell HK1.out 2
  have f2 := blk_frozen HK1.out 2
  go_upto_region 2 with fail
  have hn1 := heap_setCell_same W3 g 2 _ 25 (Value.slice T l.length cT) HK1.out
  have hn2 := (heap_setCell_other W3 ⟨g, 2, none⟩ (g + 1) (Value.slice T l.length cT) (by show g + 1 ≠ g; omega)).trans HK2.out
  have hnv := Kd.R_far (p := ⟨g, 2, none⟩) HV.out (fun k hk => by have := hk.2.1; have := HZ.out; show k ≠ g; omega) (Value.slice T l.length cT)
  have hnb := HB.out.setCell (p := ⟨g, 2, none⟩) HG.out (Value.slice T l.length cT)
  clear k2 f2 HB HK1 HK2 HV
  generalize W3.setCell ⟨g, 2, none⟩ (Value.slice T l.length cT) = W4 at hn1 hn2 hnv hnb ⊢
  have HB := Aside0.mk hnb
  have HK1 := Aside0.mk hn1
  have HK2 := Aside0.mk hn2
  have HV := Aside0.mk hnv
  clear hn1 hn2 hnv hnb
  have k0 := blk_cell HK1.out 0
  have k1 := blk_cell HK1.out 1
  have k2 := blk_cell HK1.out 2
  have c0 := blk_cell HK2.out 0
  have c1 := blk_cell HK2.out 1
  have c2 := blk_cell HK2.out 2
  have f0 := blk_frozen HK2.out 0
  have f1 := blk_frozen HK2.out 1
  have f2 := blk_frozen HK2.out 2
  go_wp2_with fail
  clear k0 k1 k2 c0 c1 c2 f0 f1 f2
  refine bodyPost_ret (results_cell_row rfl _ _ (g + 1) 25 #[.int .i64 d, .int .i64 n, .slice T l.length cT] (0, 0) _ rfl (put3_heap HK2.out _ _ _) Try.underlying25 rfl (by kernel_rfl)) rfl ?_
  refine ⟨_, rfl, ?_, put3_below HB.out (by have := HG.out; omega) _ _ _⟩
  refine Kd.R_mono (Kd.R_lower (Kd.R_step HV.out (fun k hk _ => put3_far _ _ _ _ _ (by have := hk.2.1; have := HZ.out; omega))) (by have := HZ.out; have := HG.out; omega)) (fun _ _ => trivial)
end Go.Proofs.Ytgbjinonlfhciaa.MBk
