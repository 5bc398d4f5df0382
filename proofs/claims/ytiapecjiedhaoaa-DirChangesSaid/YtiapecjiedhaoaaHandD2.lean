/- The contract of dir.IDs: a map that the call makes and keeps to itself tells which slots were met. -/
import Derived.Test.YtiapecjiedhaoaaHandD1
import Derived.Maps.OwnOps
import Derived.Maps.OwnSet
import Derived.Maps.AppendAt
import Derived.Deep.LoopGhost
import Derived.WalkKit
import Derived.Below
namespace Go.Proofs.Ytiapecjiedhaoaa.Hand
open Go.RowKit Go.Maps Go.Proofs.YtiapecjiedhaoaaW.PrintWords Go.Proofs.YtiapecjiedhaoaaW.PrintLast Go.Proofs.YtiapecjiedhaoaaW.PrintMore
set_option linter.unusedVariables false
def addU (out : List Int) (x : Int) : List Int := if out.contains x then out else out ++ [x]
/-- The slots met behind k rounds, each once. -/
def met (l : List Int) (k : Nat) : List Int := (l.take k).foldl addU []
theorem met_zero (l : List Int) : met l 0 = [] := rfl
theorem met_succ (l : List Int) (k : Nat) (hk : k < l.length) : met l (k + 1) = addU (met l k) l[k] := by
  unfold met
  rw [List.take_succ_eq_append_getElem hk, List.foldl_append]
  rfl
theorem met_le (l : List Int) : ∀ k, k ≤ l.length → (met l k).length ≤ k
  | 0, _ => Nat.zero_le _
  | k + 1, h => by
    have := met_le l k (by omega)
    rw [met_succ l k (by omega)]
    unfold addU
    split
    · omega
    · rw [List.length_append, List.length_singleton]; omega
theorem law3 : Keyed Try.prog 3 := int_keyed Try.underlying3
theorem zero4 (w : World) : (zeroValue 4).run Try.prog w = .ok (.bool false) w := by kernel_rfl
theorem plainElem_bool_inv {H : Type} {v : Value} {z : DataW H × List MemPlace} (h : plainElem Try.prog 4 v = some z) : ∃ b, v = .bool b ∧ z = (.lit (.bool b), []) := by
  unfold plainElem at h
  rw [Try.underlying4] at h
  split at h <;> first | (cases h; done) | (cases h; exact ⟨_, rfl, rfl⟩) | exact absurd ‹some TypeDesc.bool = some (TypeDesc.int _)› (by simp) | exact absurd ‹some TypeDesc.bool = some TypeDesc.string› (by simp)
/-- 'm[k]' at elements that are bools: the walk goes on with some bool in the slot. -/
theorem wpList_lookup_own_bool {w : World} {ops : Array Oper} {rest : List Oper} {o : Oper} {a : Act} {Q : Exit → Act → World → Prop}
    (hg : o.guard = none) (m x : Operand) (hop : o.op = Op.lookup 67 m x false) (b n : Nat) (D : DataW Unit)
    (hm : a.eval m = .map (some b)) (hown : w.ownsMap Try.prog 3 (plainElem Try.prog 4) b n D) (key : Value) (kl : Lit) (hx : a.eval x = key) (hkey : keyOf Try.prog 3 key = some kl)
    (hK : ∀ c : Bool, D.atKey kl (.lit (.bool false)) = .lit (.bool c) → wpList Try.prog ops Q rest (a.put o.dst (.bool c)) w) :
    wpList Try.prog ops Q (o :: rest) a w := by
  refine wpList_plain hg fun K' hK' => ?_
  obtain ⟨v, ps, hrun, hv⟩ := hown.lookup law3 Try.underlying67 (zero4 w) (plainElem_bool Try.underlying4 false) hkey
  obtain ⟨c, rfl, hc⟩ := plainElem_bool_inv hv
  simp only [Prod.mk.injEq] at hc
  unfold Oper.wp
  simp [execOp, hop, hm, hx, hrun, Result.andThen]
  exact hK' _ _ (hK c hc.1)
/-- The datum says of each number whether it was met. -/
def Says (D : DataW Unit) (out : List Int) : Prop := ∀ x : Int, D.atKey (.int .i64 x) (.lit (.bool false)) = .lit (.bool (out.contains x))
theorem Says.empty : Says (.map []) [] := fun _ => rfl
theorem Says.put {D : DataW Unit} {out : List Int} (h : Says D out) (hD : IsMap D) (x : Int) : Says (D.put (.int .i64 x) (.lit (.bool true))) (out ++ [x]) := by
  intro y
  by_cases e : y = x
  · subst e
    rw [atKey_put_same hD (show WideAt.IsKeyLit (.int .i64 y) from trivial)]
    simp
  · rw [atKey_put_other (by intro h1; injection h1 with _ h2; exact e h2), h y]
    simp [e]
/-- What dir.IDs tells. -/
def dir_IDs.f (d : Int) (l : List Int) : Option (List Int) := if (∀ x ∈ l, (Lit.int .i64 x).wf = true) ∧ l.length < 17592186044416 then some (met l l.length) else none
theorem box_event2 (w : World) (o : Obj) : (w.alloc o).heap.size = w.heap.size + 1 := by simp
theorem row_ne {w : World} {base : Nat} {e : TypeId} {size : Nat} {v : Value} {n : Nat} {xs : List Value} (h : w.ownsRow base e size v n xs) {b : Nat} (hb : b < base) : some b ≠ v.ownBlock := fun e1 => by
  have := (h.lt b e1.symm).1
  omega
set_option maxHeartbeats 4000000 in
set_option maxRecDepth 100000 in
theorem dir_IDs.calls (a0_0 : Int) (A0_1 : Option Addr) (c0_1 : Nat) (l0_1 : List Int) (r : List Int) (w : World) (hr0_1 : Kd.C (Kd.int .i64) w A0_1 l0_1.length l0_1) (hc0_1 : l0_1.length ≤ c0_1) (h : dir_IDs.f a0_0 l0_1 = some r) :
    Calls Try.prog 18 #[.agg #[.int .i64 a0_0, .slice A0_1 l0_1.length c0_1]] w fun e w' => ∃ v0_ : Value, e = .returned (v0_) ∧ Kd.R (Kd.int .i64) 3 w' w.heap.size (fun _ => True) v0_ r ∧ Below w.heap.size w w' := by
  unfold dir_IDs.f at h
  by_cases hc : (∀ x ∈ l0_1, (Lit.int .i64 x).wf = true) ∧ l0_1.length < 17592186044416
  · rw [if_pos hc] at h
    obtain rfl := Option.some.inj h
    obtain ⟨hwf, hlen⟩ := hc
    have HR := Aside0.mk hr0_1
    have HL := Aside0.mk hlen
    have HW := Aside0.mk hwf
    clear hr0_1 hc0_1 h hwf hlen
    have hmm := @run_makeMap Try.prog
    obtain ⟨i0, hi, hz0, hz1, hz2⟩ := info_parts infoI64
    have HB := Aside0.mk (Below.refl w.heap.size w)
    go_enter Try.func18, Try.ntmps18
    go_wp2_with (first | ((with_reducible refine gate_dst (N := 1) rfl ?_); refine box_event ?hg (N := 1) ?hd (cs := #[.int .i64 a0_0, .slice A0_1 l0_1.length c0_1]) (t := 26) ?hr ?_; (case hd => rfl); (case hg => rfl); (case hr => first | (go_simp; done) | (go_simp; rfl)); intro gb hg w3 hbox hb; have n0_ := Aside0.mk (below_step HB.out hb); have BK := Aside0.mk hbox; clear HB; have HB := n0_; clear n0_; have hcz0 : w3.cell? ⟨gb, 0, none⟩ = some (.int .i64 a0_0) := (blk_cell BK.out 0).trans rfl; have hcz1 : w3.cell? ⟨gb, 1, none⟩ = some (.slice A0_1 l0_1.length c0_1) := (blk_cell BK.out 1).trans rfl; have hfz0 := blk_frozen BK.out 0; have hfz1 := blk_frozen BK.out 1; have hcy1 : (w3.alloc (.map #[] 0)).cell? ⟨gb, 1, none⟩ = some (.slice A0_1 l0_1.length c0_1) := (blk_cell (blk_alloc BK.out _) 1).trans rfl; clear hb hbox hg))
    clear hcz0 hcz1 hfz0 hfz1 hcy1
    go_loopw [4, 11] (fun v i wr => ∃ (k : Nat) (D : DataW Unit), k ≤ l0_1.length ∧ i = .int .i64 k ∧ wr.ownsMap Try.prog 3 (plainElem Try.prog 4) w3.heap.size k D ∧ Says D (met l0_1 k) ∧ wr.ownsRow (w3.heap.size + 1) 3 1 v (met l0_1 k).length ((met l0_1 k).map (Value.int .i64)) ∧
        Below w.heap.size w wr ∧ w3.heap.size + 1 ≤ wr.heap.size)
      (fun _ i _ => l0_1.length - (intOf i).toNat)
    case atStart => exact ⟨0, .map [], Nat.zero_le _, rfl, World.ownsMap_made _ _ _ _, Says.empty, World.ownsRow_nil _ _ _ _, below_alloc HB.out _, by simp⟩
    case round =>
      obtain ⟨k, D, hk, rfl, hown, hsays, hrow, hnx, hws⟩ := hrel
      by_cases hlt : k < l0_1.length
      · have hms := met_succ l0_1 k hlt
        obtain ⟨ad, e1, hx⟩ := Kd.at_int (Kd.C_below HR.out hnx) (k : Int) (by omega) (by omega)
        cases e1
        rw [Int.toNat_natCast, rd_lt l0_1 k hlt] at hx
        have hkey : keyOf Try.prog 3 (.int .i64 l0_1[k]) = some (.int .i64 l0_1[k]) := keyOf_int_mk Try.underlying3 (HW.out _ (List.getElem_mem hlt))
        generalize l0_1[k] = x at hms hx hkey
        have hsx := hsays x
        have b1 : decide ((k : Int) < (l0_1.length : Int)) = true := decide_eq_true (by omega)
        have hal := met_le l0_1 k (by omega)
        have hL := HL.out
        have p0 := eq_true (show 0 ≤ (k : Int) by omega)
        have p1 := eq_true (show (k : Int) < (l0_1.length : Int) by omega)
        go_wp2_with (first
          | (at_lookup; refine wpList_lookup_own_bool rfl _ _ rfl w3.heap.size k D rfl hown _ _ rfl hkey ?_; intro cc hat)
          | (at_mapUpdate; refine wpList_mapUpdate_own _ rfl _ _ _ 67 rfl 3 4 law3 Try.underlying67 (plainElem (H := Unit) Try.prog 4) w3.heap.size k D rfl hown (by have := HL.out; unfold maxLen; omega) _ _ _ rfl rfl hkey _ [] (plainElem_bool Try.underlying4 true) ?_; intro w1 hown1 hgrow1)
          | (at_builtin; refine wpList_append_own _ rfl _ _ 22 rfl (w3.heap.size + 1) 3 i0 (.int .i64 0) 1 8 Try.underlying22 hi hz0 hz1 hz2 rfl (by decide) _ _ _ rfl ((hrow.kept hgrow1 (Or.inr (row_ne hrow (Nat.lt_succ_self _)).symm)).alloc _) ⟨w1.heap.size, 0, none⟩ 1 1 [.int .i64 x] rfl rfl (cell_one_new _ _ _) (ints_oneCell .i64 [x]) (by have := HL.out; unfold maxLen; omega) (by have := HL.out; omega) (by have := hgrow1.size; simp at this ⊢; omega) ?_; intro v' w2 hown' hgrow2 hnil2)
          | go_in)
        · have hcc : cc = false := by simpa using (‹(!cc) = true›)
          have hcon : (met l0_1 k).contains x = false := by
            rw [hsx] at hat
            injection hat with h1
            injection h1 with h2
            rw [h2]; exact hcc
          have hm' : met l0_1 (k + 1) = met l0_1 k ++ [x] := by rw [hms, addU, if_neg (by rw [hcon]; decide)]
          have hr1 := hrow.kept hgrow1 (Or.inr (row_ne hrow (Nat.lt_succ_self _)).symm)
          have s0 := HB.out.size
          have s1 := hgrow1.size
          have s2 := hgrow2.size
          simp at s1 s2
          refine ⟨⟨k + 1, D.put (.int .i64 x) (.lit (.bool true)), by omega, rfl, ?_, ?_, ?_, ?_, by omega⟩, by simp [intOf]; omega⟩
          · exact (hown1.alloc _).kept hgrow2 (row_ne hr1 (Nat.lt_succ_self _))
          · rw [hm']; exact hsays.put hown.isMap x
          · rw [hm']; simpa using hown'
          · exact ((hnx.grown hgrow1 (by omega) (fun j hj => by cases hj; omega)).alloc (by omega) _).grown hgrow2 (by simp; omega) (fun j hj => by have := (hr1.lt j hj).1; omega)
        · have hcc : cc = true := by simpa using (‹(!cc) = false›)
          have hcon : (met l0_1 k).contains x = true := by
            rw [hsx] at hat
            injection hat with h1
            injection h1 with h2
            rw [h2]; exact hcc
          have hm' : met l0_1 (k + 1) = met l0_1 k := by rw [hms, addU, if_pos hcon]
          refine ⟨⟨k + 1, D, by omega, rfl, hown.mono (Nat.le_succ _), ?_, ?_, hnx, hws⟩, by simp [intOf]; omega⟩
          · rw [hm']; exact hsays
          · rw [hm']; exact hrow
      · obtain rfl : k = l0_1.length := by omega
        have b1 : decide ((l0_1.length : Int) < (l0_1.length : Int)) = false := decide_eq_false (by omega)
        go_wp2
        go_ret
        exact ⟨_, rfl, Kd.R_lower (Kd.R_of_own hrow (fun _ _ => trivial)) (by have := HB.out.size; omega), hnx⟩
  · rw [if_neg hc] at h
    cases h
end Go.Proofs.Ytiapecjiedhaoaa.Hand
