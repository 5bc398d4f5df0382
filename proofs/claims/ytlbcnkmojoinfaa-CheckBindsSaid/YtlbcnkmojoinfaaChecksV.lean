/- What conditions and expressions are checked for, in plain terms; what the functions that print tell of it. -/
import Derived.Test.YtlbcnkmojoinfaaMCkx4
import Derived.Test.YtlbcnkmojoinfaaMCkx5
namespace Go.Proofs.Ytlbcnkmojoinfaa.ChecksV
open Go.RowKit Go.Proofs.Ytlbcnkmojoinfaa.MCk Go.Proofs.YtlbcnkmojoinfaaW.PrintWords Go.Proofs.YtlbcnkmojoinfaaW.PrintLast
/-- Does a name stand among names? -/
def hasN (l : List ByteArray) (x : ByteArray) : Bool := l.any fun y => decide (y.toList = x.toList)
theorem hasN_yes {y x : ByteArray} {l : List ByteArray} (h : y.toList = x.toList) : hasN (y :: l) x = true := by
  show (decide (y.toList = x.toList) || hasN l x) = true
  rw [decide_eq_true h]; rfl
theorem hasN_no {y x : ByteArray} {l : List ByteArray} (h : ¬ y.toList = x.toList) : hasN (y :: l) x = hasN l x := by
  show (decide (y.toList = x.toList) || hasN l x) = hasN l x
  rw [decide_eq_false h]; rfl
/-- The first class of a name. -/
def findS : List S30 → ByteArray → Option S30
  | [], _ => none
  | c :: r, x => if c.f0.toList = x.toList then some c else findS r x
/-- What is bound behind tests. -/
def bindsT : List S61 → List ByteArray → List ByteArray × Int
  | [], b => (b, 0)
  | t :: r, b => if t.f1.toList = [] ∨ hasN b t.f1 = true then bindsT r b else if t.f0 = 0 then bindsT r (b ++ [t.f1]) else ([], 20)
/-- A condition's attributes, of a class's attributes, by the names met and bound. -/
def attrsT (cs : List ByteArray) : List S57 → List ByteArray → List ByteArray → List ByteArray × Int
  | [], _, now => (now, 0)
  | a :: r, met, now => if hasN cs a.f0 = true then (if hasN met a.f0 = true then ([], 7) else if (bindsT a.f2 now).2 = 0 then attrsT cs r (met ++ [a.f0]) (bindsT a.f2 now).1 else ([], (bindsT a.f2 now).2)) else ([], 19)
/-- A condition. -/
def condT (l : List S30) (neg : Bool) (cls : ByteArray) (attrs : List S57) (bound : List ByteArray) : List ByteArray × Int :=
  match findS l cls with
  | none => ([], 18)
  | some c => if (attrsT c.f1 attrs [] bound).2 = 0 then (if neg = true then (bound, 0) else attrsT c.f1 attrs [] bound) else ([], (attrsT c.f1 attrs [] bound).2)
/-- An expression. -/
def exprT (bound : List ByteArray) : List S80 → Int
  | [] => 0
  | x :: r => if x.f0 = 1 ∧ hasN bound x.f2 = false then 20 else exprT bound r
theorem rdS (l : List ByteArray) (j : Nat) (h : j < l.length) : rdOf ByteArray.empty l (j : Int) = l[j] := by
  unfold rdOf
  rw [Int.toNat_natCast, List.getD_eq_getElem?_getD, List.getElem?_eq_getElem h]
  rfl
theorem index_l (l : List ByteArray) (hl : l.length ≤ 1000000) (x : ByteArray) (d : Nat) : ∀ (k j : Nat), j + d = l.length → ∃ i : Int, slices_Index_string_string.l0 (k + d + 1) l x (l.length : Int) (j : Int) = some i ∧ (decide (i ≥ 0) = hasN (l.drop j) x) ∧ i ≤ 1000000 ∧ -1 ≤ i := by
  induction d with
  | zero =>
    intro k j hj
    refine ⟨-1, ?_, ?_, by omega, by omega⟩
    · rw [slices_Index_string_string.l0, if_neg (by omega)]
    · rw [List.drop_of_length_le (by omega)]; rfl
  | succ d ih =>
    intro k j hj
    have hlt : j < l.length := by omega
    have ew : wrap64 ((j : Int) + 1) = ((j + 1 : Nat) : Int) := by unfold wrap64; omega
    rw [show k + (d + 1) + 1 = (k + d + 1) + 1 by omega, slices_Index_string_string.l0, if_pos (by omega), if_pos (by omega), if_pos (by omega), rdS l j hlt, ew, List.drop_eq_getElem_cons hlt]
    by_cases he : x.toList = l[j].toList
    · rw [if_pos he]
      refine ⟨j, rfl, ?_, by omega, by omega⟩
      rw [decide_eq_true (by omega), hasN_yes he.symm]
    · rw [if_neg he]
      obtain ⟨i, h1, h2, h3⟩ := ih k (j + 1) (by omega)
      refine ⟨i, h1, ?_, h3⟩
      rw [h2]
      have he' : ¬ l[j].toList = x.toList := fun e => he e.symm
      rw [hasN_no he']
theorem index_is (k : Nat) (l : List ByteArray) (x : ByteArray) (hl : l.length ≤ 1000000) (hk : l.length < k) : ∃ i : Int, slices_Index_string_string.f k l x = some i ∧ decide (i ≥ 0) = hasN l x ∧ i ≤ 1000000 ∧ -1 ≤ i := by
  have := index_l l hl x l.length (k - l.length - 1) 0 (by omega)
  rw [show k - l.length - 1 + l.length + 1 = k by omega, List.drop_zero] at this
  exact this
theorem contains_is (k : Nat) (l : List ByteArray) (x : ByteArray) (hl : l.length ≤ 1000000) (hk : l.length < k) : slices_Contains_string_string.f k l x = some (hasN l x) := by
  obtain ⟨i, h1, h2, _⟩ := index_is k l x hl hk
  unfold slices_Contains_string_string.f
  rw [h1, Option.bind_some, h2]
theorem attr_is (k : Nat) (n : ByteArray) (l : List ByteArray) (x : ByteArray) (hl : l.length ≤ 1000000) (hk : l.length < k) : ∃ i : Int, check_Attr.f k n l x = some (i, hasN l x) := by
  obtain ⟨i, h1, h2, _⟩ := index_is k l x hl hk
  unfold check_Attr.f
  rw [h1, Option.bind_some, h2]
  exact ⟨_, rfl⟩
theorem in_l (l : List ByteArray) (hl : l.length ≤ 1000000) (x : ByteArray) (d : Nat) : ∀ (k j : Nat), j + d = l.length → intarsiaref17_In.l0 (k + d + 1) l x (j : Int) = some (hasN (l.drop j) x) := by
  induction d with
  | zero =>
    intro k j hj
    rw [intarsiaref17_In.l0, if_neg (by omega), List.drop_of_length_le (by omega)]
    rfl
  | succ d ih =>
    intro k j hj
    have hlt : j < l.length := by omega
    have ew : wrap64 ((j : Int) + 1) = ((j + 1 : Nat) : Int) := by unfold wrap64; omega
    rw [show k + (d + 1) + 1 = (k + d + 1) + 1 by omega, intarsiaref17_In.l0, if_pos (by omega), if_pos (by omega), rdS l j hlt, ew, List.drop_eq_getElem_cons hlt]
    by_cases he : l[j].toList = x.toList
    · rw [if_pos he, hasN_yes he]
    · rw [if_neg he, ih k (j + 1) (by omega), hasN_no he]
theorem in_is (k : Nat) (l : List ByteArray) (x : ByteArray) (hl : l.length ≤ 1000000) (hk : l.length < k) : intarsiaref17_In.f k l x = some (hasN l x) := by
  have := in_l l hl x l.length (k - l.length - 1) 0 (by omega)
  rw [show k - l.length - 1 + l.length + 1 = k by omega, List.drop_zero] at this
  exact this
theorem rd61 (l : List S61) (j : Nat) (h : j < l.length) : rd_T61 l (j : Int) = l[j] := by
  unfold rd_T61
  rw [Int.toNat_natCast, List.getD_eq_getElem?_getD, List.getElem?_eq_getElem h]
  rfl
theorem binds_l (l : List S61) (hl : l.length ≤ 1000) (d : Nat) : ∀ (k j : Nat) (b : List ByteArray), j + d = l.length → b.length + d ≤ 100000 → check_binds.l0 (k + 100000 + 2 * d + 1) b l (l.length : Int) (j : Int) = some (bindsT (l.drop j) b) := by
  induction d with
  | zero =>
    intro k j b hj hb
    rw [check_binds.l0, if_neg (by omega), List.drop_of_length_le (by omega)]
    rfl
  | succ d ih =>
    intro k j b hj hb
    have hlt : j < l.length := by omega
    have ew : wrap64 ((j : Int) + 1) = ((j + 1 : Nat) : Int) := by unfold wrap64; omega
    rw [show k + 100000 + 2 * (d + 1) + 1 = (k + 100000 + 2 * d + 1 + 1) + 1 by omega, check_binds.l0, if_pos (by omega), if_pos (by omega), if_pos (by omega), rd61 l j hlt, List.drop_eq_getElem_cons hlt, bindsT]
    generalize l[j] = t
    by_cases he : t.f1.toList = []
    · rw [if_pos he, if_pos (c := t.f1.toList = [] ∨ _) (.inl he), check_binds.j1, if_pos rfl, ew]
      exact ih k (j + 1) b (by omega) (by omega)
    · rw [if_neg he, contains_is _ b t.f1 (by omega) (by omega), Option.bind_some, check_binds.j1]
      by_cases hh : hasN b t.f1 = true
      · rw [if_pos hh, if_pos (c := t.f1.toList = [] ∨ _) (.inr hh), ew]
        exact ih k (j + 1) b (by omega) (by omega)
      · rw [if_neg hh, if_neg (c := t.f1.toList = [] ∨ _) (fun h => h.elim he hh)]
        by_cases hp : t.f0 = 0
        · rw [if_pos hp, if_pos hp, if_pos (by omega), ew]
          exact ih k (j + 1) (b ++ [t.f1]) (by omega) (by rw [List.length_append]; show b.length + 1 + d ≤ _; omega)
        · rw [if_neg hp, if_neg hp]
theorem binds_is (l : List S61) (b : List ByteArray) (hl : l.length ≤ 1000) (hb : b.length ≤ 90000) : check_binds.f 102001 l b = some (bindsT l b) := by
  have := binds_l l hl l.length (2000 - 2 * l.length) 0 b (by omega) (by omega)
  rw [show 2000 - 2 * l.length + 100000 + 2 * l.length + 1 = 102001 by omega, List.drop_zero] at this
  exact this
end Go.Proofs.Ytlbcnkmojoinfaa.ChecksV
