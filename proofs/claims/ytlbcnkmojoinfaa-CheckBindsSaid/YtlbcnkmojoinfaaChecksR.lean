/- What the reference's functions on conditions and expressions tell, in plain terms. -/
import Derived.Test.YtlbcnkmojoinfaaChecksV
import Derived.Test.YtlbcnkmojoinfaaMCkx6
import Derived.Test.YtlbcnkmojoinfaaMCkx7
namespace Go.Proofs.Ytlbcnkmojoinfaa.ChecksV
open Go.RowKit Go.Proofs.Ytlbcnkmojoinfaa.MCk Go.Proofs.YtlbcnkmojoinfaaW.PrintWords Go.Proofs.YtlbcnkmojoinfaaW.PrintLast
theorem rd80 (l : List S80) (j : Nat) (h : j < l.length) : rd_T80 l (j : Int) = l[j] := by
  unfold rd_T80
  rw [Int.toNat_natCast, List.getD_eq_getElem?_getD, List.getElem?_eq_getElem h]
  rfl
theorem rd57 (l : List S57) (j : Nat) (h : j < l.length) : rd_T57 l (j : Int) = l[j] := by
  unfold rd_T57
  rw [Int.toNat_natCast, List.getD_eq_getElem?_getD, List.getElem?_eq_getElem h]
  rfl
theorem rdC (l : List S30) (j : Nat) (h : j < l.length) : rd_T30 l (j : Int) = l[j] := by
  unfold rd_T30
  rw [Int.toNat_natCast, List.getD_eq_getElem?_getD, List.getElem?_eq_getElem h]
  rfl
theorem expr_l (b : List ByteArray) (hb : b.length ≤ 90000) (l : List S80) (hl : l.length ≤ 1000) (d : Nat) : ∀ (k j : Nat), j + d = l.length → check_Expr.l0 (k + 100000 + d + 1) b l (l.length : Int) (j : Int) = some (exprT b (l.drop j)) := by
  induction d with
  | zero =>
    intro k j hj
    rw [check_Expr.l0, if_neg (by omega), List.drop_of_length_le (by omega)]
    rfl
  | succ d ih =>
    intro k j hj
    have hlt : j < l.length := by omega
    have ew : wrap64 ((j : Int) + 1) = ((j + 1 : Nat) : Int) := by unfold wrap64; omega
    rw [show k + 100000 + (d + 1) + 1 = (k + 100000 + d + 1) + 1 by omega, check_Expr.l0, if_pos (by omega), if_pos (by omega), if_pos (by omega), rd80 l j hlt, ew, List.drop_eq_getElem_cons hlt, exprT]
    generalize l[j] = t
    by_cases h1 : t.f0 = 1
    · rw [if_pos h1, contains_is _ b t.f2 (by omega) (by omega), Option.bind_some]
      by_cases hh : hasN b t.f2 = true
      · rw [if_pos hh, if_neg (c := t.f0 = 1 ∧ _) (fun h => by rw [hh] at h; cases h.2)]
        exact ih k (j + 1) (by omega)
      · rw [if_neg hh, if_pos (c := t.f0 = 1 ∧ _) ⟨h1, Bool.eq_false_iff.mpr hh⟩]
    · rw [if_neg h1, if_neg (c := t.f0 = 1 ∧ _) (fun h => h1 h.1)]
      exact ih k (j + 1) (by omega)
theorem expr_is (l : List S80) (b : List ByteArray) (hl : l.length ≤ 1000) (hb : b.length ≤ 90000) : check_Expr.f 101001 l b = some (exprT b l) := by
  have := expr_l b hb l hl l.length (1000 - l.length) 0 (by omega)
  rw [show 1000 - l.length + 100000 + l.length + 1 = 101001 by omega, List.drop_zero] at this
  exact this
theorem rexpr_l (b : List ByteArray) (hb : b.length ≤ 90000) (l : List S80) (hl : l.length ≤ 1000) (d : Nat) : ∀ (k j : Nat), j + d = l.length → intarsiaref17_Expr.l0 (k + 100000 + d + 1) l b (j : Int) = some (exprT b (l.drop j)) := by
  induction d with
  | zero =>
    intro k j hj
    rw [intarsiaref17_Expr.l0, if_neg (by omega), List.drop_of_length_le (by omega)]
    rfl
  | succ d ih =>
    intro k j hj
    have hlt : j < l.length := by omega
    have ew : wrap64 ((j : Int) + 1) = ((j + 1 : Nat) : Int) := by unfold wrap64; omega
    rw [show k + 100000 + (d + 1) + 1 = (k + 100000 + d + 1) + 1 by omega, intarsiaref17_Expr.l0, if_pos (by omega), if_pos (by omega), rd80 l j hlt, ew, List.drop_eq_getElem_cons hlt, exprT]
    generalize l[j] = t
    by_cases h1 : t.f0 = 1
    · rw [if_pos h1, in_is _ b t.f2 (by omega) (by omega), Option.bind_some]
      by_cases hh : hasN b t.f2 = true
      · rw [if_pos hh, if_neg (c := t.f0 = 1 ∧ _) (fun h => by rw [hh] at h; cases h.2)]
        exact ih k (j + 1) (by omega)
      · rw [if_neg hh, if_pos (c := t.f0 = 1 ∧ _) ⟨h1, Bool.eq_false_iff.mpr hh⟩]
    · rw [if_neg h1, if_neg (c := t.f0 = 1 ∧ _) (fun h => h1 h.1)]
      exact ih k (j + 1) (by omega)
theorem rexpr_is (l : List S80) (b : List ByteArray) (hl : l.length ≤ 1000) (hb : b.length ≤ 90000) : intarsiaref17_Expr.f 101001 l b = some (exprT b l) := by
  have := rexpr_l b hb l hl l.length (1000 - l.length) 0 (by omega)
  rw [show 1000 - l.length + 100000 + l.length + 1 = 101001 by omega, List.drop_zero] at this
  exact this
/-- What both Find tell. -/
def foundT (l : List S30) (x : ByteArray) : ByteArray × List ByteArray × Bool := match findS l x with | none => (⟨#[]⟩, [], false) | some c => (c.f0, c.f1, true)
theorem find_l (x : ByteArray) (l : List S30) (hl : l.length ≤ 1000000) (d : Nat) : ∀ (k j : Nat), j + d = l.length → intarsiaref17_Find.l0 (k + d + 1) l x (j : Int) = some (foundT (l.drop j) x) := by
  induction d with
  | zero =>
    intro k j hj
    rw [intarsiaref17_Find.l0, if_neg (by omega), List.drop_of_length_le (by omega)]
    rfl
  | succ d ih =>
    intro k j hj
    have hlt : j < l.length := by omega
    have ew : wrap64 ((j : Int) + 1) = ((j + 1 : Nat) : Int) := by unfold wrap64; omega
    rw [show k + (d + 1) + 1 = (k + d + 1) + 1 by omega, intarsiaref17_Find.l0, if_pos (by omega), if_pos (by omega), rdC l j hlt, ew, List.drop_eq_getElem_cons hlt]
    unfold foundT
    rw [findS]
    by_cases he : l[j].f0.toList = x.toList
    · rw [if_pos he, if_pos he]
    · rw [if_neg he, if_neg he]
      exact ih k (j + 1) (by omega)
theorem find_is (k : Nat) (l : List S30) (x : ByteArray) (hl : l.length ≤ 1000000) (hk : l.length < k) : intarsiaref17_Find.f k l x = some (foundT l x) := by
  have := find_l x l hl l.length (k - l.length - 1) 0 (by omega)
  rw [show k - l.length - 1 + l.length + 1 = k by omega, List.drop_zero] at this
  exact this
theorem rattr_l (n : ByteArray) (l : List ByteArray) (hl : l.length ≤ 1000000) (x : ByteArray) (d : Nat) : ∀ (k j : Nat), j + d = l.length → ∃ i : Int, intarsiaref17_Attr.l0 (k + d + 1) x (j : Int) n l = some (i, hasN (l.drop j) x) := by
  induction d with
  | zero =>
    intro k j hj
    refine ⟨0, ?_⟩
    rw [intarsiaref17_Attr.l0, if_neg (by omega), List.drop_of_length_le (by omega)]
    rfl
  | succ d ih =>
    intro k j hj
    have hlt : j < l.length := by omega
    have ew : wrap64 ((j : Int) + 1) = ((j + 1 : Nat) : Int) := by unfold wrap64; omega
    rw [show k + (d + 1) + 1 = (k + d + 1) + 1 by omega, intarsiaref17_Attr.l0, if_pos (by omega), if_pos (by omega), rdS l j hlt, ew, List.drop_eq_getElem_cons hlt]
    by_cases he : l[j].toList = x.toList
    · rw [if_pos he, hasN_yes he]
      exact ⟨_, rfl⟩
    · rw [if_neg he, hasN_no he]
      exact ih k (j + 1) (by omega)
theorem rattr_is (k : Nat) (n : ByteArray) (l : List ByteArray) (x : ByteArray) (hl : l.length ≤ 1000000) (hk : l.length < k) : ∃ i : Int, intarsiaref17_Attr.f k n l x = some (i, hasN l x) := by
  obtain ⟨i, h⟩ := rattr_l n l hl x l.length (k - l.length - 1) 0 (by omega)
  rw [show k - l.length - 1 + l.length + 1 = k by omega, List.drop_zero] at h
  exact ⟨i, h⟩
/-- How many tests a list of attributes has, at most. -/
def testsN : List S57 → Nat
  | [] => 0
  | a :: r => a.f2.length + testsN r
theorem bindsT_len : ∀ (l : List S61) (b : List ByteArray), (bindsT l b).1.length ≤ b.length + l.length
  | [], b => Nat.le_refl _
  | t :: r, b => by
    rw [bindsT]
    split
    · exact Nat.le_trans (bindsT_len r b) (by rw [List.length_cons]; omega)
    · split
      · refine Nat.le_trans (bindsT_len r (b ++ [t.f1])) ?_
        simp
        omega
      · exact Nat.zero_le _
theorem rcond_l1 (bound : List ByteArray) (neg : Bool) (cls : ByteArray) (attrs : List S57) (n : ByteArray) (cs : List ByteArray) (an : ByteArray) (af : List S59) (tests : List S61) (i : Int) (met : List ByteArray) (R : Option (List ByteArray × Int)) (ht : tests.length ≤ 1000) (K : Nat) (d : Nat) :
    ∀ (k j : Nat) (now : List ByteArray), j + d = tests.length → now.length + d ≤ 90000 → 100000 ≤ K →
    (∀ k' now', K ≤ k' → bindsT (tests.drop j) now = (now', 0) → intarsiaref17_Cond.l0 k' bound now' met (wrap64 (i + 1)) neg cls attrs n cs = R) →
    intarsiaref17_Cond.l1 (k + K + 2 * d + 1) bound now met i (j : Int) neg cls attrs n cs an af tests = if (bindsT (tests.drop j) now).2 = 0 then R else some ([], (bindsT (tests.drop j) now).2) := by
  induction d with
  | zero =>
    intro k j now hj hn hK hR
    rw [intarsiaref17_Cond.l1, if_neg (by omega)]
    rw [List.drop_of_length_le (by omega)] at hR ⊢
    rw [bindsT, if_pos rfl]
    exact hR _ now (by omega) rfl
  | succ d ih =>
    intro k j now hj hn hK hR
    have hlt : j < tests.length := by omega
    have ew : wrap64 ((j : Int) + 1) = ((j + 1 : Nat) : Int) := by unfold wrap64; omega
    rw [show k + K + 2 * (d + 1) + 1 = (k + K + 2 * d + 1 + 1) + 1 by omega, intarsiaref17_Cond.l1, if_pos (by omega), if_pos (by omega), rd61 tests j hlt]
    rw [List.drop_eq_getElem_cons hlt, bindsT] at hR ⊢
    generalize tests[j] = t at hR ⊢
    by_cases he : t.f1.toList = []
    · rw [if_pos he, intarsiaref17_Cond.j2, if_pos rfl, ew]
      rw [if_pos (c := t.f1.toList = [] ∨ _) (.inl he)] at hR ⊢
      exact ih k (j + 1) now (by omega) (by omega) hK hR
    · rw [if_neg he, in_is _ now t.f1 (by omega) (by omega), Option.bind_some, intarsiaref17_Cond.j2]
      by_cases hh : hasN now t.f1 = true
      · rw [if_pos hh, ew]
        rw [if_pos (c := t.f1.toList = [] ∨ _) (.inr hh)] at hR ⊢
        exact ih k (j + 1) now (by omega) (by omega) hK hR
      · rw [if_neg hh]
        rw [if_neg (c := t.f1.toList = [] ∨ _) (fun h => h.elim he hh)] at hR ⊢
        by_cases hp : t.f0 = 0
        · rw [if_pos hp, if_pos (by omega), ew]
          rw [if_pos hp] at hR ⊢
          exact ih k (j + 1) (now ++ [t.f1]) (by omega) (by rw [List.length_append]; show now.length + 1 + d ≤ _; omega) hK hR
        · rw [if_neg hp, if_neg hp, if_neg (by decide)]
/-- A condition's attributes are few, each with few tests. -/
def FewA (attrs : List S57) : Prop := attrs.length ≤ 20 ∧ ∀ a ∈ attrs, a.f2.length ≤ 1000
set_option maxRecDepth 100000 in
theorem rcond_l0 (bound : List ByteArray) (hbd : bound.length ≤ 1000) (neg : Bool) (cls : ByteArray) (attrs : List S57) (ha : attrs.length ≤ 20) (ht : ∀ a ∈ attrs, a.f2.length ≤ 1000) (n : ByteArray) (cs : List ByteArray) (hcs : cs.length ≤ 1000) (d : Nat) :
    ∀ (k j : Nat) (met now : List ByteArray), j + d = attrs.length → met.length = j → now.length ≤ 1000 + 1000 * j → 100000 + 3000 * d + 1 ≤ k →
    intarsiaref17_Cond.l0 k bound now met (j : Int) neg cls attrs n cs = some (if (attrsT cs (attrs.drop j) met now).2 = 0 then (if neg = true then (bound, 0) else attrsT cs (attrs.drop j) met now) else ([], (attrsT cs (attrs.drop j) met now).2)) := by
  induction d with
  | zero =>
    intro k j met now hj hm hn hk
    obtain ⟨k, rfl⟩ : ∃ k', k = k' + 1 := ⟨k - 1, by omega⟩
    rw [intarsiaref17_Cond.l0, if_neg (by omega), List.drop_of_length_le (by omega), attrsT, if_pos rfl]
    by_cases hneg : neg = true
    · rw [if_pos hneg, if_pos hneg, Option.bind_some, if_pos (by rw [List.length_nil]; omega), List.nil_append]
    · rw [if_neg hneg, if_neg hneg]
  | succ d ih =>
    intro k j met now hj hm hn hk
    have hlt : j < attrs.length := by omega
    have ew : wrap64 ((j : Int) + 1) = ((j + 1 : Nat) : Int) := by unfold wrap64; omega
    obtain ⟨k, rfl⟩ : ∃ k', k = k' + 1 := ⟨k - 1, by omega⟩
    have htj := ht _ (List.getElem_mem hlt)
    rw [intarsiaref17_Cond.l0, if_pos (by omega), if_pos (by omega), rd57 attrs j hlt]
    rw [List.drop_eq_getElem_cons hlt, attrsT]
    generalize attrs[j] = a at htj ⊢
    obtain ⟨ix, hix⟩ := rattr_is k n cs a.f0 (by omega) (by omega)
    rw [hix, Option.bind_some]
    by_cases hc : hasN cs a.f0 = true
    · rw [if_pos hc, if_pos hc, in_is _ met a.f0 (by omega) (by omega), Option.bind_some]
      by_cases hme : hasN met a.f0 = true
      · rw [if_pos hme, if_pos hme, if_neg (by decide)]
      · rw [if_neg hme, if_neg hme, if_pos (by omega)]
        obtain ⟨K, hK⟩ : ∃ K, K = 100000 + 3000 * d + 1 := ⟨_, rfl⟩
        have hrest : ∀ k', K ≤ k' → intarsiaref17_Cond.l0 k' bound (bindsT a.f2 now).1 (met ++ [a.f0]) ((j + 1 : Nat) : Int) neg cls attrs n cs = _ := fun k' hk' => ih k' (j + 1) (met ++ [a.f0]) (bindsT a.f2 now).1 (by omega) (by rw [List.length_append, hm]; rfl) (by have := bindsT_len a.f2 now; omega) (by omega)
        have h1 := rcond_l1 bound neg cls attrs n cs a.f0 a.f1 a.f2 (j : Int) (met ++ [a.f0]) (intarsiaref17_Cond.l0 K bound (bindsT a.f2 now).1 (met ++ [a.f0]) ((j + 1 : Nat) : Int) neg cls attrs n cs) htj K a.f2.length (k - K - 2 * a.f2.length - 1) 0 now (by omega) (by omega) (by omega)
        have ek : k - K - 2 * a.f2.length - 1 + K + 2 * a.f2.length + 1 = k := by omega
        rw [ek, List.drop_zero] at h1
        have h2 := h1 (fun k' now' hk' hb => by
          rw [ew, ← (show (bindsT a.f2 now).1 = now' by rw [hb]), hrest k' hk', hrest _ (Nat.le_refl _)])
        refine h2.trans ?_
        by_cases hz : (bindsT a.f2 now).2 = 0
        · rw [if_pos hz, if_pos hz, hrest _ (Nat.le_refl _)]
        · rw [if_neg hz, if_neg hz, if_neg (by exact hz)]
    · rw [if_neg hc, if_neg hc, if_neg (by decide)]
set_option maxRecDepth 100000 in
theorem rcond_is (l : List S30) (neg : Bool) (cls : ByteArray) (attrs : List S57) (bound : List ByteArray) (hl : l.length ≤ 1000) (hcs : ∀ c ∈ l, c.f1.length ≤ 1000) (ha : FewA attrs) (hb : bound.length ≤ 1000) : intarsiaref17_Cond.f 200000 l neg cls attrs bound = some (condT l neg cls attrs bound) := by
  have hmem : ∀ (l : List S30) (x : ByteArray) (c : S30), findS l x = some c → c ∈ l := by
    intro l x c
    induction l with
    | nil => intro h; cases h
    | cons y r ih =>
      intro h
      rw [findS] at h
      split at h
      · exact List.mem_cons.mpr (.inl (Option.some.inj h).symm)
      · exact List.mem_cons.mpr (.inr (ih h))
  unfold intarsiaref17_Cond.f condT
  rw [find_is _ l cls (by omega) (by omega), Option.bind_some]
  unfold foundT
  cases hf : findS l cls with
  | none => exact if_neg (by decide)
  | some c =>
    have hc := hcs c (hmem l cls c hf)
    have h := rcond_l0 bound hb neg cls attrs ha.1 ha.2 c.f0 c.f1 hc attrs.length 200000 0 [] bound (by omega) rfl (by omega) (by have := ha.1; omega)
    rw [List.drop_zero] at h
    show (if true = true then _ else _) = _
    rw [if_pos rfl, if_pos (by rw [List.length_nil]; omega), List.nil_append]
    exact h
end Go.Proofs.Ytlbcnkmojoinfaa.ChecksV
