/- The steps of the law of growing. -/
import Derived.Test.YtgbjinonlfhciaaGrowsP
namespace Go.Proofs.Ytgbjinonlfhciaa.BkV
open Go.RowKit Go.Proofs.Ytgbjinonlfhciaa.MBk Go.Proofs.YtgbjinonlfhciaaW.PrintWords Go.Proofs.YtgbjinonlfhciaaW.PrintLast
set_option linter.unusedVariables false
def Small (x : S27) : Prop := x.f0.size ≤ 20 ∧ x.f1.size ≤ 20
/-- Behind j rounds of the first loop. -/
def GrowI (xs : List S27) (j : Nat) (a b : List S27) : Prop :=
  (Srt a ∧ (∀ y, y ∈ a ↔ y ∈ xs.take j) ∧ a.length ≤ j) ∧ (Srt b ∧ (∀ y, y ∈ b ↔ y ∈ xs.drop (xs.length - j)) ∧ b.length ≤ j) ∧ ∀ y ∈ xs.take j, Small y
theorem grow_start (xs : List S27) : GrowI xs 0 [] [] := by
  refine ⟨⟨List.Pairwise.nil, fun y => ?_, Nat.le_refl _⟩, ⟨List.Pairwise.nil, fun y => ?_, Nat.le_refl _⟩, fun y hy => ?_⟩
  · rw [List.take_zero]
  · rw [Nat.sub_zero, List.drop_length]
  · rw [List.take_zero] at hy
    cases hy
theorem grow_step {xs : List S27} {j : Nat} {a b : List S27} (h : GrowI xs j a b) (hj : j < xs.length) (hs : Small xs[j]) : GrowI xs (j + 1) (addT a xs[j]).1 (addT b (xs[xs.length - 1 - j]'(by omega))).1 := by
  obtain ⟨⟨a1, a2, a3⟩, ⟨b1, b2, b3⟩, h3⟩ := h
  have ht : xs.take (j + 1) = xs.take j ++ [xs[j]] := List.take_succ_eq_append_getElem hj
  have hd : xs.drop (xs.length - (j + 1)) = (xs[xs.length - 1 - j]'(by omega)) :: xs.drop (xs.length - j) := by
    have e : xs.length - (j + 1) = xs.length - 1 - j := by omega
    have e2 : xs.length - j = xs.length - 1 - j + 1 := by omega
    rw [e, e2]
    exact List.drop_eq_getElem_cons (by omega)
  refine ⟨⟨add_srt _ a1, fun y => ?_, Nat.le_trans (add_len a _) (Nat.succ_le_succ a3)⟩, ⟨add_srt _ b1, fun y => ?_, Nat.le_trans (add_len b _) (Nat.succ_le_succ b3)⟩, fun y hy => ?_⟩
  · rw [add_mem, a2, ht, List.mem_append, List.mem_singleton, or_comm]
  · rw [add_mem, b2, hd, List.mem_cons]
  · rw [ht, List.mem_append, List.mem_singleton] at hy
    rcases hy with hy | rfl
    · exact h3 y hy
    · exact hs
theorem grow_end {xs : List S27} {a b : List S27} (h : GrowI xs xs.length a b) : a = b ∧ Srt a ∧ (∀ y, y ∈ a ↔ y ∈ xs) ∧ a.length ≤ xs.length ∧ checkT 0 0 a = if 246 < sizeN a then 10 else 0 := by
  obtain ⟨⟨a1, a2, a3⟩, ⟨b1, b2, b3⟩, h3⟩ := h
  rw [List.take_length] at a2 h3
  rw [Nat.sub_self, List.drop_zero] at b2
  exact ⟨srt_same a1 b1 (fun y => (a2 y).trans (b2 y).symm), a1, a2, a3, grown_check a1 (fun x hx => h3 x ((a2 x).mp hx))⟩
theorem grow_few {xs : List S27} {a b : List S27} (h : GrowI xs xs.length a b) (hl : xs.length ≤ 40) : FewP a := by
  obtain ⟨⟨a1, a2, a3⟩, _, h3⟩ := h
  rw [List.take_length] at a2 h3
  exact ⟨by omega, fun x hx => by have := h3 x ((a2 x).mp hx); unfold Small at this; omega⟩
/-- Behind j rounds of the last loop. -/
def ShrinkI (xs : List S27) (j : Nat) (a : List S27) : Prop := Srt a ∧ (∀ y ∈ a, y ∈ xs.drop j) ∧ a.length ≤ 1000
theorem shrink_step {xs : List S27} {j : Nat} {a : List S27} (h : ShrinkI xs j a) (hj : j < xs.length) : ShrinkI xs (j + 1) (remT a xs[j]) := by
  obtain ⟨h1, h2, h3⟩ := h
  refine ⟨rem_srt _ h1, fun y hy => ?_, Nat.le_trans (rem_len _ a) h3⟩
  obtain ⟨h4, h5⟩ := rem_mem _ _ h1 hy
  have h6 := h2 y h4
  rw [List.drop_eq_getElem_cons hj] at h6
  rcases List.mem_cons.mp h6 with rfl | h6
  · exact absurd rfl h5
  · exact h6
theorem shrink_end {xs : List S27} {a : List S27} (h : ShrinkI xs xs.length a) : a = [] := by
  cases a with
  | nil => rfl
  | cons x r =>
    have := h.2.1 x List.mem_cons_self
    rw [List.drop_length] at this
    cases this
end Go.Proofs.Ytgbjinonlfhciaa.BkV
