/- The reference's Size, Check, Text and Put tell what the code's do. -/
import Derived.Test.YtgbjinonlfhciaaBackP
import Derived.Test.YtgbjinonlfhciaaMBkx7
namespace Go.Proofs.Ytgbjinonlfhciaa.BkV
open Go.RowKit Go.Proofs.Ytgbjinonlfhciaa.MBk Go.Proofs.YtgbjinonlfhciaaW.PrintWords Go.Proofs.YtgbjinonlfhciaaW.PrintLast
set_option linter.unusedVariables false
theorem rsize_l (l : List S27) (hl : l.length ≤ 1000) (hs : ∀ x ∈ l, x.f0.size ≤ 1000 ∧ x.f1.size ≤ 1000) (d : Nat) : ∀ (k j s : Nat), j + d = l.length → s ≤ 4 + 2002 * j → intarsiaref10_Size.l0 (k + d + 1) l (s : Int) (j : Int) = some ((s : Int) + (sizeN (l.drop j) : Int) - 4) := by
  induction d with
  | zero =>
    intro k j s hj hb
    rw [intarsiaref10_Size.l0, if_neg (by omega), List.drop_of_length_le (by omega)]
    show some (s : Int) = some ((s : Int) + 4 - 4)
    congr 1
    omega
  | succ d ih =>
    intro k j s hj hb
    have hlt : j < l.length := by omega
    have hx := hs l[j] (List.getElem_mem hlt)
    rw [show k + (d + 1) + 1 = (k + d + 1) + 1 by omega, intarsiaref10_Size.l0, if_pos (by omega), if_pos (by omega), rd27 l j hlt, add1 (by omega)]
    have e : wrap64 ((s : Int) + wrap64 (wrap64 (2 + (l[j].f0.size : Int)) + (l[j].f1.size : Int))) = ((s + (2 + l[j].f0.size + l[j].f1.size) : Nat) : Int) := by
      rw [wrap_id (x := 2 + (l[j].f0.size : Int)) (by omega) (by omega), wrap_id (x := 2 + (l[j].f0.size : Int) + (l[j].f1.size : Int)) (by omega) (by omega), wrap_id (by omega) (by omega)]
      omega
    rw [e, ih k (j + 1) (s + (2 + l[j].f0.size + l[j].f1.size)) (by omega) (by omega), List.drop_eq_getElem_cons hlt, sizeN]
    congr 1
    omega
theorem rsize_is (l : List S27) (h : FewP l) (k : Nat) (hk : 1000 < k) : intarsiaref10_Size.f k l = some (sizeN l : Int) := by
  have := rsize_l l h.1 h.2 l.length (k - l.length - 1) 0 4 (by omega) (by omega)
  rw [show k - l.length - 1 + l.length + 1 = k by have := h.1; omega, List.drop_zero] at this
  refine this.trans ?_
  congr 1
  have := sizeN_ge l
  omega
theorem rcheck_l1 (d n : Int) (l : List S27) (hl : l.length ≤ 1000) (m : Nat) : ∀ (k j : Nat), (j + m = l.length ∨ (l.length = 0 ∧ j = 0 ∧ m = 0)) → intarsiaref10_Check.l1 (k + m + 1) (j : Int) d n l = some (if risesT (l.drop j) = true then 0 else 4) := by
  induction m with
  | zero =>
    intro k j hj
    rw [intarsiaref10_Check.l1, add1 (by omega), if_neg (by omega), List.drop_of_length_le (by omega)]
    rfl
  | succ m ih =>
    intro k j hj
    have hlt : j < l.length := by omega
    rw [show k + (m + 1) + 1 = (k + m + 1) + 1 by omega, intarsiaref10_Check.l1, add1 (by omega)]
    by_cases h2 : j + 1 < l.length
    · rw [if_pos (by omega), if_pos (by omega), if_pos (by omega), if_pos (by omega), rd27 l j hlt]
      have e : rd_T27 l ((j + 1 : Nat) : Int) = l[j + 1] := rd27 l (j + 1) h2
      rw [e, rless_is, Option.bind_some, List.drop_eq_getElem_cons hlt, List.drop_eq_getElem_cons h2, risesT]
      by_cases hle : lessT l[j] l[j + 1] = true
      · rw [if_pos hle, hle, Bool.true_and, ← List.drop_eq_getElem_cons h2]
        exact ih k (j + 1) (by omega)
      · rw [if_neg hle, Bool.eq_false_iff.mpr hle, Bool.false_and, if_neg (by decide)]
    · rw [if_neg (by omega), List.drop_eq_getElem_cons hlt, List.drop_of_length_le (by omega)]
      rfl
theorem rcheck_l0 (d n : Int) (l : List S27) (h : FewP l) (m : Nat) : ∀ (k j : Nat), j + m = l.length → 3000 < k → intarsiaref10_Check.l0 (k + m + 1) (j : Int) d n l = some (if (l.drop j).any longT = true then 5 else if 246 < sizeN l then 10 else if risesT l = true then 0 else 4) := by
  induction m with
  | zero =>
    intro k j hj hk
    rw [intarsiaref10_Check.l0, if_neg (by omega), rsize_is l h _ (by omega), Option.bind_some, List.drop_of_length_le (by omega), show (([] : List S27).any longT) = false from rfl, if_neg (show ¬ (false = true) by decide)]
    by_cases h2 : 246 < sizeN l
    · rw [if_pos (by omega), if_pos h2]
    · rw [if_neg (by omega), if_neg h2]
      have := rcheck_l1 d n l h.1 l.length (k - l.length - 1) 0 (by omega)
      rw [show k - l.length - 1 + l.length + 1 = k by have := h.1; omega, List.drop_zero] at this
      exact this
  | succ m ih =>
    intro k j hj hk
    have hlt : j < l.length := by omega
    rw [show k + (m + 1) + 1 = (k + m + 1) + 1 by omega, intarsiaref10_Check.l0, if_pos (by omega), if_pos (by omega), rd27 l j hlt, add1 (by have := h.1; omega), List.drop_eq_getElem_cons hlt, List.any_cons]
    by_cases h0 : (l[j].f0.size : Int) > 48
    · have e : longT l[j] = true := by unfold longT; rw [decide_eq_true h0, Bool.true_or]
      rw [if_pos h0, e, Bool.true_or, if_pos rfl]
    · rw [if_neg h0]
      by_cases h1 : (l[j].f1.size : Int) > 160
      · have e : longT l[j] = true := by unfold longT; rw [decide_eq_true h1, Bool.or_true]
        rw [if_pos h1, e, Bool.true_or, if_pos rfl]
      · have e : longT l[j] = false := by unfold longT; rw [decide_eq_false h0, decide_eq_false h1]; rfl
        rw [if_neg h1, e, Bool.false_or]
        exact ih k (j + 1) (by omega) hk
theorem rcheck_is (d n : Int) (l : List S27) (h : FewP l) (k : Nat) (hk : 5000 < k) : intarsiaref10_Check.f k d n l = some (checkT d n l) := by
  obtain ⟨k, rfl⟩ : ∃ m, k = m + 1 := ⟨k - 1, by omega⟩
  have h0 := rcheck_l0 d n l h l.length (k - l.length - 1) 0 (by omega) (by have := h.1; omega)
  rw [show k - l.length - 1 + l.length + 1 = k by have := h.1; omega, List.drop_zero] at h0
  unfold intarsiaref10_Check.f checkT
  by_cases h1 : d < 0
  · rw [if_pos h1, intarsiaref10_Check.j0, if_pos rfl, if_pos (.inl h1)]
  · rw [if_neg h1]
    by_cases h2 : d > 10
    · rw [if_pos h2, intarsiaref10_Check.j0, if_pos rfl, if_pos (.inr (.inl h2))]
    · rw [if_neg h2]
      by_cases h3 : n < 0
      · rw [if_pos h3, intarsiaref10_Check.j0, if_pos rfl, if_pos (.inr (.inr (.inl h3)))]
      · rw [if_neg h3, intarsiaref10_Check.j0]
        by_cases h4 : n > 3000
        · rw [if_pos (decide_eq_true h4), if_pos (.inr (.inr (.inr h4)))]
        · rw [if_neg (by rw [decide_eq_false h4]; decide), if_neg (by omega)]
          exact h0
theorem rtext_is (s : ByteArray) (h : s.size ≤ 255) : intarsiaref01_Text.f s = some (textB s, 0) := by
  unfold intarsiaref01_Text.f
  rw [if_neg (by omega), Option.bind_some, if_pos (by show 1 + s.size < _; omega)]
  rfl
theorem rput_l (d n : Int) (l : List S27) (hl : l.length ≤ 1000) (hs : ∀ x ∈ l, x.f0.size ≤ 255 ∧ x.f1.size ≤ 255) (m : Nat) : ∀ (k j : Nat) (bs : List Int), j + m = l.length → bs.length ≤ 4 + 512 * j → intarsiaref10_Put.l0 (k + m + 1) bs (j : Int) d n l = some (bs ++ pairsB (l.drop j), 0) := by
  induction m with
  | zero =>
    intro k j bs hj hb
    rw [intarsiaref10_Put.l0, if_neg (by omega), List.drop_of_length_le (by omega), pairsB, List.append_nil]
  | succ m ih =>
    intro k j bs hj hb
    have hlt : j < l.length := by omega
    have hx := hs l[j] (List.getElem_mem hlt)
    have t0 := textB_len l[j].f0
    have t1 := textB_len l[j].f1
    rw [show k + (m + 1) + 1 = (k + m + 1) + 1 by omega, intarsiaref10_Put.l0, if_pos (by omega), if_pos (by omega), rd27 l j hlt, rtext_is _ hx.1, Option.bind_some, rtext_is _ hx.2, Option.bind_some, if_pos (by show bs.length + (textB l[j].f0).length < _; omega), Option.bind_some,
      if_pos (by show (bs ++ textB l[j].f0).length + (textB l[j].f1).length < _; rw [List.length_append]; omega), add1 (by omega)]
    refine (ih k (j + 1) (bs ++ textB l[j].f0 ++ textB l[j].f1) (by omega) (by rw [List.length_append, List.length_append]; omega)).trans ?_
    rw [List.drop_eq_getElem_cons hlt, pairsB, List.append_assoc, List.append_assoc]
theorem rput_is (d n : Int) (l : List S27) (h : FewP l) (k : Nat) (hk : 5000 < k) : intarsiaref10_Put.f k d n l = some (putT d n l) := by
  unfold intarsiaref10_Put.f
  rw [rcheck_is d n l h k hk, Option.bind_some]
  unfold putT
  by_cases hc : checkT d n l = 0
  · rw [if_pos hc, if_pos hc]
    obtain ⟨h1, h2, h3, _⟩ := check_ok hc
    have h4 := long_no h2
    have hp := rput_l d n l h.1 (fun x hx => by have := h4 x hx; omega) l.length (k - l.length - 1) 0 [d % 256, wrap64 (Int.tdiv n 256) % 256, Int.tmod n 256 % 256, (l.length : Int) % 256] (by omega) (show 4 ≤ 4 + 512 * 0 from Nat.le_refl _)
    rw [show k - l.length - 1 + l.length + 1 = k by have := h.1; omega, List.drop_zero] at hp
    refine hp.trans ?_
    unfold headB
    rw [Int.tdiv_eq_ediv_of_nonneg (by omega), Int.tmod_eq_emod_of_nonneg (by omega), wrap_id (x := n / 256) (by omega) (by omega), show n % 256 % 256 = n % 256 by omega]
  · rw [if_neg hc, if_neg hc]
end Go.Proofs.Ytgbjinonlfhciaa.BkV
