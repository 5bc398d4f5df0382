/- The plain law of growing: a sorted row without doubles is told by what it holds. -/
import Derived.Test.YtgbjinonlfhciaaHash
namespace Go.Proofs.Ytgbjinonlfhciaa.BkV
open Go.RowKit Go.Proofs.Ytgbjinonlfhciaa.MBk Go.Proofs.YtgbjinonlfhciaaW.PrintWords Go.Proofs.YtgbjinonlfhciaaW.PrintLast
set_option linter.unusedVariables false
/-- Each ahead of all behind it. -/
def Srt (l : List S27) : Prop := l.Pairwise (fun a b => lessT a b = true)
theorem srt_rises : ∀ {l : List S27}, Srt l → risesT l = true
  | [], _ => rfl
  | [_], _ => rfl
  | a :: b :: r, h => by
    have h1 := List.pairwise_cons.mp h
    rw [risesT, h1.1 b List.mem_cons_self, Bool.true_and]
    exact srt_rises h1.2
theorem ins_cons (x c : S27) (r : List S27) : insT x (c :: r) = if lessT x c = true then x :: c :: r else c :: insT x r := by
  unfold insT
  rw [posN]
  split
  · rfl
  · rfl
theorem mem_ins (x y : S27) : ∀ l : List S27, y ∈ insT x l ↔ y = x ∨ y ∈ l
  | [] => by
    show y ∈ [x] ↔ _
    simp
  | c :: r => by
    rw [ins_cons]
    split
    · simp
    · rw [List.mem_cons, mem_ins x y r, List.mem_cons]
      constructor
      · rintro (h | h | h)
        · exact .inr (.inl h)
        · exact .inl h
        · exact .inr (.inr h)
      · rintro (h | h | h)
        · exact .inr (.inl h)
        · exact .inl h
        · exact .inr (.inr h)
theorem len_ins (x : S27) : ∀ l : List S27, (insT x l).length = l.length + 1
  | [] => rfl
  | c :: r => by
    rw [ins_cons]
    split
    · rfl
    · rw [List.length_cons, len_ins x r, List.length_cons]
theorem srt_ins (x : S27) : ∀ {l : List S27}, Srt l → x ∉ l → Srt (insT x l)
  | [], _, _ => List.pairwise_singleton _ _
  | c :: r, h, hx => by
    have h1 := List.pairwise_cons.mp h
    rw [ins_cons]
    by_cases hl : lessT x c = true
    · rw [if_pos hl]
      refine List.pairwise_cons.mpr ⟨fun y hy => ?_, h⟩
      rcases List.mem_cons.mp hy with rfl | hy
      · exact hl
      · exact less_trans hl (h1.1 y hy)
    · rw [if_neg hl]
      have hc : lessT c x = true := by
        cases hh : lessT c x with
        | true => rfl
        | false => exact absurd (less_total (Bool.eq_false_iff.mpr hl) hh) (fun e => hx (by rw [e]; exact List.mem_cons_self))
      refine List.pairwise_cons.mpr ⟨fun y hy => ?_, srt_ins x h1.2 (fun hm => hx (List.mem_cons_of_mem _ hm))⟩
      rcases (mem_ins x y r).mp hy with rfl | hy
      · exact hc
      · exact h1.1 y hy
theorem any_mem (x : S27) (l : List S27) : l.any (eqT x) = true ↔ x ∈ l := by
  rw [List.any_eq_true]
  constructor
  · rintro ⟨y, hy, he⟩
    rw [eqT_iff.mp he]
    exact hy
  · exact fun h => ⟨x, h, eqT_iff.mpr rfl⟩
theorem add_srt {l : List S27} (x : S27) (h : Srt l) : Srt (addT l x).1 := by
  unfold addT
  split
  · exact h
  · rename_i hn
    exact srt_ins x h (fun hm => hn ((any_mem x l).mpr hm))
theorem add_mem (l : List S27) (x y : S27) : y ∈ (addT l x).1 ↔ y = x ∨ y ∈ l := by
  unfold addT
  split
  · rename_i hn
    constructor
    · exact .inr
    · rintro (rfl | h)
      · exact (any_mem _ l).mp hn
      · exact h
  · exact mem_ins x y l
theorem add_len (l : List S27) (x : S27) : (addT l x).1.length ≤ l.length + 1 := by
  unfold addT
  split
  · exact Nat.le_succ _
  · exact Nat.le_of_eq (len_ins x l)
theorem add_old {l : List S27} {x : S27} (h : x ∈ l) : addT l x = (l, false) := by
  unfold addT
  rw [if_pos ((any_mem x l).mpr h)]
theorem srt_same : ∀ {a b : List S27}, Srt a → Srt b → (∀ y, y ∈ a ↔ y ∈ b) → a = b
  | [], [], _, _, _ => rfl
  | [], y :: q, _, _, h => absurd ((h y).mpr List.mem_cons_self) (List.not_mem_nil)
  | x :: r, [], _, _, h => absurd ((h x).mp List.mem_cons_self) (List.not_mem_nil)
  | x :: r, y :: q, ha, hb, h => by
    have a1 := List.pairwise_cons.mp ha
    have b1 := List.pairwise_cons.mp hb
    have e : x = y := by
      rcases List.mem_cons.mp ((h x).mp List.mem_cons_self) with e | hx
      · exact e
      · rcases List.mem_cons.mp ((h y).mpr List.mem_cons_self) with e | hy
        · exact e.symm
        · have h1 := b1.1 x hx
          have h2 := a1.1 y hy
          rw [less_asymm h1] at h2
          cases h2
    subst e
    congr 1
    refine srt_same a1.2 b1.2 fun y => ⟨fun hy => ?_, fun hy => ?_⟩
    · rcases List.mem_cons.mp ((h y).mp (List.mem_cons_of_mem _ hy)) with rfl | hy2
      · have := a1.1 y hy
        rw [less_irrefl] at this
        cases this
      · exact hy2
    · rcases List.mem_cons.mp ((h y).mpr (List.mem_cons_of_mem _ hy)) with rfl | hy2
      · have := b1.1 y hy
        rw [less_irrefl] at this
        cases this
      · exact hy2
/-- What Remove leaves. -/
def remT (l : List S27) (x : S27) : List S27 := l.take (posN (eqT x) l) ++ l.drop (posN (eqT x) l + 1)
theorem rem_cons (c x : S27) (r : List S27) : remT (c :: r) x = if eqT x c = true then r else c :: remT r x := by
  unfold remT
  rw [posN]
  split
  · rfl
  · rfl
theorem rem_mem (x y : S27) : ∀ {l : List S27}, Srt l → y ∈ remT l x → y ∈ l ∧ y ≠ x
  | [], _, h => by cases h
  | c :: r, hs, h => by
    have a1 := List.pairwise_cons.mp hs
    rw [rem_cons] at h
    by_cases he : eqT x c = true
    · rw [if_pos he] at h
      obtain rfl := eqT_iff.mp he
      refine ⟨List.mem_cons_of_mem _ h, ?_⟩
      rintro rfl
      have := a1.1 y h
      rw [less_irrefl] at this
      cases this
    · rw [if_neg he] at h
      rcases List.mem_cons.mp h with rfl | h
      · exact ⟨List.mem_cons_self, fun e => he (eqT_iff.mpr e.symm)⟩
      · have := rem_mem x y a1.2 h
        exact ⟨List.mem_cons_of_mem _ this.1, this.2⟩
theorem rem_sub (x y : S27) : ∀ {l : List S27}, y ∈ remT l x → y ∈ l
  | [], h => by cases h
  | c :: r, h => by
    rw [rem_cons] at h
    split at h
    · exact List.mem_cons_of_mem _ h
    · rcases List.mem_cons.mp h with rfl | h
      · exact List.mem_cons_self
      · exact List.mem_cons_of_mem _ (rem_sub x y h)
theorem rem_srt (x : S27) : ∀ {l : List S27}, Srt l → Srt (remT l x)
  | [], _ => List.Pairwise.nil
  | c :: r, hs => by
    have a1 := List.pairwise_cons.mp hs
    rw [rem_cons]
    split
    · exact a1.2
    · exact List.pairwise_cons.mpr ⟨fun y hy => a1.1 y (rem_sub x y hy), rem_srt x a1.2⟩
theorem rem_len (x : S27) : ∀ (l : List S27), (remT l x).length ≤ l.length
  | [] => Nat.le_refl _
  | c :: r => by
    rw [rem_cons]
    split
    · exact Nat.le_succ _
    · exact Nat.succ_le_succ (rem_len x r)
/-- A row grown out of short pairs: nothing is wrong with it but its size. -/
theorem grown_check {l : List S27} (hs : Srt l) (h : ∀ x ∈ l, x.f0.size ≤ 20 ∧ x.f1.size ≤ 20) : checkT 0 0 l = if 246 < sizeN l then 10 else 0 := by
  unfold checkT
  have hl : l.any longT = false := by
    refine List.any_eq_false.mpr fun x hx => ?_
    have := h x hx
    unfold longT
    rw [Bool.or_eq_true, decide_eq_true_iff, decide_eq_true_iff]
    omega
  rw [if_neg (by omega), if_neg (by rw [hl]; decide)]
  split
  · rfl
  · rw [if_pos (srt_rises hs)]
end Go.Proofs.Ytgbjinonlfhciaa.BkV
