/- The law of places, in plain terms. -/
import Derived.Test.YtiapecjiedhaoaaDirs
import Derived.Test.YtiapecjiedhaoaaMDirx11
namespace Go.Proofs.Ytiapecjiedhaoaa.Dirs
open Go.RowKit Go.Proofs.Ytiapecjiedhaoaa.Hand Go.Proofs.Ytiapecjiedhaoaa.MDir Go.Proofs.YtiapecjiedhaoaaW.PrintWords Go.Proofs.YtiapecjiedhaoaaW.PrintLast
theorem addU_nodup (out : List Int) (x : Int) (h : out.Nodup) : (addU out x).Nodup := by
  unfold addU
  by_cases hc : out.contains x = true
  · rw [if_pos hc]; exact h
  · rw [if_neg hc]
    rw [List.nodup_append]
    refine ⟨h, by simp, ?_⟩
    intro a ha b hb hab
    rw [List.mem_singleton] at hb
    subst hb; subst hab
    exact hc (by simpa using ha)
theorem addU_mem (out : List Int) (x y : Int) : y ∈ addU out x ↔ y ∈ out ∨ y = x := by
  unfold addU
  by_cases hc : out.contains x = true
  · rw [if_pos hc]
    constructor
    · exact .inl
    · rintro (h | rfl)
      · exact h
      · simpa using hc
  · rw [if_neg hc, List.mem_append, List.mem_singleton]
theorem met_fold (l : List Int) : ∀ out : List Int, out.Nodup → (l.foldl addU out).Nodup ∧ ∀ y, y ∈ l.foldl addU out ↔ y ∈ out ∨ y ∈ l := by
  induction l with
  | nil => intro out h; exact ⟨h, fun y => by simp⟩
  | cons x r ih =>
    intro out h
    obtain ⟨h1, h2⟩ := ih (addU out x) (addU_nodup out x h)
    refine ⟨h1, fun y => ?_⟩
    rw [List.foldl_cons, h2, addU_mem, List.mem_cons, or_assoc]
theorem met_nodup (l : List Int) : (met l l.length).Nodup := by
  unfold met
  rw [List.take_length]
  exact (met_fold l [] List.nodup_nil).1
theorem met_mem (l : List Int) (y : Int) : y ∈ met l l.length ↔ y ∈ l := by
  unfold met
  rw [List.take_length, (met_fold l [] List.nodup_nil).2]
  simp
theorem nodup_rd {ids : List Int} (h : ids.Nodup) (i j : Nat) (hj : j < i) (hi : i < ids.length) : rd ids (j : Int) ≠ rd ids (i : Int) := by
  rw [rd_lt ids j (by omega), rd_lt ids i hi]
  intro e
  have := (List.getElem_inj (h₀ := by omega) (h₁ := hi) h).mp e
  omega
section
variable (s : ByteArray) (a : Int) (l : List Int) (a' : Int) (l' : List Int) (ids : List Int) (hn : ids.length ≤ 1000) (hl : l.length ≤ 1000)
include hn
theorem p_l1 (hnd : ids.Nodup) (i : Nat) (hi : i < ids.length) (d : Nat) : ∀ (k j : Nat), j + d = i → intarsialaw11_DirPlaces.l1 (k + d + 1) s ids (i : Int) (j : Int) a l a' l' = intarsialaw11_DirPlaces.l0 k s ids ((i + 1 : Nat) : Int) a l a' l' := by
  induction d with
  | zero =>
    intro k j hj
    rw [intarsialaw11_DirPlaces.l1, if_neg (by omega), wrap_id (by omega) (by omega)]
    rfl
  | succ d ih =>
    intro k j hj
    rw [show k + (d + 1) + 1 = (k + d + 1) + 1 from rfl, intarsialaw11_DirPlaces.l1, if_pos (by omega), if_pos (by omega), if_pos (by omega), if_pos (by omega), if_pos (by omega), if_neg (nodup_rd hnd i j (by omega) hi), wrap_id (by omega) (by omega)]
    exact ih k (j + 1) (by omega)
theorem p_l0 (hnd : ids.Nodup) (m : Nat) : ∀ (k i : Nat), i + m = ids.length → ∃ k', k ≤ k' ∧ intarsialaw11_DirPlaces.l0 (k + m * (ids.length + 3) + 1) s ids (i : Int) a l a' l' = intarsialaw11_DirPlaces.l2 k' s ids 0 a l a' l' := by
  induction m with
  | zero =>
    intro k i hi
    refine ⟨k, Nat.le_refl _, ?_⟩
    rw [Nat.zero_mul, Nat.add_zero, intarsialaw11_DirPlaces.l0, if_neg (by omega)]
  | succ m ih =>
    intro k i hi
    have e : k + (m + 1) * (ids.length + 3) + 1 = (((k + (ids.length + 1 - i)) + m * (ids.length + 3) + 1) + i + 1) + 1 := by
      rw [Nat.succ_mul]; omega
    obtain ⟨k', hk', h⟩ := ih (k + (ids.length + 1 - i)) (i + 1) (by omega)
    refine ⟨k', by omega, ?_⟩
    rw [e, intarsialaw11_DirPlaces.l0, if_pos (by omega)]
    exact (p_l1 s a l a' l' ids hn hnd i (by omega) i _ 0 (by omega)).trans h
include hl
theorem p_l3 (i : Nat) (hi : i < l.length) (d : Nat) : ∀ (k j : Nat) (b : Bool), j + d = ids.length → (b = true ∨ ∃ q : Nat, j ≤ q ∧ q < ids.length ∧ rd ids (q : Int) = rd l (i : Int)) → intarsialaw11_DirPlaces.l3 (k + d + 1) s ids (i : Int) b (j : Int) a l a' l' = intarsialaw11_DirPlaces.l2 k s ids ((i + 1 : Nat) : Int) a l a' l' := by
  induction d with
  | zero =>
    intro k j b hj hb
    have hbt : b = true := by
      rcases hb with h | ⟨q, h1, h2, _⟩
      · exact h
      · omega
    subst hbt
    rw [intarsialaw11_DirPlaces.l3, if_neg (by omega), if_pos rfl, wrap_id (by omega) (by omega)]
    rfl
  | succ d ih =>
    intro k j b hj hb
    rw [show k + (d + 1) + 1 = (k + d + 1) + 1 from rfl, intarsialaw11_DirPlaces.l3, if_pos (by omega), wrap_id (by omega) (by omega)]
    cases b with
    | true =>
      rw [if_pos rfl]
      exact ih k (j + 1) true (by omega) (.inl rfl)
    | false =>
      rw [if_neg (by decide), if_pos (by omega), if_pos (by omega), if_pos (by omega)]
      refine ih k (j + 1) _ (by omega) ?_
      rcases hb with h | ⟨q, h1, h2, h3⟩
      · cases h
      · by_cases e : q = j
        · subst e
          exact .inl (by rw [h3]; simp)
        · exact .inr ⟨q, by omega, h2, h3⟩
theorem p_l2 (hin : ∀ x ∈ l, x ∈ ids) (m : Nat) : ∀ (k i : Nat), i + m = l.length → ∃ k', k ≤ k' ∧ intarsialaw11_DirPlaces.l2 (k + m * (ids.length + 2) + 1) s ids (i : Int) a l a' l' = intarsialaw11_DirPlaces.l2 (k' + 1) s ids (l.length : Int) a l a' l' := by
  induction m with
  | zero =>
    intro k i hi
    refine ⟨k, Nat.le_refl _, ?_⟩
    rw [Nat.zero_mul, Nat.add_zero, show i = l.length by omega]
  | succ m ih =>
    intro k i hi
    have e : k + (m + 1) * (ids.length + 2) + 1 = ((k + m * (ids.length + 2) + 1) + ids.length + 1) + 1 := by
      rw [Nat.succ_mul]; omega
    obtain ⟨k', hk', h⟩ := ih k (i + 1) (by omega)
    refine ⟨k', hk', ?_⟩
    have hlt : i < l.length := by omega
    rw [e, intarsialaw11_DirPlaces.l2, if_pos (by omega)]
    refine Eq.trans (p_l3 s a l a' l' ids hn hl i hlt ids.length _ 0 false (by omega) ?_) h
    · refine .inr ?_
      have hm := hin l[i] (List.getElem_mem hlt)
      obtain ⟨q, hq, e2⟩ := List.mem_iff_getElem.mp hm
      exact ⟨q, Nat.zero_le _, hq, by rw [rd_lt ids q hq, rd_lt l i hlt, e2]⟩
end
theorem places (s : ByteArray) (d : Int) (l : List Int) (hw : ∀ x ∈ l, (Lit.int .i64 x).wf = true) : ∃ k, intarsialaw11_DirPlaces.f k d l s = some true := by
  by_cases h1 : (l.length : Int) > 300
  · refine ⟨1, ?_⟩
    unfold intarsialaw11_DirPlaces.f
    rw [if_pos h1, intarsialaw11_DirPlaces.j0, if_pos rfl]
    rfl
  · by_cases h2 : (s.size : Int) > 300
    · refine ⟨1, ?_⟩
      unfold intarsialaw11_DirPlaces.f
      rw [if_neg h1, decide_eq_true h2, intarsialaw11_DirPlaces.j0, if_pos rfl]
      rfl
    · have hids : dir_IDs.f d l = some (met l l.length) := by
        unfold dir_IDs.f
        rw [if_pos ⟨hw, by omega⟩]
      have hml := met_le l l.length (Nat.le_refl _)
      obtain ⟨h, hh, hof⟩ := of_is s (by omega)
      obtain ⟨k0, hk0, e0⟩ := p_l0 s d l d l (met l l.length) (by omega) (met_nodup l) (met l l.length).length (1000 + l.length * ((met l l.length).length + 2) + 1) 0 (by omega)
      obtain ⟨j, rfl⟩ : ∃ j, k0 = (1000 + j) + l.length * ((met l l.length).length + 2) + 1 := ⟨k0 - (1000 + l.length * ((met l l.length).length + 2) + 1), by omega⟩
      obtain ⟨k2, hk2, e2⟩ := p_l2 s d l d l (met l l.length) (by omega) (by omega) (fun x hx => (met_mem l x).mpr hx) l.length (1000 + j) 0 (by omega)
      refine ⟨(1000 + l.length * ((met l l.length).length + 2) + 1 + (met l l.length).length * ((met l l.length).length + 3) + 1) + 1, ?_⟩
      unfold intarsialaw11_DirPlaces.f
      rw [if_neg h1, decide_eq_false h2, intarsialaw11_DirPlaces.j0, if_neg (by decide), hids, Option.bind_some]
      refine Eq.trans e0 (Eq.trans e2 ?_)
      rw [intarsialaw11_DirPlaces.l2, if_neg (by omega), check_is, Option.bind_some]
      by_cases hc : chk d l = 0
      · have ht := top_lt h hh d l hc
        rw [if_pos hc, at_is s h hh hof k2 (by omega), Option.bind_some, place_is s h hh hof k2 (by omega), Option.bind_some]
        unfold placeOf atOf
        rw [if_pos hc, if_pos hc, if_pos ht.1, if_pos ht.2, if_pos rfl]
        rfl
      · rw [if_neg hc, at_is s h hh hof k2 (by omega), Option.bind_some]
        unfold atOf
        rw [if_neg hc, if_pos rfl]
        rfl
end Go.Proofs.Ytiapecjiedhaoaa.Dirs
