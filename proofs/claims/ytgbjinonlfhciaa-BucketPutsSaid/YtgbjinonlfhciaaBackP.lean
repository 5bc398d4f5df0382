/- What is put is got back; a byte more, or a byte less, is refused. -/
import Derived.Test.YtgbjinonlfhciaaHash
namespace Go.Proofs.Ytgbjinonlfhciaa.BkV
open Go.RowKit Go.Proofs.Ytgbjinonlfhciaa.MBk Go.Proofs.YtgbjinonlfhciaaW.PrintWords Go.Proofs.YtgbjinonlfhciaaW.PrintLast
set_option linter.unusedVariables false
theorem str_bytes (s : ByteArray) : strOfNums (bytesOf s) = s := by
  have h : (strOfNums (bytesOf s)).data.toList = s.data.toList := by
    rw [strOfNums_data, bytesOf, List.map_map]
    conv => rhs; rw [← List.map_id s.data.toList]
    refine List.map_congr_left fun b _ => ?_
    show UInt8.ofNat ((b.toNat : Int)).toNat = b
    rw [Int.toNat_natCast, UInt8.ofNat_toNat]
  have h2 : (strOfNums (bytesOf s)).data = s.data := Array.toList_inj.mp h
  cases s
  exact congrArg ByteArray.mk h2
theorem bytes_byte (s : ByteArray) : ∀ x ∈ bytesOf s, Byte x := by
  intro x hx
  unfold bytesOf at hx
  obtain ⟨b, _, rfl⟩ := List.mem_map.mp hx
  have := b.toNat_lt
  exact ⟨by omega, by omega⟩
/-! ### a text, read back -/
theorem text_back (s : ByteArray) (hs : s.size ≤ 255) (r : List Int) : textR (textB s ++ r, 0) = (s, (r, 0)) := by
  have e1 : textB s ++ r = ((s.size : Int) % 256) :: (bytesOf s ++ r) := rfl
  have e2 : rd (textB s ++ r) 0 = (s.size : Int) := by rw [e1]; show (s.size : Int) % 256 = _; omega
  have e3 : (textB s ++ r).length = s.size + 1 + r.length := by rw [List.length_append, textB_len]
  unfold textR
  rw [if_neg (by simp), if_neg (by show ¬ ((textB s ++ r).length = 0 ∨ ((textB s ++ r).length : Int) - 1 < rd (textB s ++ r) 0); rw [e2, e3]; omega)]
  show (strOfNums (((textB s ++ r).drop 1).take (rd (textB s ++ r) 0).toNat), ((textB s ++ r).drop (1 + (rd (textB s ++ r) 0).toNat), (0 : Int))) = _
  rw [e2, Int.toNat_natCast, Nat.add_comm 1 s.size, e1, List.drop_succ_cons, List.drop_succ_cons, List.drop_zero]
  have l0 := bytesOf_length s
  rw [List.take_append_of_le_length (by omega), List.take_of_length_le (by omega), str_bytes, List.drop_append_of_le_length (by omega), List.drop_of_length_le (by omega), List.nil_append]
theorem pairs_back : ∀ (l : List S27), (∀ x ∈ l, x.f0.size ≤ 255 ∧ x.f1.size ≤ 255) → ∀ r : List Int, readP l.length (pairsB l ++ r, 0) = (l, (r, 0))
  | [], _, r => rfl
  | x :: q, h, r => by
    have hx := h x List.mem_cons_self
    show readP (q.length + 1) _ = _
    have e : pairsB (x :: q) ++ r = textB x.f0 ++ (textB x.f1 ++ (pairsB q ++ r)) := by rw [pairsB, List.append_assoc, List.append_assoc]
    rw [e, readP, text_back x.f0 hx.1, text_back x.f1 hx.2, pairs_back q (fun y hy => h y (List.mem_cons_of_mem _ hy)) r]
/-- A reading of a whole bucket. -/
def runT (b : List Int) : (Int × Int × List S27) × St :=
  (((numR 1 (b, 0)).1, (numR 2 (numR 1 (b, 0)).2).1, (readP (numR 1 (numR 2 (numR 1 (b, 0)).2).2).1.toNat (numR 1 (numR 2 (numR 1 (b, 0)).2).2).2).1), (readP (numR 1 (numR 2 (numR 1 (b, 0)).2).2).1.toNat (numR 1 (numR 2 (numR 1 (b, 0)).2).2).2).2)
theorem getT_run (b : List Int) : getT b = if doneR (runT b).2 = 0 ∧ checkT (runT b).1.1 (runT b).1.2.1 (runT b).1.2.2 = 0 then ((runT b).1, 0) else ((0, 0, []), 4) := rfl
theorem run_back (d n : Int) (l : List S27) (h : checkT d n l = 0) : runT (headB d n l.length ++ pairsB l) = ((d, n, l), ([], 0)) := by
  obtain ⟨h1, h2, h3, _⟩ := check_ok h
  have h4 := long_no h2
  have h5 := len_sizeN l
  have n1 : ∀ r : List Int, numR 1 (d % 256 :: r, 0) = (d, (r, 0)) := by
    intro r
    unfold numR numV
    rw [if_neg (by simp), if_neg (by simp), if_pos rfl]
    show (d % 256, (List.drop 1 (d % 256 :: r), (0 : Int))) = _
    rw [show d % 256 = d by omega]
    rfl
  have n2 : ∀ r : List Int, numR 2 ((n / 256) % 256 :: n % 256 :: r, 0) = (n, (r, 0)) := by
    intro r
    unfold numR numV
    rw [if_neg (by simp), if_neg (by simp), if_neg (by decide)]
    show (256 * ((n / 256) % 256) + n % 256, (r, (0 : Int))) = _
    rw [show 256 * ((n / 256) % 256) + n % 256 = n by omega]
  have n3 : ∀ r : List Int, numR 1 ((l.length : Int) % 256 :: r, 0) = ((l.length : Int), (r, 0)) := by
    intro r
    unfold numR numV
    rw [if_neg (by simp), if_neg (by simp), if_pos rfl]
    show ((l.length : Int) % 256, (r, (0 : Int))) = _
    rw [show (l.length : Int) % 256 = l.length by omega]
  have e : headB d n l.length ++ pairsB l = d % 256 :: (n / 256) % 256 :: n % 256 :: (l.length : Int) % 256 :: pairsB l := rfl
  have hp := pairs_back l (fun x hx => by have := h4 x hx; omega) []
  rw [List.append_nil] at hp
  unfold runT
  rw [e, n1, n2, n3, Int.toNat_natCast, hp]
/-! ### more bytes behind what is read -/
theorem rd_app (l r : List Int) (i : Nat) (h : i < l.length) : rd (l ++ r) (i : Int) = rd l (i : Int) := by
  unfold rd
  rw [Int.toNat_natCast, List.getD_eq_getElem?_getD, List.getD_eq_getElem?_getD, List.getElem?_append_left h]
theorem num_more (m : Nat) (hm : m = 1 ∨ m = 2) (s : St) (r : List Int) (h : (numR m s).2.2 = 0) : s.2 = 0 ∧ numR m (s.1 ++ r, s.2) = ((numR m s).1, ((numR m s).2.1 ++ r, 0)) := by
  unfold numR at h ⊢
  by_cases h0 : s.2 ≠ 0
  · rw [if_pos h0] at h
    exact absurd h h0
  · have h0' : s.2 = 0 := by omega
    rw [if_neg h0] at h ⊢
    by_cases h1 : s.1.length < m
    · rw [if_pos h1] at h
      exact absurd (show (3 : Int) = 0 from h) (by decide)
    · refine ⟨h0', ?_⟩
      rw [if_neg h1, if_neg (by show ¬ (s.1 ++ r).length < m; rw [List.length_append]; omega)]
      rw [if_neg h0]
      show (numV m (s.1 ++ r), ((s.1 ++ r).drop m, (0 : Int))) = (numV m s.1, (s.1.drop m ++ r, 0))
      rw [List.drop_append_of_le_length (by omega)]
      congr 1
      unfold numV
      have a0 := rd_app s.1 r 0 (by omega)
      rcases hm with rfl | rfl
      · rw [if_pos rfl, if_pos rfl]
        exact a0
      · have a1 := rd_app s.1 r 1 (by omega)
        rw [if_neg (by decide), if_neg (by decide)]
        show 256 * rd (s.1 ++ r) ((0 : Nat) : Int) + rd (s.1 ++ r) ((1 : Nat) : Int) = 256 * rd s.1 ((0 : Nat) : Int) + rd s.1 ((1 : Nat) : Int)
        rw [a0, a1]
theorem text_more (s : St) (r : List Int) (h : (textR s).2.2 = 0) : s.2 = 0 ∧ textR (s.1 ++ r, s.2) = ((textR s).1, ((textR s).2.1 ++ r, 0)) := by
  unfold textR at h ⊢
  by_cases h0 : s.2 ≠ 0
  · rw [if_pos h0] at h
    exact absurd h h0
  · have h0' : s.2 = 0 := by omega
    rw [if_neg h0] at h ⊢
    by_cases h1 : s.1.length = 0 ∨ (s.1.length : Int) - 1 < rd s.1 0
    · rw [if_pos h1] at h
      exact absurd (show (3 : Int) = 0 from h) (by decide)
    · refine ⟨h0', ?_⟩
      have a0 : rd (s.1 ++ r) 0 = rd s.1 0 := rd_app s.1 r 0 (by omega)
      rw [if_neg h1, if_neg (by show ¬ ((s.1 ++ r).length = 0 ∨ ((s.1 ++ r).length : Int) - 1 < rd (s.1 ++ r) 0); rw [a0, List.length_append]; omega)]
      rw [if_neg h0]
      show (strOfNums (((s.1 ++ r).drop 1).take (rd (s.1 ++ r) 0).toNat), ((s.1 ++ r).drop (1 + (rd (s.1 ++ r) 0).toNat), (0 : Int))) = (strOfNums ((s.1.drop 1).take (rd s.1 0).toNat), (s.1.drop (1 + (rd s.1 0).toNat) ++ r, 0))
      rw [a0, List.drop_append_of_le_length (by omega), List.drop_append_of_le_length (by omega), List.take_append_of_le_length (by rw [List.length_drop]; omega)]
theorem pairs_more : ∀ (m : Nat) (s : St) (r : List Int), (readP m s).2.2 = 0 → s.2 = 0 ∧ readP m (s.1 ++ r, s.2) = ((readP m s).1, ((readP m s).2.1 ++ r, 0))
  | 0, s, r, h => by
    have h0 : s.2 = 0 := h
    exact ⟨h0, by show (([] : List S27), (s.1 ++ r, s.2)) = _; rw [h0]; rfl⟩
  | m + 1, s, r, h => by
    rw [readP] at h ⊢
    obtain ⟨a1, a2⟩ := pairs_more m (textR (textR s).2).2 r h
    obtain ⟨b1, b2⟩ := text_more (textR s).2 r a1
    obtain ⟨c1, c2⟩ := text_more s r b1
    rw [b1] at b2
    rw [a1] at a2
    refine ⟨c1, ?_⟩
    rw [readP, c2]
    simp only []
    rw [b2]
    simp only []
    rw [a2]
theorem run_more (b r : List Int) (h : (runT b).2.2 = 0) : runT (b ++ r) = ((runT b).1, ((runT b).2.1 ++ r, 0)) := by
  unfold runT at h ⊢
  obtain ⟨a1, a2⟩ := pairs_more _ _ r h
  obtain ⟨b1, b2⟩ := num_more 1 (.inl rfl) _ r a1
  obtain ⟨c1, c2⟩ := num_more 2 (.inr rfl) _ r b1
  obtain ⟨d1, d2⟩ := num_more 1 (.inl rfl) (b, 0) r c1
  rw [a1] at a2
  rw [b1] at b2
  rw [c1] at c2
  have d3 : numR 1 (b ++ r, 0) = ((numR 1 (b, 0)).1, ((numR 1 (b, 0)).2.1 ++ r, 0)) := d2
  simp only [d3, c2, b2, a2]
/-! ### what Get tells -/
theorem done_iff (s : St) : doneR s = 0 ↔ s = ([], 0) := by
  unfold doneR
  obtain ⟨l, e⟩ := s
  by_cases h : e ≠ 0
  · rw [if_pos h]
    exact ⟨fun he => absurd he h, fun he => by injection he⟩
  · rw [if_neg h]
    have h' : e = 0 := by omega
    subst h'
    cases l with
    | nil => exact ⟨fun _ => rfl, fun _ => rfl⟩
    | cons a q =>
      rw [if_pos (by simp)]
      exact ⟨fun he => absurd he (by decide), fun he => by injection he with h1 _; cases h1⟩
theorem get_back (d n : Int) (l : List S27) (h : checkT d n l = 0) : getT (headB d n l.length ++ pairsB l) = ((d, n, l), 0) := by
  rw [getT_run, run_back d n l h, if_pos ⟨(done_iff _).mpr rfl, h⟩]
theorem get_long (d n : Int) (l : List S27) (h : checkT d n l = 0) (x : Int) (r : List Int) : getT (headB d n l.length ++ pairsB l ++ x :: r) = ((0, 0, []), 4) := by
  have hb := run_back d n l h
  rw [getT_run, run_more _ _ (by rw [hb]), hb, if_neg (fun hh => by have := (done_iff _).mp hh.1; injection this with h1 _; cases h1)]
theorem get_short (d n : Int) (l : List S27) (h : checkT d n l = 0) (b r : List Int) (x : Int) (he : headB d n l.length ++ pairsB l = b ++ x :: r) : getT b = ((0, 0, []), 4) := by
  rw [getT_run, if_neg]
  rintro ⟨h1, _⟩
  have h2 := (done_iff _).mp h1
  have h3 := run_more b (x :: r) (by rw [h2])
  rw [← he, run_back d n l h, h2] at h3
  injection h3 with _ h4
  injection h4 with h5 _
  cases h5
theorem put_byte (d n : Int) (l : List S27) : ∀ x ∈ headB d n l.length ++ pairsB l, Byte x := by
  have hp : ∀ q : List S27, ∀ x ∈ pairsB q, Byte x := by
    intro q
    induction q with
    | nil => intro x hx; cases hx
    | cons a q ih =>
      have ht : ∀ s : ByteArray, ∀ x ∈ textB s, Byte x := by
        intro s x hx
        rcases List.mem_cons.mp (show x ∈ ((s.size : Int) % 256) :: bytesOf s from hx) with rfl | hx
        · exact ⟨by omega, by omega⟩
        · exact bytes_byte s x hx
      intro x hx
      rw [pairsB] at hx
      rcases List.mem_append.mp hx with hx | hx
      · exact ht _ x hx
      · rcases List.mem_append.mp hx with hx | hx
        · exact ht _ x hx
        · exact ih x hx
  intro x hx
  rcases List.mem_append.mp hx with hx | hx
  · unfold headB at hx
    simp only [List.mem_cons, List.not_mem_nil, or_false] at hx
    rcases hx with rfl | rfl | rfl | rfl <;> exact ⟨by omega, by omega⟩
  · exact hp l x hx
theorem put_len (d n : Int) (l : List S27) (h : checkT d n l = 0) : 4 ≤ (headB d n l.length ++ pairsB l).length ∧ (headB d n l.length ++ pairsB l).length ≤ 246 := by
  have h1 := (check_ok h).2.2.1
  have h2 := pairsB_len l
  rw [List.length_append]
  show 4 ≤ 4 + _ ∧ 4 + _ ≤ 246
  omega
end Go.Proofs.Ytgbjinonlfhciaa.BkV
