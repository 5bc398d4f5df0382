/- What a reading took off, laid again, are the bytes; what the reference's Get tells by it. -/
import Derived.Test.YtgbjinonlfhciaaPutsP
namespace Go.Proofs.Ytgbjinonlfhciaa.BkV
open Go.RowKit Go.Proofs.Ytgbjinonlfhciaa.MBk Go.Proofs.YtgbjinonlfhciaaW.PrintWords Go.Proofs.YtgbjinonlfhciaaW.PrintLast
set_option linter.unusedVariables false
theorem bytes_str {l : List Int} (h : ∀ x ∈ l, Byte x) : bytesOf (strOfNums l) = l := by
  unfold bytesOf
  rw [strOfNums_data, List.map_map]
  conv => rhs; rw [← List.map_id l]
  refine List.map_congr_left fun x hx => ?_
  obtain ⟨h0, h1⟩ := h x hx
  show (((UInt8.ofNat x.toNat).toNat : Nat) : Int) = x
  rw [UInt8.toNat_ofNat_of_lt' (by show x.toNat < 256; omega)]
  omega
theorem str_inj {a b : List Int} (ha : ∀ x ∈ a, Byte x) (hb : ∀ x ∈ b, Byte x) (h : strOfNums a = strOfNums b) : a = b := by
  rw [← bytes_str ha, ← bytes_str hb, h]
theorem rd_head (a : Int) (q : List Int) : rd (a :: q) 0 = a := rfl
theorem take_byte {l : List Int} (h : ∀ x ∈ l, Byte x) (n : Nat) : ∀ x ∈ l.take n, Byte x := fun x hx => h x (List.mem_of_mem_take hx)
theorem text_inv (s : St) (hs : ∀ x ∈ s.1, Byte x) (h : (textR s).2.2 = 0) : s.2 = 0 ∧ s.1 = textB (textR s).1 ++ (textR s).2.1 := by
  unfold textR at h ⊢
  by_cases h0 : s.2 ≠ 0
  · rw [if_pos h0] at h
    exact absurd h h0
  · have h0' : s.2 = 0 := by omega
    rw [if_neg h0] at h ⊢
    by_cases h1 : s.1.length = 0 ∨ (s.1.length : Int) - 1 < rd s.1 0
    · rw [if_pos h1] at h
      exact absurd (show (3 : Int) = 0 from h) (by decide)
    · refine ⟨h0', ?_⟩
      rw [if_neg h1]
      show s.1 = textB (strOfNums ((s.1.drop 1).take (rd s.1 0).toNat)) ++ s.1.drop (1 + (rd s.1 0).toNat)
      obtain ⟨l, e⟩ := s
      cases l with
      | nil => exact absurd (Or.inl rfl) h1
      | cons a q =>
        have hb := hs a List.mem_cons_self
        have hq : ∀ x ∈ q, Byte x := fun x hx => hs x (List.mem_cons_of_mem _ hx)
        show a :: q = textB (strOfNums (((a :: q).drop 1).take (rd (a :: q) 0).toNat)) ++ (a :: q).drop (1 + (rd (a :: q) 0).toNat)
        have hlen : ¬ (((a :: q).length : Int) - 1 < rd (a :: q) 0) := fun hh => h1 (Or.inr hh)
        rw [rd_head] at hlen ⊢
        rw [List.length_cons] at hlen
        obtain ⟨hb0, hb1⟩ := hb
        rw [Nat.add_comm 1 a.toNat, List.drop_succ_cons, List.drop_succ_cons, List.drop_zero]
        unfold textB
        rw [bytes_str (take_byte hq _), strOfNums_size, List.length_take]
        have e1 : ((min a.toNat q.length : Nat) : Int) % 256 = a := by
          rw [Nat.min_eq_left (by omega)]
          omega
        rw [e1, List.append_assoc, List.take_append_drop]
        rfl
theorem num_inv1 (s : St) (h : (numR 1 s).2.2 = 0) : s.2 = 0 ∧ s.1 = (numR 1 s).1 :: (numR 1 s).2.1 := by
  unfold numR at h ⊢
  by_cases h0 : s.2 ≠ 0
  · rw [if_pos h0] at h
    exact absurd h h0
  · have h0' : s.2 = 0 := by omega
    rw [if_neg h0] at h ⊢
    by_cases h1 : s.1.length < 1
    · rw [if_pos h1] at h
      exact absurd (show (3 : Int) = 0 from h) (by decide)
    · refine ⟨h0', ?_⟩
      rw [if_neg h1]
      obtain ⟨l, e⟩ := s
      cases l with
      | nil => exact absurd Nat.zero_lt_one h1
      | cons a q => rfl
theorem num_inv2 (s : St) (hs : ∀ x ∈ s.1, Byte x) (h : (numR 2 s).2.2 = 0) : s.2 = 0 ∧ s.1 = (numR 2 s).1 / 256 :: (numR 2 s).1 % 256 :: (numR 2 s).2.1 ∧ 0 ≤ (numR 2 s).1 ∧ (numR 2 s).1 < 65536 := by
  unfold numR at h ⊢
  by_cases h0 : s.2 ≠ 0
  · rw [if_pos h0] at h
    exact absurd h h0
  · have h0' : s.2 = 0 := by omega
    rw [if_neg h0] at h ⊢
    by_cases h1 : s.1.length < 2
    · rw [if_pos h1] at h
      exact absurd (show (3 : Int) = 0 from h) (by decide)
    · refine ⟨h0', ?_⟩
      rw [if_neg h1]
      obtain ⟨l, e⟩ := s
      match l, hs, h1 with
      | [], _, h1 => exact absurd (show (0 : Nat) < 2 by decide) h1
      | [a], _, h1 => exact absurd (show (1 : Nat) < 2 by decide) h1
      | a :: b :: q, hs, _ =>
        obtain ⟨a0, a1⟩ := hs a List.mem_cons_self
        obtain ⟨b0, b1⟩ := hs b (List.mem_cons_of_mem _ List.mem_cons_self)
        have e : numV 2 (a :: b :: q) = 256 * a + b := rfl
        show a :: b :: q = numV 2 (a :: b :: q) / 256 :: numV 2 (a :: b :: q) % 256 :: q ∧ 0 ≤ numV 2 (a :: b :: q) ∧ numV 2 (a :: b :: q) < 65536
        rw [e, show (256 * a + b) / 256 = a by omega, show (256 * a + b) % 256 = b by omega]
        exact ⟨rfl, by omega, by omega⟩
theorem text_byte {s : St} (h : ∀ x ∈ s.1, Byte x) : ∀ x ∈ (textR s).2.1, Byte x := (text_ok (n := s.1.length) ⟨h, Nat.le_refl _⟩).1
theorem num_byte {s : St} (h : ∀ x ∈ s.1, Byte x) (m : Nat) : ∀ x ∈ (numR m s).2.1, Byte x := (num_ok (n := s.1.length) ⟨h, Nat.le_refl _⟩ m).1
theorem pairs_inv : ∀ (m : Nat) (s : St), (∀ x ∈ s.1, Byte x) → (readP m s).2.2 = 0 → s.2 = 0 ∧ s.1 = pairsB (readP m s).1 ++ (readP m s).2.1 ∧ (readP m s).1.length = m
  | 0, s, _, h => ⟨h, rfl, rfl⟩
  | m + 1, s, hs, h => by
    rw [readP] at h ⊢
    obtain ⟨a1, a2, a3⟩ := pairs_inv m (textR (textR s).2).2 (text_byte (text_byte hs)) h
    obtain ⟨b1, b2⟩ := text_inv (textR s).2 (text_byte hs) a1
    obtain ⟨c1, c2⟩ := text_inv s hs b1
    refine ⟨c1, ?_, ?_⟩
    · rw [c2, b2, a2, pairsB, List.append_assoc, List.append_assoc]
    · show _ + 1 = m + 1
      rw [a3]
theorem run_inv (body : List Int) (hb : ∀ x ∈ body, Byte x) (h : (runT body).2.2 = 0) : body = headB (runT body).1.1 (runT body).1.2.1 (runT body).1.2.2.length ++ pairsB (runT body).1.2.2 ++ (runT body).2.1 := by
  unfold runT at h ⊢
  have hb1 : ∀ x ∈ (numR 1 (body, 0)).2.1, Byte x := num_byte hb 1
  have hb2 : ∀ x ∈ (numR 2 (numR 1 (body, 0)).2).2.1, Byte x := num_byte hb1 2
  have hb3 : ∀ x ∈ (numR 1 (numR 2 (numR 1 (body, 0)).2).2).2.1, Byte x := num_byte hb2 1
  obtain ⟨a1, a2, a3⟩ := pairs_inv _ _ hb3 h
  obtain ⟨b1, b2⟩ := num_inv1 _ a1
  obtain ⟨c1, c2, c3, c4⟩ := num_inv2 _ hb1 b1
  obtain ⟨d1, d2⟩ := num_inv1 (body, 0) c1
  replace d2 : body = (numR 1 (body, 0)).1 :: (numR 1 (body, 0)).2.1 := d2
  obtain ⟨e1, e2⟩ := num1_range (n := body.length) (s := (body, 0)) ⟨hb, Nat.le_refl _⟩
  obtain ⟨f1, f2⟩ := num1_range (n := (numR 2 (numR 1 (body, 0)).2).2.1.length) ⟨hb2, Nat.le_refl _⟩
  have g : headB (numR 1 (body, 0)).1 (numR 2 (numR 1 (body, 0)).2).1 (readP (numR 1 (numR 2 (numR 1 (body, 0)).2).2).1.toNat (numR 1 (numR 2 (numR 1 (body, 0)).2).2).2).1.length = (numR 1 (body, 0)).1 :: (numR 2 (numR 1 (body, 0)).2).1 / 256 :: (numR 2 (numR 1 (body, 0)).2).1 % 256 :: (numR 1 (numR 2 (numR 1 (body, 0)).2).2).1 :: [] := by
    rw [a3]
    unfold headB
    rw [show (numR 1 (body, 0)).1 % 256 = (numR 1 (body, 0)).1 by omega, show (numR 2 (numR 1 (body, 0)).2).1 / 256 % 256 = (numR 2 (numR 1 (body, 0)).2).1 / 256 by omega, show (((numR 1 (numR 2 (numR 1 (body, 0)).2).2).1.toNat : Nat) : Int) % 256 = (numR 1 (numR 2 (numR 1 (body, 0)).2).2).1 by omega]
  refine d2.trans ?_
  show _ = headB (numR 1 (body, 0)).1 (numR 2 (numR 1 (body, 0)).2).1 (readP (numR 1 (numR 2 (numR 1 (body, 0)).2).2).1.toNat (numR 1 (numR 2 (numR 1 (body, 0)).2).2).2).1.length ++ pairsB (readP (numR 1 (numR 2 (numR 1 (body, 0)).2).2).1.toNat (numR 1 (numR 2 (numR 1 (body, 0)).2).2).2).1 ++ (readP (numR 1 (numR 2 (numR 1 (body, 0)).2).2).1.toNat (numR 1 (numR 2 (numR 1 (body, 0)).2).2).2).2.1
  rw [g, List.append_assoc, ← a2]
  show _ :: _ = _ :: _ :: _ :: _ :: _
  refine congrArg (List.cons _) ?_
  rw [b2] at c2
  exact c2
theorem getT_fail (body : List Int) (h : doneR (runT body).2 ≠ 0) : getT body = ((0, 0, []), 4) := by rw [getT_run, if_neg (fun hh => h hh.1)]
theorem getT_check (body : List Int) (h : checkT (runT body).1.1 (runT body).1.2.1 (runT body).1.2.2 ≠ 0) : getT body = ((0, 0, []), 4) := by rw [getT_run, if_neg (fun hh => h hh.2)]
theorem done_err {s : St} (h : s.2 ≠ 0) : doneR s ≠ 0 := by unfold doneR; rw [if_pos h]; exact h
/-- What was read whole is what is laid again. -/
theorem run_whole (body : List Int) (hb : ∀ x ∈ body, Byte x) (h : doneR (runT body).2 = 0) : body = headB (runT body).1.1 (runT body).1.2.1 (runT body).1.2.2.length ++ pairsB (runT body).1.2.2 := by
  have h1 := (done_iff _).mp h
  have h2 := run_inv body hb (by rw [h1])
  rw [h1, List.append_nil] at h2
  exact h2
theorem getT_other (body : List Int) (hb : ∀ x ∈ body, Byte x) (hne : headB (runT body).1.1 (runT body).1.2.1 (runT body).1.2.2.length ++ pairsB (runT body).1.2.2 ≠ body) : getT body = ((0, 0, []), 4) :=
  getT_fail body (fun h => hne (run_whole body hb h).symm)
theorem getT_big (body : List Int) (hb : ∀ x ∈ body, Byte x) (hl : 246 < body.length) : getT body = ((0, 0, []), 4) := by
  rw [getT_run, if_neg]
  rintro ⟨h1, h2⟩
  have h3 := run_whole body hb h1
  have h4 := (put_len _ _ _ h2).2
  rw [← h3] at h4
  omega
end Go.Proofs.Ytgbjinonlfhciaa.BkV
