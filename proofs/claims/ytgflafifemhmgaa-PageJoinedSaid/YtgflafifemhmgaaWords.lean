/- Plain laws of words and pieces. -/
import Derived.Test.YtgflafifemhmgaaPages
import Derived.Test.YtgflafifemhmgaaMPgx7
namespace Go.Proofs.Ytgflafifemhmgaa.PWords
open Go.RowKit Go.Proofs.Ytgflafifemhmgaa.Hand Go.Proofs.Ytgflafifemhmgaa.Crc Go.Proofs.Ytgflafifemhmgaa.MPg Go.Proofs.Ytgflafifemhmgaa.Sums Go.Proofs.Ytgflafifemhmgaa.Pages Go.Proofs.YtgflafifemhmgaaW.PrintWords Go.Proofs.YtgflafifemhmgaaW.PrintLast

theorem rd_lt (l : List Int) (i : Nat) (h : i < l.length) : rd l (i : Int) = l[i] := by
  unfold rd
  rw [Int.toNat_natCast, List.getD_eq_getElem?_getD, List.getElem?_eq_getElem h]
  rfl
/-- Both texts of numbers. -/
def wordsOf (acc : List Int) : List Int → List Int × Int
  | [] => (acc, 0)
  | x :: r => if x < 0 then ([], 12) else if x > 65535 then ([], 12) else wordsOf (acc ++ [x / 256 % 256, x % 256]) r
theorem pwords_l (l : List Int) (hl : l.length ≤ 1000) (d : Nat) : ∀ (k : Nat) (acc : List Int) (i : Nat), i + d = l.length → acc.length ≤ 2 * i → page_Words.l0 (k + d + 1) acc l (l.length : Int) i = some (wordsOf acc (l.drop i)) := by
  induction d with
  | zero =>
    intro k acc i hi ha
    rw [page_Words.l0, if_neg (by omega), List.drop_of_length_le (by omega)]
    rfl
  | succ d ih =>
    intro k acc i hi ha
    have hlt : i < l.length := by omega
    rw [show k + (d + 1) + 1 = (k + d + 1) + 1 from rfl, page_Words.l0, if_pos (by omega), if_pos (by omega), if_pos (by omega), rd_lt l i hlt, List.drop_eq_getElem_cons hlt, wordsOf]
    by_cases h1 : l[i] < 0
    · rw [if_pos h1, if_pos h1]
    · rw [if_neg h1, if_neg h1]
      by_cases h2 : l[i] > 65535
      · rw [if_pos h2, if_pos h2]
      · rw [if_neg h2, if_neg h2, Option.bind_some, if_pos (by simp; omega), wrap_id (by omega) (by omega)]
        exact ih k _ (i + 1) (by omega) (by simp; omega)
theorem pwords (k : Nat) (l : List Int) (hl : l.length ≤ 1000) (hk : l.length < k) : page_Words.f k l = some (wordsOf [] l) := by
  unfold page_Words.f
  obtain ⟨d, rfl⟩ : ∃ d, k = d + l.length + 1 := ⟨k - l.length - 1, by omega⟩
  exact pwords_l l hl l.length d [] 0 (by omega) (by simp)
theorem rwords_l (l : List Int) (hl : l.length ≤ 1000) (d : Nat) : ∀ (k : Nat) (acc : List Int) (i : Nat), i + d = l.length → acc.length ≤ 2 * i → intarsiaref06_Words.l0 (k + d + 1) l acc i = some (wordsOf acc (l.drop i)) := by
  induction d with
  | zero =>
    intro k acc i hi ha
    rw [intarsiaref06_Words.l0, if_neg (by omega), List.drop_of_length_le (by omega)]
    rfl
  | succ d ih =>
    intro k acc i hi ha
    have hlt : i < l.length := by omega
    rw [show k + (d + 1) + 1 = (k + d + 1) + 1 from rfl, intarsiaref06_Words.l0, if_pos (by omega), if_pos (by omega), rd_lt l i hlt, List.drop_eq_getElem_cons hlt, wordsOf]
    by_cases h1 : l[i] < 0
    · rw [if_pos h1, if_pos h1]
    · rw [if_neg h1, if_neg h1]
      by_cases h2 : l[i] > 65535
      · rw [if_pos h2, if_pos h2]
      · have e1 : wrap64 (Int.tdiv l[i] 256) = l[i] / 256 := by rw [Int.tdiv_eq_ediv_of_nonneg (by omega)]; exact wrap_id (by omega) (by omega)
        have e2 : Int.tmod l[i] 256 % 256 = l[i] % 256 := by rw [Int.tmod_eq_emod_of_nonneg (by omega)]; omega
        rw [if_neg h2, if_neg h2, Option.bind_some, if_pos (by simp; omega), wrap_id (x := (i : Int) + 1) (by omega) (by omega), e1, e2]
        exact ih k _ (i + 1) (by omega) (by simp; omega)
theorem rwords (k : Nat) (l : List Int) (hl : l.length ≤ 1000) (hk : l.length < k) : intarsiaref06_Words.f k l = some (wordsOf [] l) := by
  unfold intarsiaref06_Words.f
  obtain ⟨d, rfl⟩ : ∃ d, k = d + l.length + 1 := ⟨k - l.length - 1, by omega⟩
  exact rwords_l l hl l.length d [] 0 (by omega) (by simp)
/-- The numbers of two bytes each. -/
def pairs : List Int → List Int
  | a :: b :: r => (256 * a + b) :: pairs r
  | _ => []
theorem punwords_l (l : List Int) (hb : ∀ x ∈ l, Byte x) (hl : l.length ≤ 1000) (d : Nat) : ∀ (k : Nat) (acc : List Int) (i : Nat), i + 2 * d = l.length → acc.length ≤ i → page_Unwords.l0 (k + d + 1) l acc i = some (acc ++ pairs (l.drop i), 0) := by
  induction d with
  | zero =>
    intro k acc i hi ha
    rw [page_Unwords.l0, if_neg (by omega), List.drop_of_length_le (by omega), pairs, List.append_nil]
    rintro a b r ⟨⟩
  | succ d ih =>
    intro k acc i hi ha
    have hlt : i < l.length := by omega
    have hlt1 : i + 1 < l.length := by omega
    have b0 := rd_byte l hb i
    have b1 := rd_byte l hb ((i + 1 : Nat) : Int)
    have b0' := b0
    have b1' := b1
    unfold Byte at b0' b1'
    rw [show k + (d + 1) + 1 = (k + d + 1) + 1 from rfl, page_Unwords.l0, if_pos (by omega), if_pos (by omega), wrap_id (x := (i : Int) + 1) (by omega) (by omega), if_pos (by omega), if_pos (by omega), if_pos (by omega), wrap_id (x := rd l i) (by omega) (by omega), wrap_id (x := rd l i * 256) (by omega) (by omega), show (i : Int) + 1 = ((i + 1 : Nat) : Int) from rfl, wrap_id (x := rd l ((i + 1 : Nat) : Int)) (by omega) (by omega), or_add _ _ (by omega) (by omega) b1, wrap_id (x := (i : Int) + 2) (by omega) (by omega), rd_lt l i hlt, rd_lt l (i + 1) hlt1]
    have h := ih k (acc ++ [256 * l[i] + l[i + 1]]) (i + 2) (by omega) (by simp; omega)
    rw [show (i : Int) + 2 = ((i + 2 : Nat) : Int) from rfl, h, List.drop_eq_getElem_cons hlt, List.drop_eq_getElem_cons hlt1, pairs, List.append_assoc]
    rfl
theorem runwords_l (l : List Int) (hb : ∀ x ∈ l, Byte x) (hl : l.length ≤ 1000) (d : Nat) : ∀ (k : Nat) (acc : List Int) (i : Nat), i + 2 * d = l.length → acc.length ≤ i → intarsiaref06_Unwords.l0 (k + d + 1) l acc i = some (acc ++ pairs (l.drop i), 0) := by
  induction d with
  | zero =>
    intro k acc i hi ha
    rw [intarsiaref06_Unwords.l0, if_neg (by omega), List.drop_of_length_le (by omega), pairs, List.append_nil]
    rintro a b r ⟨⟩
  | succ d ih =>
    intro k acc i hi ha
    have hlt : i < l.length := by omega
    have hlt1 : i + 1 < l.length := by omega
    have b0 := rd_byte l hb i
    have b1 := rd_byte l hb ((i + 1 : Nat) : Int)
    unfold Byte at b0 b1
    rw [show k + (d + 1) + 1 = (k + d + 1) + 1 from rfl, intarsiaref06_Unwords.l0, if_pos (by omega), if_pos (by omega), wrap_id (x := (i : Int) + 1) (by omega) (by omega), if_pos (by omega), if_pos (by omega), if_pos (by omega), wrap_id (x := rd l i) (by omega) (by omega), wrap_id (x := 256 * rd l i) (by omega) (by omega), show (i : Int) + 1 = ((i + 1 : Nat) : Int) from rfl, wrap_id (x := rd l ((i + 1 : Nat) : Int)) (by omega) (by omega), wrap_id (x := 256 * rd l i + rd l ((i + 1 : Nat) : Int)) (by omega) (by omega), wrap_id (x := (i : Int) + 2) (by omega) (by omega), rd_lt l i hlt, rd_lt l (i + 1) hlt1]
    have h := ih k (acc ++ [256 * l[i] + l[i + 1]]) (i + 2) (by omega) (by simp; omega)
    rw [show (i : Int) + 2 = ((i + 2 : Nat) : Int) from rfl, h, List.drop_eq_getElem_cons hlt, List.drop_eq_getElem_cons hlt1, pairs, List.append_assoc]
    rfl
def unwordsOf (l : List Int) : List Int × Int := if (l.length : Int) % 2 = 0 then (pairs l, 0) else ([], 4)
theorem punwords (k : Nat) (l : List Int) (hb : ∀ x ∈ l, Byte x) (hl : l.length ≤ 1000) (hk : l.length < k) : page_Unwords.f k l = some (unwordsOf l) := by
  unfold page_Unwords.f unwordsOf
  by_cases h : (l.length : Int) % 2 = 0
  · rw [if_pos h, if_pos h]
    obtain ⟨d, hd⟩ : ∃ d, l.length = 2 * d := ⟨l.length / 2, by omega⟩
    obtain ⟨j, rfl⟩ : ∃ j, k = j + d + 1 := ⟨k - d - 1, by omega⟩
    exact punwords_l l hb hl d j [] 0 (by omega) (by simp)
  · rw [if_neg h, if_neg h]
theorem runwords (k : Nat) (l : List Int) (hb : ∀ x ∈ l, Byte x) (hl : l.length ≤ 1000) (hk : l.length < k) : intarsiaref06_Unwords.f k l = some (unwordsOf l) := by
  unfold intarsiaref06_Unwords.f unwordsOf
  by_cases h : (l.length : Int) % 2 = 0
  · rw [if_pos h, if_pos h]
    obtain ⟨d, hd⟩ : ∃ d, l.length = 2 * d := ⟨l.length / 2, by omega⟩
    obtain ⟨j, rfl⟩ : ∃ j, k = j + d + 1 := ⟨k - d - 1, by omega⟩
    exact runwords_l l hb hl d j [] 0 (by omega) (by simp)
  · rw [if_neg h, if_neg h]
theorem pairs_len : ∀ l : List Int, (pairs l).length ≤ l.length
  | [] => by simp [pairs]
  | [_] => by simp [pairs]
  | a :: b :: r => by
    have := pairs_len r
    rw [pairs, List.length_cons, List.length_cons, List.length_cons]
    omega
/-- The pieces: m of n bytes each. -/
def pieces (n : Int) : Nat → List Int → List (List Int)
  | 0, _ => []
  | m + 1, b => if b = [] then [] else b.take n.toNat :: pieces n m (b.drop n.toNat)
theorem take_min (b : List Int) (n : Int) (h : 0 ≤ n) : b.take (if (b.length : Int) < n then (b.length : Int) else n).toNat = b.take n.toNat ∧ b.drop (if (b.length : Int) < n then (b.length : Int) else n).toNat = b.drop n.toNat := by
  by_cases hc : (b.length : Int) < n
  · rw [if_pos hc, Int.toNat_natCast, List.take_of_length_le (Nat.le_refl _), List.take_of_length_le (by omega), List.drop_of_length_le (Nat.le_refl _), List.drop_of_length_le (by omega)]
    exact ⟨rfl, rfl⟩
  · rw [if_neg hc]
    exact ⟨rfl, rfl⟩
theorem take_min' (b : List Int) (n : Int) (h : 0 ≤ n) : b.take (mn n (b.length : Int)).toNat = b.take n.toNat ∧ b.drop (mn n (b.length : Int)).toNat = b.drop n.toNat := by
  unfold mn
  split
  · rw [Int.toNat_natCast, List.take_of_length_le (Nat.le_refl _), List.take_of_length_le (by omega), List.drop_of_length_le (Nat.le_refl _), List.drop_of_length_le (by omega)]
    exact ⟨rfl, rfl⟩
  · exact ⟨rfl, rfl⟩
theorem psplit_l (n : Int) (hn : 1 ≤ n) (m : Nat) : ∀ (k : Nat) (b : List Int) (out : List (List Int)), b.length ≤ m → out.length + m ≤ 1000000 → page_Split.l0 (k + m + 1) b n out = some (out ++ pieces n m b) := by
  induction m with
  | zero =>
    intro k b out hb ho
    rw [page_Split.l0, if_neg (by omega), pieces, List.append_nil]
  | succ m ih =>
    intro k b out hb ho
    rw [show k + (m + 1) + 1 = (k + m + 1) + 1 from rfl, page_Split.l0, pieces]
    by_cases h : b = []
    · subst h
      rw [if_neg (by simp), if_pos rfl, List.append_nil]
    · have hp : 0 < b.length := List.length_pos_iff.mpr h
      rw [if_pos hp, if_pos (by omega), if_neg h, (take_min b n (by omega)).1, (take_min b n (by omega)).2, ih k _ _ (by rw [List.length_drop]; omega) (by simp; omega), List.append_assoc]
      rfl
theorem rsplit_l (n : Int) (hn : 1 ≤ n) (m : Nat) : ∀ (k : Nat) (b : List Int) (out : List (List Int)), b.length ≤ m → out.length + m ≤ 1000000 → intarsiaref06_Split.l0 (k + m + 1) b n out = some (out ++ pieces n m b) := by
  induction m with
  | zero =>
    intro k b out hb ho
    rw [intarsiaref06_Split.l0, if_neg (by omega), pieces, List.append_nil]
  | succ m ih =>
    intro k b out hb ho
    rw [show k + (m + 1) + 1 = (k + m + 1) + 1 from rfl, intarsiaref06_Split.l0, pieces]
    by_cases h : b = []
    · subst h
      rw [if_neg (by simp), if_pos rfl, List.append_nil]
    · have hp : 0 < b.length := List.length_pos_iff.mpr h
      have hm0 : 0 ≤ mn n (b.length : Int) ∧ mn n (b.length : Int) ≤ (b.length : Int) := by
        unfold mn
        split <;> omega
      rw [if_pos (by omega), if_pos (by omega), Option.bind_some, if_pos hm0.1, if_pos hm0.2, Option.bind_some, (take_min' b n (by omega)).1, (take_min' b n (by omega)).2, if_pos (by simp; omega), if_pos (by omega), if_neg h, ih k _ _ (by rw [List.length_drop]; omega) (by simp; omega), List.append_assoc]
      rfl
def splitOf (n : Int) (b : List Int) : List (List Int) := if n < 1 then [] else pieces n b.length b
theorem psplit (k : Nat) (b : List Int) (n : Int) (hb : b.length ≤ 1000) (hk : b.length < k) : page_Split.f k b n = some (splitOf n b) := by
  unfold page_Split.f splitOf
  by_cases h : n < 1
  · rw [if_pos h, if_pos h]
  · rw [if_neg h, if_neg h, if_pos (by omega)]
    obtain ⟨j, rfl⟩ : ∃ j, k = j + b.length + 1 := ⟨k - b.length - 1, by omega⟩
    exact psplit_l n (by omega) b.length j b [] (Nat.le_refl _) (by simp; omega)
theorem rsplit (k : Nat) (b : List Int) (n : Int) (hb : b.length ≤ 1000) (hk : b.length < k) : intarsiaref06_Split.f k b n = some (splitOf n b) := by
  unfold intarsiaref06_Split.f splitOf
  obtain ⟨j, rfl⟩ : ∃ j, k = j + b.length + 1 := ⟨k - b.length - 1, by omega⟩
  by_cases h : n < 1
  · rw [if_pos h, intarsiaref06_Split.l0]
    by_cases h0 : (b.length : Int) > 0
    · rw [if_pos h0, if_neg (by omega)]
    · rw [if_neg h0]
  · rw [if_neg h]
    exact rsplit_l n (by omega) b.length j b [] (Nat.le_refl _) (by simp; omega)
theorem pieces_len (n : Int) : ∀ (m : Nat) (b : List Int), (pieces n m b).length ≤ m
  | 0, b => by simp [pieces]
  | m + 1, b => by
    rw [pieces]
    split
    · simp
    · have := pieces_len n m (b.drop n.toNat)
      rw [List.length_cons]; omega
theorem splitOf_len (n : Int) (b : List Int) : (splitOf n b).length ≤ b.length := by
  unfold splitOf
  split
  · simp
  · exact pieces_len n _ b
end Go.Proofs.Ytgflafifemhmgaa.PWords
