/- The law of words, in plain terms. -/
import Derived.Test.YtgflafifemhmgaaWords
import Derived.Test.YtgflafifemhmgaaMPgx8
namespace Go.Proofs.Ytgflafifemhmgaa.Pure
open Go.RowKit Go.Proofs.Ytgflafifemhmgaa.Hand Go.Proofs.Ytgflafifemhmgaa.Crc Go.Proofs.Ytgflafifemhmgaa.MPg Go.Proofs.Ytgflafifemhmgaa.Sums Go.Proofs.Ytgflafifemhmgaa.Pages Go.Proofs.Ytgflafifemhmgaa.PWords Go.Proofs.YtgflafifemhmgaaW.PrintWords Go.Proofs.YtgflafifemhmgaaW.PrintLast
theorem law_l1 (p : List (List Int)) (hp : p.length ≤ 100000) (d : Nat) : ∀ (k i : Nat), i + d = p.length → intarsialaw06_PageWords.l1 (k + d + 1) p p i = some true := by
  induction d with
  | zero =>
    intro k i hi
    rw [intarsialaw06_PageWords.l1, if_neg (by omega)]
    rfl
  | succ d ih =>
    intro k i hi
    rw [show k + (d + 1) + 1 = (k + d + 1) + 1 from rfl, intarsialaw06_PageWords.l1, if_pos (by omega), if_pos (by omega), if_pos (by omega), if_pos rfl, wrap_id (by omega) (by omega)]
    exact ih k (i + 1) (by omega)
theorem law_l0 (m : List Int) (p : List (List Int)) (hm : m.length ≤ 100000) (hp : p.length ≤ 100000) (d : Nat) : ∀ (k i : Nat), i + d = m.length → intarsialaw06_PageWords.l0 (k + p.length + d + 2) m m p p i = some true := by
  induction d with
  | zero =>
    intro k i hi
    rw [show k + p.length + 0 + 2 = (k + p.length + 1) + 1 from rfl, intarsialaw06_PageWords.l0, if_neg (by omega)]
    exact law_l1 p hp p.length k 0 (by omega)
  | succ d ih =>
    intro k i hi
    rw [show k + p.length + (d + 1) + 2 = (k + p.length + d + 2) + 1 from rfl, intarsialaw06_PageWords.l0, if_pos (by omega), if_pos (by omega), if_pos (by omega), if_pos rfl, wrap_id (by omega) (by omega)]
    exact ih k (i + 1) (by omega)
theorem words_j (a : List Int) (b : List Int) (hb : ∀ x ∈ b, Byte x) (n : Int) (ha : a.length ≤ 400) (hbl : b.length ≤ 400) : intarsialaw06_PageWords.j0 3001 a b n false = some true := by
  have h1 := splitOf_len n b
  have h2 : (unwordsOf b).1.length ≤ 400 := by
    unfold unwordsOf
    split
    · have := pairs_len b
      show (pairs b).length ≤ 400
      omega
    · exact Nat.zero_le _
  rw [intarsialaw06_PageWords.j0, if_neg (by decide), pwords 3000 a (by omega) (by omega), Option.bind_some, rwords 3000 a (by omega) (by omega), Option.bind_some, punwords 3000 b hb (by omega) (by omega), Option.bind_some, runwords 3000 b hb (by omega) (by omega), Option.bind_some, psplit 3000 b n (by omega) (by omega), Option.bind_some, rsplit 3000 b n (by omega) (by omega), Option.bind_some, if_pos rfl, if_pos rfl, if_pos rfl, if_pos rfl]
  rw [show (((splitOf n b).length : Int) != ((splitOf n b).length : Int)) = false from bne_self_eq_false _, intarsialaw06_PageWords.j1, if_neg (by decide)]
  obtain ⟨k, hk⟩ : ∃ k, 2999 = k + (splitOf n b).length + (unwordsOf b).1.length + 2 := ⟨2999 - ((splitOf n b).length + (unwordsOf b).1.length + 2), by omega⟩
  rw [hk]
  exact law_l0 _ _ (by omega) (by omega) _ k 0 (by omega)
theorem words (a : List Int) (b : List Int) (hb : ∀ x ∈ b, Byte x) (n : Int) : intarsialaw06_PageWords.f 3001 a b n = some true := by
  unfold intarsialaw06_PageWords.f
  by_cases h1 : (a.length : Int) > 400
  · rw [if_pos h1, intarsialaw06_PageWords.j0, if_pos rfl]
    rfl
  · rw [if_neg h1]
    by_cases h2 : (b.length : Int) > 400
    · rw [decide_eq_true h2, intarsialaw06_PageWords.j0, if_pos rfl]
      rfl
    · rw [decide_eq_false h2]
      exact words_j a b hb n (by omega) (by omega)
theorem PageWords : intarsialaw06_PageWords.Pure := fun a b n _ _ _ _ _ hw _ => ⟨3001, words a b (fun x hx => wf_byte (hw x hx)) n⟩
end Go.Proofs.Ytgflafifemhmgaa.Pure
