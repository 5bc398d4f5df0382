/- The law of joined pieces, in plain terms. -/
import Derived.Test.YtgflafifemhmgaaWords
import Derived.Test.YtgflafifemhmgaaMPgx10
namespace Go.Proofs.Ytgflafifemhmgaa.Pure
open Go.RowKit Go.Proofs.Ytgflafifemhmgaa.Hand Go.Proofs.Ytgflafifemhmgaa.Crc Go.Proofs.Ytgflafifemhmgaa.MPg Go.Proofs.Ytgflafifemhmgaa.Sums Go.Proofs.Ytgflafifemhmgaa.Pages Go.Proofs.Ytgflafifemhmgaa.PWords Go.Proofs.YtgflafifemhmgaaW.PrintWords Go.Proofs.YtgflafifemhmgaaW.PrintLast
def U (l : List Int) : List UInt8 := l.map fun x => UInt8.ofNat x.toNat
def ba (l : List UInt8) : ByteArray := ⟨l.toArray⟩
theorem ba_size (l : List UInt8) : (ba l).size = l.length := rfl
theorem ba_append (l m : List UInt8) : ba l ++ ba m = ba (l ++ m) := by
  apply ByteArray.ext
  rw [ByteArray.data_append]
  simp [ba]
theorem str_size (l : List Int) : (strOfNums l).size = l.length := by
  show (ba (U l)).size = l.length
  rw [ba_size, U, List.length_map]
theorem str_append (l m : List Int) : strOfNums l ++ strOfNums m = strOfNums (l ++ m) := by
  show ba (U l) ++ ba (U m) = ba (U (l ++ m))
  rw [ba_append, U, U, U, List.map_append]
/-- The numbers' bytes. -/
def flat (l : List Int) : List Int := l.flatMap fun x => [x / 256 % 256, x % 256]
theorem flat_cons (x : Int) (l : List Int) : flat (x :: l) = (x / 256 % 256) :: (x % 256) :: flat l := rfl
theorem wordsOf_flat : ∀ (l acc : List Int), (∀ x ∈ l, 0 ≤ x ∧ x ≤ 65535) → wordsOf acc l = (acc ++ flat l, 0)
  | [], acc, _ => by rw [wordsOf, flat, List.flatMap_nil, List.append_nil]
  | x :: r, acc, h => by
    have hx := h x (List.mem_cons_self ..)
    rw [wordsOf, if_neg (by omega), if_neg (by omega), wordsOf_flat r _ (fun y hy => h y (List.mem_cons_of_mem _ hy)), flat_cons, List.append_assoc]
    rfl
theorem pairs_flat : ∀ l : List Int, (∀ x ∈ l, 0 ≤ x ∧ x ≤ 65535) → pairs (flat l) = l
  | [], _ => rfl
  | x :: r, h => by
    have hx := h x (List.mem_cons_self ..)
    rw [flat_cons, pairs, pairs_flat r (fun y hy => h y (List.mem_cons_of_mem _ hy)), show 256 * (x / 256 % 256) + x % 256 = x by omega]
theorem flat_len : ∀ l : List Int, (flat l).length = 2 * l.length
  | [] => rfl
  | x :: r => by rw [flat_cons, List.length_cons, List.length_cons, flat_len r, List.length_cons]; omega
theorem flat_byte : ∀ l : List Int, ∀ x ∈ flat l, Byte x
  | [], x, h => by cases h
  | y :: r, x, h => by
    rw [flat_cons] at h
    rcases List.mem_cons.mp h with h | h
    · rw [h]; exact ⟨by omega, by omega⟩
    · rcases List.mem_cons.mp h with h | h
      · rw [h]; exact ⟨by omega, by omega⟩
      · exact flat_byte r x h
theorem rd_L1_mid (pre : List (List Int)) (x : List Int) (r : List (List Int)) : rd_L1 (pre ++ x :: r) (pre.length : Int) = x := by
  unfold rd_L1
  rw [Int.toNat_natCast, List.getD_eq_getElem?_getD, List.getElem?_append_right (Nat.le_refl _), Nat.sub_self]
  rfl
theorem join_l2 (n : Int) (hn : 1 ≤ n) (hn2 : n ≤ 256) (m : Nat) : ∀ (k : Nat) (b x : List Int) (pre : List (List Int)), b.length ≤ m → x.length + b.length ≤ 1000 → pre.length + m ≤ 1000 →
    intarsialaw06_PageJoined.l2 (k + m + 1) (x ++ b) n (pre ++ pieces n m b) (strOfNums x) (pre.length : Int) = some true := by
  induction m with
  | zero =>
    intro k b x pre hb hx hp
    have hb0 : b = [] := List.length_eq_zero_iff.mp (by omega)
    rw [pieces, List.append_nil, intarsialaw06_PageJoined.l2, if_neg (by omega), hb0, List.append_nil, if_pos rfl]
    rfl
  | succ m ih =>
    intro k b x pre hb hx hp
    rw [show k + (m + 1) + 1 = (k + m + 1) + 1 from rfl, intarsialaw06_PageJoined.l2, pieces]
    by_cases h : b = []
    · subst h
      rw [if_pos rfl, List.append_nil, List.append_nil, if_neg (by omega), if_pos rfl]
      rfl
    · have hp0 : 0 < b.length := List.length_pos_iff.mpr h
      rw [if_neg h, rd_L1_mid, if_pos (by rw [List.length_append, List.length_cons]; omega), if_pos (by omega), str_append, wrap_id (x := (pre.length : Int) + 1) (by omega) (by omega), str_size, str_size]
      have hgo : intarsialaw06_PageJoined.l2 (k + m + 1) (x ++ b) n (pre ++ b.take n.toNat :: pieces n m (b.drop n.toNat)) (strOfNums (x ++ b.take n.toNat)) ((pre.length : Int) + 1) = some true := by
        have hi := ih k (b.drop n.toNat) (x ++ b.take n.toNat) (pre ++ [b.take n.toNat]) (by rw [List.length_drop]; omega) (by rw [List.length_append, List.length_take, List.length_drop]; omega) (by rw [List.length_append, List.length_singleton]; omega)
        rw [List.append_assoc, List.append_assoc, List.take_append_drop, List.length_append, List.length_singleton] at hi
        exact hi
      by_cases hq : ((b.take n.toNat).length : Int) = n
      · rw [if_pos hq, if_pos (by rw [List.length_take]; omega)]
        exact hgo
      · have hlen : (b.take n.toNat).length = b.length := by rw [List.length_take] at hq ⊢; omega
        have hd : b.drop n.toNat = [] := List.drop_of_length_le (by rw [List.length_take] at hlen; omega)
        have hpz : pieces n m (b.drop n.toNat) = [] := by
          rw [hd]
          cases m with
          | zero => rfl
          | succ m => rw [pieces, if_pos rfl]
        rw [if_neg hq, if_pos (by rw [hpz, List.length_append, List.length_singleton, wrap_id (by omega) (by omega)]; omega), if_neg (by omega), if_neg (by rw [List.length_take]; omega), if_pos (by omega)]
        exact hgo
theorem join_l1 (l : List Int) (hr : ∀ x ∈ l, 0 ≤ x ∧ x ≤ 65535) (hl : l.length ≤ 400) (b : List Int) (hb : b.length ≤ 400) (n : Int) (h0 : 0 ≤ n) (h1 : n ≤ 255) (d : Nat) : ∀ (k i : Nat), i + d = l.length → 402 ≤ k → intarsialaw06_PageJoined.l1 (k + d + 1) l b n l i = some true := by
  induction d with
  | zero =>
    intro k i hi hk
    rw [intarsialaw06_PageJoined.l1, if_neg (by omega), wrap_id (x := n) (by omega) (by omega), wrap_id (x := 1 + n) (by omega) (by omega), psplit _ b _ (by omega) (by omega), Option.bind_some]
    unfold splitOf
    rw [if_neg (by omega)]
    obtain ⟨j, rfl⟩ : ∃ j, k = j + b.length + 1 := ⟨k - b.length - 1, by omega⟩
    exact join_l2 (1 + n) (by omega) (by omega) b.length j b [] [] (Nat.le_refl _) (by simp; omega) (by simp; omega)
  | succ d ih =>
    intro k i hi hk
    have hlt : i < l.length := by omega
    have hx := hr l[i] (List.getElem_mem hlt)
    rw [show k + (d + 1) + 1 = (k + d + 1) + 1 from rfl, intarsialaw06_PageJoined.l1, if_pos (by omega), if_pos (by omega), if_pos (by omega), rd_lt l i hlt, wrap_id (x := l[i]) (by omega) (by omega), if_pos rfl, wrap_id (by omega) (by omega)]
    exact ih k (i + 1) (by omega) hk
theorem wf_u16 {x : Int} (h : (Lit.int .u16 x).wf = true) : 0 ≤ x ∧ x ≤ 65535 := by
  have := of_decide_eq_true (p := IntKind.u16.min ≤ x ∧ x ≤ IntKind.u16.max) (by simpa [Lit.wf] using h)
  have h1 : IntKind.u16.min = 0 := by decide
  have h2 : IntKind.u16.max = 65535 := by decide
  omega
theorem take_snoc (l : List Int) (i : Nat) (h : i < l.length) : l.take i ++ [l[i]] = l.take (i + 1) := (List.take_succ_eq_append_getElem h).symm
theorem join_l0 (l : List Int) (hr : ∀ x ∈ l, 0 ≤ x ∧ x ≤ 65535) (hl : l.length ≤ 400) (b : List Int) (hb : b.length ≤ 400) (n : Int) (h0 : 0 ≤ n) (h1 : n ≤ 255) (d : Nat) : ∀ (k i : Nat), i + d = l.length → 1000 ≤ k → intarsialaw06_PageJoined.l0 (k + d + 1) l b n (l.take i) i = some true := by
  induction d with
  | zero =>
    intro k i hi hk
    have hz : unwordsOf (flat l) = (l, 0) := by
      unfold unwordsOf
      rw [if_pos (by rw [flat_len]; omega), pairs_flat l hr]
    rw [intarsialaw06_PageJoined.l0, if_neg (by omega), List.take_of_length_le (by omega), pwords k l (by omega) (by omega), Option.bind_some, wordsOf_flat l [] hr, List.nil_append, punwords k _ (flat_byte l) (by rw [flat_len]; omega) (by rw [flat_len]; omega), Option.bind_some, if_pos rfl, hz, if_pos rfl]
    rw [show ((l.length : Int) != (l.length : Int)) = false from bne_self_eq_false _]
    obtain ⟨j, rfl⟩ : ∃ j, k = j + 402 + l.length + 1 + 1 := ⟨k - 402 - l.length - 2, by omega⟩
    rw [intarsialaw06_PageJoined.j2, if_neg (by decide)]
    exact join_l1 l hr hl b hb n h0 h1 l.length (j + 402) 0 (by omega) (by omega)
  | succ d ih =>
    intro k i hi hk
    have hlt : i < l.length := by omega
    have hx := hr l[i] (List.getElem_mem hlt)
    rw [show k + (d + 1) + 1 = (k + d + 1) + 1 from rfl, intarsialaw06_PageJoined.l0, if_pos (by omega), if_pos (by omega), if_pos (by rw [List.length_take]; omega), rd_lt l i hlt, wrap_id (x := l[i]) (by omega) (by omega), take_snoc l i hlt, wrap_id (by omega) (by omega)]
    exact ih k (i + 1) (by omega) hk
theorem joined (l b : List Int) (n : Int) (hr : ∀ x ∈ l, 0 ≤ x ∧ x ≤ 65535) (h0 : 0 ≤ n) (h1 : n ≤ 255) : intarsialaw06_PageJoined.f 3001 l b n = some true := by
  unfold intarsialaw06_PageJoined.f
  by_cases h : (l.length : Int) > 400
  · rw [if_pos h, intarsialaw06_PageJoined.j0, if_pos rfl]
    rfl
  · rw [if_neg h]
    by_cases h2 : (b.length : Int) > 400
    · rw [decide_eq_true h2, intarsialaw06_PageJoined.j0, if_pos rfl]
      rfl
    · rw [decide_eq_false h2, intarsialaw06_PageJoined.j0, if_neg (by decide)]
      obtain ⟨k, hk⟩ : ∃ k, 3000 = k + l.length + 1 := ⟨3000 - l.length - 1, by omega⟩
      rw [hk]
      have hj := join_l0 l hr (by omega) b (by omega) n h0 h1 l.length k 0 (by omega) (by omega)
      exact hj
theorem PageJoined : intarsialaw06_PageJoined.Pure := fun l b n _ _ hw _ _ _ hn => ⟨3001, joined l b n (fun x hx => wf_u16 (hw x hx)) (wf_byte hn).1 (wf_byte hn).2⟩
end Go.Proofs.Ytgflafifemhmgaa.Pure
