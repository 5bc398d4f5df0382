/- The law of a doubled directory, in plain terms. -/
import Derived.Test.YtiapecjiedhaoaaDirs
import Derived.Test.YtiapecjiedhaoaaDoubled
namespace Go.Proofs.Ytiapecjiedhaoaa.Dirs
open Go.RowKit Go.Proofs.Ytiapecjiedhaoaa.Hand Go.Proofs.Ytiapecjiedhaoaa.MDir Go.Proofs.YtiapecjiedhaoaaW.PrintWords Go.Proofs.YtiapecjiedhaoaaW.PrintLast
/-- Each slot twice. -/
def dbl : List Int → List Int
  | [] => []
  | x :: r => x :: x :: dbl r
theorem dbl_len : ∀ l, (dbl l).length = 2 * l.length
  | [] => rfl
  | x :: r => by rw [dbl, List.length_cons, List.length_cons, dbl_len r, List.length_cons]; omega
theorem dbl_mem : ∀ (l : List Int) (x : Int), x ∈ dbl l → x ∈ l
  | [], x, h => h
  | y :: r, x, h => by
    rw [dbl] at h
    rcases List.mem_cons.mp h with h | h
    · exact List.mem_cons.mpr (.inl h)
    · rcases List.mem_cons.mp h with h | h
      · exact List.mem_cons.mpr (.inl h)
      · exact List.mem_cons.mpr (.inr (dbl_mem r x h))
theorem dbl_append : ∀ (l m : List Int), dbl (l ++ m) = dbl l ++ dbl m
  | [], m => rfl
  | x :: r, m => by rw [List.cons_append, dbl, dbl, dbl_append r m]; rfl
theorem rd_dbl : ∀ (l : List Int) (i : Nat), rd (dbl l) (i : Int) = rd l ((i / 2 : Nat) : Int)
  | [], i => by unfold rd; simp [dbl]
  | x :: r, 0 => rfl
  | x :: r, 1 => rfl
  | x :: r, i + 2 => by
    have h := rd_dbl r i
    have e : (i + 2) / 2 = i / 2 + 1 := by omega
    rw [e]
    exact h
theorem halves_dbl : ∀ l, Halve.halves (dbl l) = some l
  | [] => rfl
  | x :: r => by rw [dbl, Halve.halves, if_pos rfl, halves_dbl r]; rfl
theorem pow_succ_int (n : Nat) : (2 : Int) ^ (n + 1) = 2 * 2 ^ n := by rw [Int.pow_succ]; omega
theorem ok_dbl (d : Int) (l : List Int) (h : Ok d l) (hd : d ≠ 10) : Ok (d + 1) (dbl l) := by
  obtain ⟨h0, h1, h2, h3⟩ := h
  refine ⟨by omega, by omega, fun x hx => h2 x (dbl_mem l x hx), ?_⟩
  rw [dbl_len, show (d + 1).toNat = d.toNat + 1 by omega, pow_succ_int, ← h3]
  omega
theorem top_half (h : Int) (d : Nat) (hd : d < 32) : topOf h (d + 1) / 2 = topOf h d := by
  unfold topOf
  rw [Int.ediv_ediv_of_nonneg (Int.le_of_lt (pow2 _)), show 32 - d = (32 - (d + 1)) + 1 by omega, Int.pow_succ]
theorem own_is (d : Int) (l : List Int) (hl : l.length ≤ 1000000) : dir_own.f d l = some (d, l) := by
  unfold dir_own.f slices_Clone_int_int.f
  rw [if_pos (by omega), Option.bind_some]
theorem double_l (d : Int) (l : List Int) (hl : l.length ≤ 1000000) (m : Nat) : ∀ (k i : Nat), i + m = l.length → dir_Double.l0 (k + m + 1) (dbl (l.take i)) l (l.length : Int) (i : Int) d l = some (wrap64 (d + 1), dbl l, true) := by
  induction m with
  | zero =>
    intro k i hi
    rw [dir_Double.l0, if_neg (by omega), List.take_of_length_le (by omega)]
  | succ m ih =>
    intro k i hi
    have hlt : i < l.length := by omega
    have e : dbl (l.take i) ++ [rd l (i : Int), rd l (i : Int)] = dbl (l.take (i + 1)) := by
      rw [List.take_succ_eq_append_getElem hlt, dbl_append, rd_lt l i hlt]
      rfl
    rw [show k + (m + 1) + 1 = (k + m + 1) + 1 from rfl, dir_Double.l0, if_pos (by omega), if_pos (by omega), if_pos (by omega), Option.bind_some, if_pos (by rw [dbl_len, List.length_take]; simp; omega), e, wrap_id (by omega) (by omega)]
    exact ih k (i + 1) (by omega)
/-- What both double to. -/
def dblOf (d : Int) (l : List Int) : Int × List Int × Bool := if chk d l = 0 ∧ d ≠ 10 then (d + 1, dbl l, true) else (d, l, false)
theorem double_is (d : Int) (l : List Int) (hl : l.length ≤ 1000) (k : Nat) (hk : l.length + 2 ≤ k) : dir_Double.f k d l = some (dblOf d l) := by
  obtain ⟨j, rfl⟩ : ∃ j, k = (j + l.length + 1) + 1 := ⟨k - l.length - 2, by omega⟩
  unfold dir_Double.f dblOf
  rw [may_is, Option.bind_some]
  by_cases hc : chk d l = 0
  · rw [if_pos (by rw [hc]; rfl), dir_Double.j0]
    by_cases h10 : d = 10
    · rw [if_pos (by rw [h10]; rfl), own_is d l (by omega), Option.bind_some, if_neg (fun h => h.2 h10)]
    · obtain ⟨h0, h1, _⟩ := (chk_ok d l).mp hc
      rw [if_neg (by simpa using h10), if_pos (c := chk d l = 0 ∧ d ≠ 10) ⟨hc, h10⟩]
      have h := double_l d l (by omega) l.length j 0 (by omega)
      rw [wrap_id (x := d + 1) (by omega) (by omega)] at h
      exact h
  · rw [if_neg (by simpa using hc), dir_Double.j0, if_pos rfl, own_is d l (by omega), Option.bind_some, if_neg (c := chk d l = 0 ∧ d ≠ 10) (fun h => hc h.1)]
theorem eq_l (l : List Int) (hl : l.length ≤ 1000000) (m : Nat) : ∀ (k i : Nat), i + m = l.length → slices_Equal_int_int.l0 (k + m + 1) l l (l.length : Int) (i : Int) = some true := by
  induction m with
  | zero => intro k i hi; rw [slices_Equal_int_int.l0, if_neg (by omega)]
  | succ m ih =>
    intro k i hi
    rw [show k + (m + 1) + 1 = (k + m + 1) + 1 from rfl, slices_Equal_int_int.l0, if_pos (by omega), if_pos (by omega), if_pos (by omega), if_pos (by omega), if_pos rfl, wrap_id (by omega) (by omega)]
    exact ih k (i + 1) (by omega)
theorem same_self (d : Int) (l : List Int) (hl : l.length ≤ 1000000) (k : Nat) (hk : l.length < k) : dir_Same.f k d l d l = some true := by
  obtain ⟨j, rfl⟩ : ∃ j, k = j + l.length + 1 := ⟨k - l.length - 1, by omega⟩
  unfold dir_Same.f slices_Equal_int_int.f
  rw [if_pos rfl, if_pos rfl]
  have h := eq_l l hl l.length j 0 (by omega)
  rw [show slices_Equal_int_int.l0 (j + l.length + 1) l l (l.length : Int) 0 = some true from h, Option.bind_some]
theorem doubled (s : ByteArray) (d : Int) (l : List Int) : ∃ k, intarsialaw11_DirDoubled.f k d l s = some true := by
  refine ⟨1001, ?_⟩
  unfold intarsialaw11_DirDoubled.f
  by_cases h1 : (l.length : Int) > 300
  · rw [if_pos h1, intarsialaw11_DirDoubled.j0, if_pos rfl]
    rfl
  · by_cases h2 : (s.size : Int) > 300
    · rw [if_neg h1, decide_eq_true h2, intarsialaw11_DirDoubled.j0, if_pos rfl]
      rfl
    · rw [if_neg h1, decide_eq_false h2, intarsialaw11_DirDoubled.j0, if_neg (by decide), double_is d l (by omega) 1000 (by omega), Option.bind_some]
      unfold dblOf
      obtain ⟨h, hh, hof⟩ := of_is s (by omega)
      by_cases hc : chk d l = 0 ∧ d ≠ 10
      · rw [if_pos hc]
        have hok := (chk_ok d l).mp hc.1
        have hc2 := (chk_ok (d + 1) (dbl l)).mpr (ok_dbl d l hok hc.2)
        obtain ⟨g0, g1, g2, g3⟩ := hok
        have hhalf : dir_Halve.f (d + 1) (dbl l) = some (d, l, true) := by
          unfold dir_Halve.f Halve.dir_Halve.f
          rw [may_is, Option.bind_some, if_pos (by rw [dbl_len]; omega), if_pos (by rw [hc2]; rfl), if_neg (by omega), halves_dbl]
          rw [show d + 1 - 1 = d by omega, wrap_id (by omega) (by omega)]
        have ht := topOf_in h hh (d.toNat + 1) (by omega)
        have hth := top_half h d.toNat (by omega)
        have hdn : (d + 1).toNat = d.toNat + 1 := by omega
        dsimp only
        rw [if_pos rfl, hhalf, Option.bind_some, check_is, Option.bind_some, if_pos hc2, at_is s h hh hof 1000 (by omega), Option.bind_some, at_is s h hh hof 1000 (by omega), Option.bind_some]
        have hat : atOf h d l = atOf h (d + 1) (dbl l) := by
          unfold atOf
          rw [if_pos hc.1, if_pos hc2, hdn]
          obtain ⟨i, hi⟩ := Int.eq_ofNat_of_zero_le ht.1
          rw [hi, rd_dbl, ← hth, hi]
          congr 1
        rw [if_pos hat, place_is s h hh hof 1000 (by omega), Option.bind_some, place_is s h hh hof 1000 (by omega), Option.bind_some]
        have hpl : wrap64 (Int.tdiv (placeOf h (d + 1) (dbl l)) 2) = placeOf h d l := by
          unfold placeOf
          rw [if_pos hc.1, if_pos hc2, hdn, Int.tdiv_eq_ediv_of_nonneg ht.1, hth]
          have ht2 := topOf_in h hh d.toNat (by omega)
          have hp : (2 : Int) ^ d.toNat ≤ 1000 := by rw [← g3]; omega
          exact wrap_id (by omega) (by omega)
        rw [if_pos hpl, if_pos rfl, same_self d l (by omega) 1000 (by omega), Option.bind_some, if_pos rfl]
        rfl
      · rw [if_neg hc]
        dsimp only
        rw [if_neg (by decide), check_is, Option.bind_some]
        by_cases hz : chk d l = 0
        · have h10 : d = 10 := Classical.byContradiction fun hn => hc ⟨hz, hn⟩
          rw [if_pos hz, if_pos h10]
          rfl
        · rw [if_neg hz]
          rfl
end Go.Proofs.Ytiapecjiedhaoaa.Dirs
