/- What the code's and the reference's functions on roots tell, in plain terms. -/
import Derived.Test.YtgflafifemhmgaaRSums
import Derived.Test.YtgflafifemhmgaaMRtx3
namespace Go.Proofs.Ytgflafifemhmgaa.RPure
open Go.RowKit Go.Proofs.Ytgflafifemhmgaa.Hand Go.Proofs.Ytgflafifemhmgaa.Crc Go.Proofs.Ytgflafifemhmgaa.MRt Go.Proofs.Ytgflafifemhmgaa.RootV Go.Proofs.Ytgflafifemhmgaa.RSums Go.Proofs.YtgflafifemhmgaaW.PrintWords Go.Proofs.YtgflafifemhmgaaW.PrintLast
theorem take_250 (l : List Int) : l.take 250 = l.take 246 ++ (l.drop 246).take 4 := by
  rw [show 250 = 246 + 4 from rfl, List.take_add]
theorem sopen_250 (k : Nat) (l : List Int) (hl : l.length = 256) (hb : ∀ x ∈ l, Byte x) : sum_Open.f (k + 2) (l.take 250) = if sumok l then some (l.take 246, 0) else some ([], 13) := by
  rw [take_250, open_is k _ _ (by rw [List.length_take]; omega) (by rw [List.length_take, List.length_drop]; omega) (fun x hx => hb x (List.mem_of_mem_take hx)) (fun x hx => hb x (List.mem_of_mem_drop (List.mem_of_mem_take hx)))]
  rfl
set_option maxRecDepth 100000 in
theorem get6' (l : List Int) (hl : ∀ x ∈ l, Byte x) (h : 10 ≤ l.length) : num_Get.f 7 (l.drop 4) ((6 : Nat) : Int) = some (gn6 l, 0) := by
  have hlen : 6 ≤ (l.drop 4).length := by rw [List.length_drop]; omega
  have hb : ∀ x ∈ l.drop 4, Byte x := fun x hx => hl x (List.mem_of_mem_drop hx)
  have e0 : rd (l.drop 4) 0 = rd l 4 := rd_drop l 4 0
  have e1 : rd (l.drop 4) 1 = rd l 5 := rd_drop l 4 1
  have e2 : rd (l.drop 4) 2 = rd l 6 := rd_drop l 4 2
  have e3 : rd (l.drop 4) 3 = rd l 7 := rd_drop l 4 3
  have e4 : rd (l.drop 4) 4 = rd l 8 := rd_drop l 4 4
  have e5 : rd (l.drop 4) 5 = rd l 9 := rd_drop l 4 5
  unfold gn6
  rw [← e0, ← e1, ← e2, ← e3, ← e4, ← e5]
  generalize l.drop 4 = m at *
  have b0 := rd_byte m hb 0
  have b1 := rd_byte m hb 1
  have b2 := rd_byte m hb 2
  have b3 := rd_byte m hb 3
  have b4 := rd_byte m hb 4
  have b5 := rd_byte m hb 5
  unfold Byte at b0 b1 b2 b3 b4 b5
  show num_Get.f 7 m 6 = _
  unfold num_Get.f
  rw [show num_may.f 6 = some true from rfl, Option.bind_some, if_pos rfl, if_neg (by omega)]
  rw [get_step 6 m hb 6 0 0 (by omega) (by omega) (by omega) (by omega) (by omega) (by omega), show (0 : Int) + 1 = 1 from rfl, show 256 * 0 + rd m 0 = rd m 0 by omega]
  rw [get_step 5 m hb 6 _ 1 (by omega) (by omega) (by omega) (by omega) (by omega) (by omega), show (1 : Int) + 1 = 2 from rfl]
  rw [get_step 4 m hb 6 _ 2 (by omega) (by omega) (by omega) (by omega) (by omega) (by omega), show (2 : Int) + 1 = 3 from rfl]
  rw [get_step 3 m hb 6 _ 3 (by omega) (by omega) (by omega) (by omega) (by omega) (by omega), show (3 : Int) + 1 = 4 from rfl]
  rw [get_step 2 m hb 6 _ 4 (by omega) (by omega) (by omega) (by omega) (by omega) (by omega), show (4 : Int) + 1 = 5 from rfl]
  rw [get_step 1 m hb 6 _ 5 (by omega) (by omega) (by omega) (by omega) (by omega) (by omega), show (5 : Int) + 1 = 6 from rfl]
  rw [num_Get.l0, if_neg (by omega)]
theorem within_is (a l h : Int) : root_within.f a l h = some (decide (l ≤ a ∧ a ≤ h)) := by
  unfold root_within.f
  by_cases h1 : a ≥ l
  · rw [if_pos h1]
    congr 1
    rw [decide_eq_decide]
    constructor
    · intro h; exact ⟨h1, h⟩
    · intro h; exact h.2
  · rw [if_neg h1, decide_eq_false (by omega)]
theorem concat_is (k : Nat) (a b : List Int) (ha : a.length ≤ 1000) (hb : b.length ≤ 1000) : slices_Concat_int_int.f (k + 6) [a, b] = some (a ++ b) := by
  have e0 : rd_L2 [a, b] 0 = a := rfl
  have e1 : rd_L2 [a, b] 1 = b := rfl
  have hn : (([a, b] : List (List Int)).length : Int) = 2 := rfl
  have w0 : wrap64 ((0 : Int) + 1) = 1 := by unfold wrap64; omega
  have w1 : wrap64 ((1 : Int) + 1) = 2 := by unfold wrap64; omega
  have w2 : wrap64 (0 + (a.length : Int)) = (a.length : Int) := by unfold wrap64; omega
  have w3 : wrap64 ((a.length : Int) + (b.length : Int)) = (a.length : Int) + (b.length : Int) := by unfold wrap64; omega
  have g : slices_Grow_int_int.f ([] : List Int) ((a.length : Int) + (b.length : Int)) = some [] := by
    unfold slices_Grow_int_int.f
    rw [if_pos ⟨rfl, by omega, by omega⟩]
  unfold slices_Concat_int_int.f
  rw [show ([a, b].length : Int) = 2 from rfl, slices_Concat_int_int.l0, if_pos (show (0 : Int) < 2 by decide), if_pos (show (0 : Int) ≤ 0 by decide), if_pos (show (0 : Int) < (([a, b] : List (List Int)).length : Int) by rw [hn]; decide), e0, w2, if_neg (by omega), w0]
  rw [slices_Concat_int_int.l0, if_pos (show (1 : Int) < 2 by decide), if_pos (show (0 : Int) ≤ 1 by decide), if_pos (show (1 : Int) < (([a, b] : List (List Int)).length : Int) by rw [hn]; decide), e1, w3, if_neg (by omega), w1]
  rw [slices_Concat_int_int.l0, if_neg (by decide), g, Option.bind_some, show ([a, b].length : Int) = 2 from rfl]
  rw [slices_Concat_int_int.l1, if_pos (show (0 : Int) < 2 by decide), if_pos (show (0 : Int) ≤ 0 by decide), if_pos (show (0 : Int) < (([a, b] : List (List Int)).length : Int) by rw [hn]; decide), e0, if_pos (by rw [List.length_nil]; omega), w0, List.nil_append]
  rw [slices_Concat_int_int.l1, if_pos (show (1 : Int) < 2 by decide), if_pos (show (0 : Int) ≤ 1 by decide), if_pos (show (1 : Int) < (([a, b] : List (List Int)).length : Int) by rw [hn]; decide), e1, if_pos (by omega), w1]
  rw [slices_Concat_int_int.l1, if_neg (by decide)]
theorem check_l (l : List Int) (hl : l.length ≤ 2000) (bl : Int) (h0 : 2 ≤ bl) (h1 : bl ≤ 4096) (a0 a2 a3 : Int) (tb mp : List Int) (d : Nat) : ∀ (k i : Nat), i + d = l.length → root_Check.l0 (k + d + 1) l (l.length : Int) (i : Int) a0 bl a2 a3 tb mp = some (if ∀ x ∈ l.drop i, 2 ≤ x ∧ x < bl then 0 else 12) := by
  induction d with
  | zero =>
    intro k i hi
    rw [root_Check.l0, if_neg (by omega), List.drop_of_length_le (by omega), if_pos (by intro x hx; cases hx)]
  | succ d ih =>
    intro k i hi
    have w1 : wrap64 (bl - 1) = bl - 1 := by unfold wrap64; omega
    have w2 : wrap64 ((i : Int) + 1) = ((i + 1 : Nat) : Int) := by unfold wrap64; omega
    have hlt : i < l.length := by omega
    rw [show k + (d + 1) + 1 = (k + d + 1) + 1 by omega, root_Check.l0, if_pos (by omega), if_pos (by omega), if_pos (by omega), w1, within_is, Option.bind_some, w2]
    have hrd : rd l (i : Int) = l[i] := by
      unfold rd
      rw [Int.toNat_natCast, List.getD_eq_getElem?_getD, List.getElem?_eq_getElem hlt]
      rfl
    rw [hrd, List.drop_eq_getElem_cons hlt]
    by_cases hx : 2 ≤ l[i] ∧ l[i] ≤ bl - 1
    · rw [decide_eq_true hx, if_pos rfl, ih k (i + 1) (by omega)]
      congr 1
      by_cases hr : ∀ x ∈ l.drop (i + 1), 2 ≤ x ∧ x < bl
      · rw [if_pos hr, if_pos (by intro x hx2; rcases List.mem_cons.mp hx2 with rfl | h; (exact ⟨hx.1, by omega⟩); (exact hr x h))]
      · rw [if_neg hr, if_neg (fun h => hr (fun x hx2 => h x (List.mem_cons.mpr (.inr hx2))))]
    · rw [decide_eq_false hx, if_neg (by decide), if_neg (fun h => hx (by have := h _ (List.mem_cons.mpr (.inl rfl)); omega))]
theorem check_is (k : Nat) (r : RV) (h1 : r.tb.length ≤ 1000) (h2 : r.mp.length ≤ 1000) : root_Check.f (k + 2100) r.ep r.bl r.nx r.st r.tb r.mp = some (rcheck r) := by
  obtain ⟨ep, bl, nx, st, tb, mp⟩ := r
  simp only at h1 h2 ⊢
  have J0 : ∀ k, root_Check.j0 (k + 1) true ep bl nx st tb mp = some 12 := fun k => by rw [root_Check.j0, if_pos rfl]
  unfold root_Check.f rcheck
  simp only
  rw [within_is, Option.bind_some]
  by_cases c1 : 0 ≤ ep ∧ ep ≤ 1099511627776
  · rw [decide_eq_true c1, if_pos rfl, within_is, Option.bind_some]
    by_cases c2 : 2 ≤ bl ∧ bl ≤ 4096
    · rw [decide_eq_true c2, if_pos rfl, within_is, Option.bind_some]
      by_cases c3 : 0 ≤ nx ∧ nx ≤ 3000
      · rw [decide_eq_true c3, if_pos rfl, within_is, Option.bind_some]
        by_cases c4 : 0 ≤ st ∧ st ≤ nx
        · rw [decide_eq_true c4, if_neg (c := ep < 0 ∨ _) (by omega), show k + 2100 = (k + 2099) + 1 from rfl, root_Check.j0, if_neg (by decide)]
          by_cases c5 : (tb.length : Int) > 26
          · rw [if_pos c5, show k + 2099 = (k + 2098) + 1 from rfl, root_Check.j1, if_pos rfl, if_pos (c := 26 < tb.length ∨ _) (.inl (by omega))]
          · rw [if_neg c5, show k + 2099 = (k + 2098) + 1 from rfl, root_Check.j1]
            by_cases c6 : (mp.length : Int) > 3
            · rw [decide_eq_true c6, if_pos rfl, if_pos (c := 26 < tb.length ∨ _) (.inr (by omega))]
            · rw [decide_eq_false c6, if_neg (by decide), if_neg (c := 26 < tb.length ∨ _) (by omega), show k + 2098 = (k + 2092) + 6 from rfl, concat_is _ _ _ h1 h2, Option.bind_some]
              have hlen : (tb ++ mp).length ≤ 2000 := by rw [List.length_append]; omega
              have := check_l (tb ++ mp) hlen bl c2.1 c2.2 ep nx st tb mp (tb ++ mp).length (k + 2098 - (tb ++ mp).length - 1) 0 (by omega)
              rw [show k + 2098 - (tb ++ mp).length - 1 + (tb ++ mp).length + 1 = k + 2092 + 6 by omega, List.drop_zero] at this
              exact this
        · rw [decide_eq_false c4, if_pos (c := ep < 0 ∨ _) (by omega)]
          exact J0 (k + 2099)
      · rw [decide_eq_false c3, if_neg (by decide), if_pos (c := ep < 0 ∨ _) (by omega)]
        exact J0 (k + 2099)
    · rw [decide_eq_false c2, if_neg (by decide), if_pos (c := ep < 0 ∨ _) (by omega)]
      exact J0 (k + 2099)
  · rw [decide_eq_false c1, if_neg (by decide), if_pos (c := ep < 0 ∨ _) (by omega)]
    exact J0 (k + 2099)
theorem shr_is (x : Int) (n : Nat) (h : n ≤ 63) : shr .i64 x (n : Int) = x / 2 ^ n := by
  unfold shr
  rw [Int.toNat_natCast, Nat.min_eq_left (by show n ≤ 64; omega)]
theorem nput_step (k : Nat) (x : Int) (w i : Nat) (b : List Int) (hb : b.length = w) (hw : w ≤ 6) (hi : i < w) : num_Put.l0 (k + 1) x (w : Int) b (w : Int) (i : Int) = num_Put.l0 k x (w : Int) (b.set (w - 1 - i) (x / 2 ^ (8 * i) % 256)) (w : Int) ((i + 1 : Nat) : Int) := by
  have e1 : wrap64 (8 * (i : Int)) = ((8 * i : Nat) : Int) := by unfold wrap64; omega
  have e2 : wrap64 ((w : Int) - 1) = ((w - 1 : Nat) : Int) := by unfold wrap64; omega
  have e3 : wrap64 (((w - 1 : Nat) : Int) - (i : Int)) = ((w - 1 - i : Nat) : Int) := by unfold wrap64; omega
  have e4 : wrap64 ((i : Int) + 1) = ((i + 1 : Nat) : Int) := by unfold wrap64; omega
  rw [num_Put.l0, if_pos (by omega), e1, if_pos (by omega), e2, e3, if_pos (by omega), if_pos (by omega), e4, Int.toNat_natCast, shr_is _ _ (by omega)]
theorem nput_start (k : Nat) (x : Int) (w : Nat) (h1 : 1 ≤ w) (h6 : w ≤ 6) (h0 : 0 ≤ x) (hx : x < 2 ^ (8 * w)) : num_Put.f k x (w : Int) = num_Put.l0 k x (w : Int) (List.replicate w 0) (w : Int) 0 := by
  have e1 : wrap64 (8 * (w : Int)) = ((8 * w : Nat) : Int) := by unfold wrap64; omega
  have hm : num_may.f (w : Int) = some true := by
    unfold num_may.f
    rw [if_pos (by omega), decide_eq_true (by omega)]
  unfold num_Put.f
  rw [hm, Option.bind_some, if_pos rfl, if_neg (by omega), e1, if_pos (by omega), shr_is _ _ (by omega), if_pos (Int.ediv_eq_zero_of_lt h0 hx), if_pos (by omega), Int.toNat_natCast, if_pos (by omega)]
theorem nput1 (k : Nat) (x : Int) (h0 : 0 ≤ x) (hx : x < 256) : num_Put.f (k + 2) x 1 = some ([x % 256], 0) := by
  have := nput_start (k + 2) x 1 (by decide) (by decide) h0 (by simpa using hx)
  refine this.trans ?_
  have s0 := nput_step (k + 1) x 1 0 (List.replicate 1 0) rfl (by decide) (by decide)
  refine s0.trans ?_
  rw [num_Put.l0, if_neg (by decide)]
  simp
theorem nput2 (k : Nat) (x : Int) (h0 : 0 ≤ x) (hx : x < 65536) : num_Put.f (k + 3) x 2 = some (be2 x, 0) := by
  have := nput_start (k + 3) x 2 (by decide) (by decide) h0 (by simpa using hx)
  refine this.trans ?_
  have s0 := nput_step (k + 2) x 2 0 (List.replicate 2 0) rfl (by decide) (by decide)
  refine s0.trans ?_
  have s1 := nput_step (k + 1) x 2 1 ((List.replicate 2 0).set (2 - 1 - 0) (x / 2 ^ (8 * 0) % 256)) rfl (by decide) (by decide)
  refine s1.trans ?_
  rw [num_Put.l0, if_neg (by decide)]
  simp [be2]
theorem nput6 (k : Nat) (x : Int) (h0 : 0 ≤ x) (hx : x < 281474976710656) : num_Put.f (k + 7) x 6 = some (be6 x, 0) := by
  have := nput_start (k + 7) x 6 (by decide) (by decide) h0 (by simpa using hx)
  refine this.trans ?_
  refine (nput_step (k + 6) x 6 0 _ rfl (by decide) (by decide)).trans ?_
  refine (nput_step (k + 5) x 6 1 _ rfl (by decide) (by decide)).trans ?_
  refine (nput_step (k + 4) x 6 2 _ rfl (by decide) (by decide)).trans ?_
  refine (nput_step (k + 3) x 6 3 _ rfl (by decide) (by decide)).trans ?_
  refine (nput_step (k + 2) x 6 4 _ rfl (by decide) (by decide)).trans ?_
  refine (nput_step (k + 1) x 6 5 _ rfl (by decide) (by decide)).trans ?_
  rw [num_Put.l0, if_neg (by decide)]
  simp [be6]
theorem lay2 (k : Nat) : ∀ (l b : List Int), (∀ x ∈ l, 0 ≤ x ∧ x < 65536) → b.length + 2 * l.length ≤ 100000 → layF (k + 3) 2 b l = some (b ++ flat2 l)
  | [], b, _, _ => by rw [layF, show flat2 [] = [] from rfl, List.append_nil]
  | x :: l, b, h, hb => by
    have hx := h x (List.mem_cons.mpr (.inl rfl))
    have hl : (be2 x).length = 2 := rfl
    rw [List.length_cons] at hb
    rw [layF, nput2 k x hx.1 hx.2, Option.bind_some, if_pos (by show b.length + 2 < _; omega), lay2 k l (b ++ be2 x) (fun y hy => h y (List.mem_cons.mpr (.inr hy))) (by rw [List.length_append, hl]; omega), flat2_cons, List.append_assoc]
theorem layF_one (k : Nat) (w x : Int) (b p : List Int) (h : num_Put.f k x w = some (p, 0)) (hb : b.length + p.length ≤ 100000) : layF k w b [x] = some (b ++ p) := by
  rw [layF, h, Option.bind_some, if_pos (by show b.length + p.length < _; omega), layF]
theorem put_is (k : Nat) (r : RV) (h1 : r.tb.length ≤ 1000) (h2 : r.mp.length ≤ 1000) : root_Put.f (k + 3000) r.ep r.bl r.nx r.st r.tb r.mp = some (rput r) := by
  unfold root_Put.f
  rw [show k + 3000 = (k + 900) + 2100 from rfl, check_is _ r h1 h2, Option.bind_some]
  by_cases hc : rcheck r = 0
  · rw [if_pos hc, rput_ok hc]
    obtain ⟨c1, c2, c3, c4, c5, c6, c7, c8⟩ := rcheck_ok hc
    have hsum := seal_is (k + 2998) (rfull r) (by rw [rfull_len c5 c6]; decide) (rfull_byte c5 c6)
    have lh : (rhead r).length = 18 := rhead_len r
    have lb := rbody_len r
    have e1 := layF_one (k + 900 + 2100) 6 r.ep [114, 111, 111, 116] (be6 r.ep) (nput6 (k + 2993) r.ep c1.1 (by omega)) (show 4 + 6 ≤ 100000 by decide)
    have e2 := lay2 (k + 2997) [r.bl, r.nx, r.st] ([114, 111, 111, 116] ++ be6 r.ep) (by intro x hx; simp only [List.mem_cons, List.not_mem_nil, or_false] at hx; omega) (by simp [be6])
    have e3 : layF (k + 900 + 2100) 1 ([114, 111, 111, 116] ++ be6 r.ep ++ flat2 [r.bl, r.nx, r.st]) [(r.tb.length : Int), (r.mp.length : Int)] = some (rhead r) := by
      rw [layF, show k + 900 + 2100 = (k + 2998) + 2 from rfl, nput1 _ _ (by omega) (by omega), Option.bind_some, if_pos (by show 16 + 1 < _; decide), layF, nput1 _ _ (by omega) (by omega), Option.bind_some, if_pos (by show 17 + 1 < _; decide), layF]
      rw [show (r.tb.length : Int) % 256 = (r.tb.length : Int) by omega, show (r.mp.length : Int) % 256 = (r.mp.length : Int) by omega]
      simp [rhead, flat2]
    have e4 := lay2 (k + 2997) r.tb (rhead r) (fun x hx => by have := c7 x hx; omega) (by omega)
    have e5 := lay2 (k + 2997) r.mp (rhead r ++ flat2 r.tb) (fun x hx => by have := c8 x hx; omega) (by rw [List.length_append, flat2_len]; omega)
    have e6 : ∀ s : List Int, s.length = 250 → layF (k + 900 + 2100) 6 s [r.ep] = some (s ++ be6 r.ep) := fun s hs => layF_one _ 6 r.ep s (be6 r.ep) (nput6 (k + 2993) r.ep c1.1 (by omega)) (by rw [hs]; show 250 + 6 ≤ 100000; decide)
    have hne : ¬ ([114, 111, 111, 116] ++ be6 r.ep = ([114, 111, 111, 116] : List Int)) := by simp [be6]
    rw [e1, Option.bind_some, if_neg hne]
    rw [show k + 900 + 2100 = k + 2997 + 3 from rfl] at e3 e6 ⊢
    rw [e2, Option.bind_some, e3, Option.bind_some, e4, Option.bind_some, e5, Option.bind_some]
    rw [show rhead r ++ flat2 r.tb ++ flat2 r.mp = rbody r from rfl, if_pos ⟨by omega, by omega, by omega⟩]
    rw [show rbody r ++ List.replicate (246 - (rbody r).length) 0 = rfull r from rfl, show k + 2997 + 3 = k + 2998 + 2 from rfl, hsum, Option.bind_some]
    rw [show k + 2998 + 2 = k + 2997 + 3 from rfl, e6 _ (by rw [List.length_append, rfull_len c5 c6]; rfl), Option.bind_some]
    rfl
  · rw [if_neg hc, rput_not hc]
theorem rd_at (l : List Int) (i : Nat) (h : i < l.length) : rd l (i : Int) = l[i] := by
  unfold rd
  rw [Int.toNat_natCast, List.getD_eq_getElem?_getD, List.getElem?_eq_getElem h]
  rfl
theorem be2_len (x : Int) : (be2 x).length = 2 := rfl
end Go.Proofs.Ytgflafifemhmgaa.RPure
