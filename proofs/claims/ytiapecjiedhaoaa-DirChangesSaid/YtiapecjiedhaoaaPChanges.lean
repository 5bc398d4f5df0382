/- The law of changes, in plain terms. -/
import Derived.Test.YtiapecjiedhaoaaDirs
import Derived.Test.YtiapecjiedhaoaaChanges
namespace Go.Proofs.Ytiapecjiedhaoaa.Dirs
open Go.RowKit Go.Proofs.Ytiapecjiedhaoaa.Hand Go.Proofs.Ytiapecjiedhaoaa.MDir Go.Proofs.YtiapecjiedhaoaaW.PrintWords Go.Proofs.YtiapecjiedhaoaaW.PrintLast
def dbl : List Int → List Int
  | [] => []
  | x :: r => x :: x :: dbl r
theorem dbl_len : ∀ l, (dbl l).length = 2 * l.length
  | [] => rfl
  | x :: r => by rw [dbl, List.length_cons, List.length_cons, dbl_len r, List.length_cons]; omega
theorem dbl_append : ∀ (l m : List Int), dbl (l ++ m) = dbl l ++ dbl m
  | [], m => rfl
  | x :: r, m => by rw [List.cons_append, dbl, dbl, dbl_append r m]; rfl
theorem own_is (d : Int) (l : List Int) (hl : l.length ≤ 1000000) : dir_own.f d l = some (d, l) := by
  unfold dir_own.f slices_Clone_int_int.f
  rw [if_pos (by omega), Option.bind_some]
theorem double_l (d : Int) (l : List Int) (hl : l.length ≤ 1000000) (m : Nat) : ∀ (k i : Nat), i + m = l.length → dir_Double.l0 (k + m + 1) (dbl (l.take i)) l (l.length : Int) (i : Int) d l = some (wrap64 (d + 1), dbl l, true) := by
  induction m with
  | zero =>
    intro k i hi
    rw [dir_Double.l0, if_neg (by omega), List.take_of_length_le (by omega)]
  | succ m ih =>
    intro k i hi
    have hlt : i < l.length := by omega
    have e : dbl (l.take i) ++ [rd l (i : Int), rd l (i : Int)] = dbl (l.take (i + 1)) := by
      rw [List.take_succ_eq_append_getElem hlt, dbl_append, rd_lt l i hlt]
      rfl
    rw [show k + (m + 1) + 1 = (k + m + 1) + 1 from rfl, dir_Double.l0, if_pos (by omega), if_pos (by omega), if_pos (by omega), Option.bind_some, if_pos (by rw [dbl_len, List.length_take]; simp; omega), e, wrap_id (by omega) (by omega)]
    exact ih k (i + 1) (by omega)
def dblOf (d : Int) (l : List Int) : Int × List Int × Bool := if chk d l = 0 ∧ d ≠ 10 then (d + 1, dbl l, true) else (d, l, false)
theorem double_is (d : Int) (l : List Int) (hl : l.length ≤ 1000) (k : Nat) (hk : l.length + 2 ≤ k) : dir_Double.f k d l = some (dblOf d l) := by
  obtain ⟨j, rfl⟩ : ∃ j, k = (j + l.length + 1) + 1 := ⟨k - l.length - 2, by omega⟩
  unfold dir_Double.f dblOf
  rw [may_is, Option.bind_some]
  by_cases hc : chk d l = 0
  · rw [if_pos (by rw [hc]; rfl), dir_Double.j0]
    by_cases h10 : d = 10
    · rw [if_pos (by rw [h10]; rfl), own_is d l (by omega), Option.bind_some, if_neg (fun h => h.2 h10)]
    · obtain ⟨h0, h1, _⟩ := (chk_ok d l).mp hc
      rw [if_neg (by simpa using h10), if_pos (c := chk d l = 0 ∧ d ≠ 10) ⟨hc, h10⟩]
      have h := double_l d l (by omega) l.length j 0 (by omega)
      rw [wrap_id (x := d + 1) (by omega) (by omega)] at h
      exact h
  · rw [if_neg (by simpa using hc), dir_Double.j0, if_pos rfl, own_is d l (by omega), Option.bind_some, if_neg (c := chk d l = 0 ∧ d ≠ 10) (fun h => hc h.1)]
theorem pow_le (a b : Nat) (h : a ≤ b) : (2 : Int) ^ a ≤ 2 ^ b := by
  have := Nat.pow_le_pow_right (show 0 < 2 by decide) h
  exact_mod_cast this
theorem pow10 (a : Nat) (h : a ≤ 10) : (2 : Int) ^ a ≤ 1024 := by
  have := pow_le a 10 h
  simpa using this
theorem pow_cast (n : Nat) : ((2 ^ n : Nat) : Int) = 2 ^ n := by
  rw [Int.natCast_pow]; rfl
theorem shl_is (x : Int) (n : Nat) (hx0 : 0 ≤ x) (hx : x ≤ 100000) (hn : n ≤ 10) : shl .i64 x (n : Int) = x * 2 ^ n := by
  have hp := pow10 n hn
  have hp0 := pow2 n
  have h1 : x * 2 ^ n ≤ 100000 * 1024 := Int.mul_le_mul hx hp (Int.le_of_lt hp0) (by decide)
  have h0 : 0 ≤ x * 2 ^ n := Int.mul_nonneg hx0 (Int.le_of_lt hp0)
  unfold shl
  rw [show min ((n : Int)).toNat (IntKind.bits .i64) = n by show min ((n : Int)).toNat 64 = n; omega, IntKind.wrap_i64]
  omega
theorem shr_is (x : Int) (n : Nat) (hn : n ≤ 10) : shr .i64 x (n : Int) = x / 2 ^ n := by
  unfold shr
  rw [show min ((n : Int)).toNat (IntKind.bits .i64) = n by show min ((n : Int)).toNat 64 = n; omega]
def setFrom (l : List Int) (fr : Nat) (v : Int) : Nat → List Int
  | 0 => l
  | n + 1 => (setFrom l fr v n).set (fr + n) v
theorem setFrom_len (l : List Int) (fr : Nat) (v : Int) : ∀ n, (setFrom l fr v n).length = l.length
  | 0 => rfl
  | n + 1 => by rw [setFrom, List.length_set, setFrom_len l fr v n]
theorem setFrom_get (l : List Int) (fr : Nat) (v : Int) (j : Nat) (hj : j < l.length) : ∀ n, (setFrom l fr v n)[j]? = some (if fr ≤ j ∧ j < fr + n then v else l[j])
  | 0 => by rw [setFrom, if_neg (by omega), List.getElem?_eq_getElem hj]
  | n + 1 => by
    rw [setFrom, List.getElem?_set]
    by_cases h : fr + n = j
    · rw [if_pos h, if_pos (by rw [setFrom_len]; omega), if_pos (by omega)]
    · rw [if_neg h, setFrom_get l fr v j hj n]
      by_cases h2 : fr ≤ j ∧ j < fr + n
      · rw [if_pos h2, if_pos (by omega)]
      · rw [if_neg h2, if_neg (by omega)]
theorem set_l (p v d : Int) (l l0 : List Int) (low : Nat) (hlow : low ≤ 10) (hp0 : 0 ≤ p) (hp : p ≤ 100000) (hfit : (p + 1) * 2 ^ low ≤ (l.length : Int)) (hl : l.length ≤ 100000) (m : Nat) : ∀ (k i : Nat), ((i + m : Nat) : Int) = 2 ^ low →
    dir_Set.l0 (k + m + 1) p v (setFrom l (p * 2 ^ low).toNat v i) (low : Int) (2 ^ low) (i : Int) d l0 = some (d, setFrom l (p * 2 ^ low).toNat v (i + m)) := by
  have hpl := pow2 low
  have hpm : 0 ≤ p * 2 ^ low := Int.mul_nonneg hp0 (Int.le_of_lt hpl)
  have hfit' : p * 2 ^ low + 2 ^ low ≤ (l.length : Int) := by rw [Int.add_mul, Int.one_mul] at hfit; exact hfit
  induction m with
  | zero =>
    intro k i hi
    rw [dir_Set.l0, if_neg (by omega), Nat.add_zero]
  | succ m ih =>
    intro k i hi
    rw [show k + (m + 1) + 1 = (k + m + 1) + 1 from rfl, dir_Set.l0, if_pos (by omega), if_pos (by omega), shl_is p low hp0 hp hlow, wrap_id (x := p * 2 ^ low + (i : Int)) (by omega) (by omega), if_pos (by omega), if_pos (by rw [setFrom_len]; omega), wrap_id (x := (i : Int) + 1) (by omega) (by omega)]
    have e : (p * 2 ^ low + (i : Int)).toNat = (p * 2 ^ low).toNat + i := by omega
    rw [e]
    have h := ih k (i + 1) (by omega)
    rw [show i + 1 + m = i + (m + 1) by omega] at h
    exact h
theorem set_is (d : Int) (l : List Int) (hok : Ok d l) (hl : l.length ≤ 1000) (p : Int) (dep : Nat) (hdep : (dep : Int) ≤ d) (hp0 : 0 ≤ p) (hp : p < 2 ^ dep) (v : Int) (hv0 : 1 ≤ v) (hv1 : v ≤ 3000) (k : Nat) (hk : 2000 ≤ k) :
    dir_Set.f k d l p (dep : Int) v = some (d, setFrom l (p * 2 ^ (d.toNat - dep)).toNat v (2 ^ (d.toNat - dep))) := by
  have hc := (chk_ok d l).mpr hok
  obtain ⟨g0, g1, g2, g3⟩ := hok
  obtain ⟨n, rfl⟩ := Int.eq_ofNat_of_zero_le g0
  rw [Int.toNat_natCast] at g3 ⊢
  have hd10 : dep ≤ 10 := by omega
  have hpd := pow10 dep hd10
  have hlow := pow10 (n - dep) (by omega)
  have e2 : (2 : Int) ^ dep * 2 ^ (n - dep) = 2 ^ n := by rw [← Int.pow_add, show dep + (n - dep) = n by omega]
  have hfit : (p + 1) * 2 ^ (n - dep) ≤ (l.length : Int) := by
    rw [g3, ← e2]
    exact Int.mul_le_mul_of_nonneg_right (by omega) (Int.le_of_lt (pow2 _))
  obtain ⟨j, rfl⟩ : ∃ j, k = (j + 2 ^ (n - dep) + 1) + 1 := by
    have h1 := pow_cast (n - dep)
    exact ⟨k - 2 ^ (n - dep) - 2, by omega⟩
  have hsl : dir_slot.f v = some true := by
    unfold dir_slot.f
    rw [if_pos (by omega), decide_eq_true (by omega)]
  unfold dir_Set.f
  rw [may_is, Option.bind_some, if_pos (by rw [hc]; rfl), if_neg (by omega), if_neg (by omega), if_neg (by omega), if_pos (by omega), shr_is p dep hd10, if_pos (Int.ediv_eq_zero_of_lt hp0 hp), hsl, Option.bind_some]
  rw [show (!true) = false from rfl, dir_Set.j0, if_neg (by decide)]
  have hcl : slices_Clone_int_int.f l = some l := by unfold slices_Clone_int_int.f; rw [if_pos (by omega)]
  rw [hcl, Option.bind_some, wrap_id (x := (n : Int) - (dep : Int)) (by omega) (by omega), if_pos (by omega)]
  have e3 : (n : Int) - (dep : Int) = ((n - dep : Nat) : Int) := by omega
  rw [e3]
  have hs1 : shl .i64 1 ((n - dep : Nat) : Int) = 2 ^ (n - dep) := by rw [shl_is 1 (n - dep) (by decide) (by decide) (by omega), Int.one_mul]
  rw [hs1]
  have h := set_l p v (n : Int) l l (n - dep) (by omega) hp0 (by omega) hfit (by omega) (2 ^ (n - dep)) j 0 (by rw [Nat.zero_add, pow_cast])
  rw [Nat.zero_add] at h
  exact h
theorem set_off (d : Int) (l : List Int) (hok : Ok d l) (hl : l.length ≤ 1000) (p : Int) (dep : Nat) (hdep : (dep : Int) ≤ d) (hp : ¬ (0 ≤ p ∧ p < 2 ^ dep)) (v : Int) (k : Nat) (hk : 2000 ≤ k) :
    dir_Set.f k d l p (dep : Int) v = some (d, l) := by
  have hc := (chk_ok d l).mpr hok
  obtain ⟨g0, g1, g2, g3⟩ := hok
  obtain ⟨j, rfl⟩ : ∃ j, k = j + 1 := ⟨k - 1, by omega⟩
  have hj : ∀ x, dir_Set.j0 (j + 1) p (dep : Int) v true x l = some (x, l) := by
    intro x
    rw [dir_Set.j0, if_pos rfl, own_is x l (by omega), Option.bind_some]
  unfold dir_Set.f
  rw [may_is, Option.bind_some, if_pos (by rw [hc]; rfl), if_neg (by omega), if_neg (by omega)]
  by_cases hp0 : p < 0
  · rw [if_pos hp0]
    exact hj d
  · rw [if_neg hp0, if_pos (by omega), shr_is p dep (by omega), if_neg]
    · exact hj d
    · intro e
      apply hp
      refine ⟨by omega, ?_⟩
      have h3 := Int.lt_mul_ediv_self_add (x := p) (pow2 dep)
      rw [e, Int.mul_zero, Int.zero_add] at h3
      exact h3
theorem power_l (n : Nat) (hn : n ≤ 10) (m : Nat) : ∀ (k i : Nat), i + m = n → intarsiaref11_power.l0 (k + m + 1) (n : Int) (2 ^ i) (i : Int) = some (2 ^ n) := by
  induction m with
  | zero =>
    intro k i hi
    rw [intarsiaref11_power.l0, if_neg (by omega), show i = n by omega]
  | succ m ih =>
    intro k i hi
    have hp : (2 : Int) ^ i ≤ 1024 := by
      have := Nat.pow_le_pow_right (show 0 < 2 by decide) (show i ≤ 10 by omega)
      have h2 : (2 : Int) ^ i ≤ ((2 ^ 10 : Nat) : Int) := by exact_mod_cast this
      simpa using h2
    have hp0 := pow2 i
    rw [show k + (m + 1) + 1 = (k + m + 1) + 1 from rfl, intarsiaref11_power.l0, if_pos (by omega), if_pos (by omega), wrap_id (x := 2 * 2 ^ i) (by omega) (by omega), wrap_id (x := (i : Int) + 1) (by omega) (by omega)]
    have h := ih k (i + 1) (by omega)
    rw [show (2 : Int) ^ (i + 1) = 2 * 2 ^ i by rw [Int.pow_succ]; omega] at h
    exact h
theorem power_is (k : Nat) (hk : 11 ≤ k) (d : Int) (h0 : 0 ≤ d) (h1 : d ≤ 10) : intarsiaref11_power.f k d = some (2 ^ d.toNat) := by
  obtain ⟨n, rfl⟩ := Int.eq_ofNat_of_zero_le h0
  obtain ⟨j, rfl⟩ : ∃ j, k = j + n + 1 := ⟨k - n - 1, by omega⟩
  unfold intarsiaref11_power.f
  exact power_l n (by omega) n j 0 (by omega)
theorem rcheck_l (d : Int) (hd0 : 0 ≤ d) (hd1 : d ≤ 10) (l : List Int) (hl : l.length ≤ 1000000) (m : Nat) : ∀ (k i : Nat), i + m = l.length → 11 ≤ k → intarsiaref11_Check.l0 (k + m + 1) (i : Int) d l = some (if (l.drop i).any badN = true then 12 else if (l.length : Int) = 2 ^ d.toNat then 0 else 4) := by
  induction m with
  | zero =>
    intro k i hi hk
    rw [intarsiaref11_Check.l0, if_neg (by omega), power_is k (by omega) d hd0 hd1, Option.bind_some, List.drop_of_length_le (by omega)]
    rw [if_neg (c := (([] : List Int).any badN = true)) (by decide)]
    split <;> rfl
  | succ m ih =>
    intro k i hi hk
    have hlt : i < l.length := by omega
    rw [show k + (m + 1) + 1 = (k + m + 1) + 1 from rfl, intarsiaref11_Check.l0, if_pos (by omega), if_pos (by omega), rd_lt l i hlt, List.drop_eq_getElem_cons hlt, List.any_cons]
    by_cases h1 : l[i] < 1
    · have hb : badN l[i] = true := by unfold badN; simp; omega
      rw [if_pos h1, hb, Bool.true_or, if_pos rfl]
    · rw [if_neg h1]
      by_cases h2 : l[i] > 3000
      · have hb : badN l[i] = true := by unfold badN; simp; omega
        rw [if_pos h2, hb, Bool.true_or, if_pos rfl]
      · have hb : badN l[i] = false := by unfold badN; simp; omega
        rw [if_neg h2, hb, Bool.false_or, wrap_id (by omega) (by omega)]
        exact ih k (i + 1) (by omega) hk
theorem rcheck_is (d : Int) (l : List Int) (hl : l.length ≤ 1000) (k : Nat) (hk : l.length + 14 ≤ k) : intarsiaref11_Check.f k d l = some (chk d l) := by
  obtain ⟨j, rfl⟩ : ∃ j, k = (j + l.length + 1) + 1 := ⟨k - l.length - 2, by omega⟩
  unfold intarsiaref11_Check.f chk
  by_cases h1 : d < 0
  · rw [if_pos h1, if_pos h1, intarsiaref11_Check.j0, if_pos rfl]
  · rw [if_neg h1, if_neg h1]
    by_cases h2 : 10 < d
    · rw [if_pos h2, decide_eq_true (show d > 10 from h2), intarsiaref11_Check.j0, if_pos rfl]
    · rw [if_neg h2, decide_eq_false (show ¬ d > 10 from h2), intarsiaref11_Check.j0, if_neg (by decide)]
      exact rcheck_l d (by omega) (by omega) l (by omega) l.length j 0 (by omega) (by omega)
theorem same_l (l : List Int) (hl : l.length ≤ 1000000) (m : Nat) : ∀ (k i : Nat), i + m = l.length → intarsialaw11_sameInts.l0 (k + m + 1) l l (i : Int) = some true := by
  induction m with
  | zero => intro k i hi; rw [intarsialaw11_sameInts.l0, if_neg (by omega)]
  | succ m ih =>
    intro k i hi
    rw [show k + (m + 1) + 1 = (k + m + 1) + 1 from rfl, intarsialaw11_sameInts.l0, if_pos (by omega), if_pos (by omega), if_pos (by omega), if_pos rfl, wrap_id (by omega) (by omega)]
    exact ih k (i + 1) (by omega)
theorem same_ints (l : List Int) (hl : l.length ≤ 1000000) (k : Nat) (hk : l.length < k) : intarsialaw11_sameInts.f k l l = some true := by
  obtain ⟨j, rfl⟩ : ∃ j, k = j + l.length + 1 := ⟨k - l.length - 1, by omega⟩
  unfold intarsialaw11_sameInts.f
  rw [if_pos rfl]
  exact same_l l hl l.length j 0 (by omega)
def Byte (x : Int) : Prop := 0 ≤ x ∧ x ≤ 255
theorem or_add (n x : Int) (h0 : 0 ≤ n) (h1 : n < 1099511627776) (hx : Byte x) : Go.bits .or .i64 (n * 256) x = 256 * n + x := by
  obtain ⟨hx, hx1⟩ := hx
  obtain ⟨a, rfl⟩ := Int.eq_ofNat_of_zero_le h0
  obtain ⟨b, rfl⟩ := Int.eq_ofNat_of_zero_le hx
  have := (Go.bits_nat .i64 63 (by decide +kernel) (fun m h0 h1 => by rw [IntKind.wrap_i64]; omega) (2 ^ 8 * a) b (by omega) (by omega)).2
  rw [show ((a : Nat) : Int) * 256 = ((2 ^ 8 * a : Nat) : Int) by omega, this, ← Nat.two_pow_add_eq_or_of_lt (by omega : b < 2 ^ 8) a]
  omega
theorem rd_byte (l : List Int) (hl : ∀ x ∈ l, Byte x) (i : Int) : Byte (rd l i) := by
  unfold rd
  rw [List.getD_eq_getElem?_getD]
  cases h : l[i.toNat]? with
  | none => exact ⟨by decide, by decide⟩
  | some x => exact hl x (List.mem_of_getElem? h)
def pairs : List Int → List Int
  | a :: b :: r => (256 * a + b) :: pairs r
  | _ => []
theorem punwords_l (l : List Int) (hb : ∀ x ∈ l, Byte x) (hl : l.length ≤ 1000) (d : Nat) : ∀ (k : Nat) (acc : List Int) (i : Nat), i + 2 * d = l.length → acc.length ≤ i → page_Unwords.l0 (k + d + 1) l acc i = some (acc ++ pairs (l.drop i), 0) := by
  induction d with
  | zero =>
    intro k acc i hi ha
    rw [page_Unwords.l0, if_neg (by omega), List.drop_of_length_le (by omega), pairs, List.append_nil]
    rintro a b r ⟨⟩
  | succ d ih =>
    intro k acc i hi ha
    have hlt : i < l.length := by omega
    have hlt1 : i + 1 < l.length := by omega
    have b0 := rd_byte l hb i
    have b1 := rd_byte l hb ((i + 1 : Nat) : Int)
    have b0' := b0
    have b1' := b1
    unfold Byte at b0' b1'
    rw [show k + (d + 1) + 1 = (k + d + 1) + 1 from rfl, page_Unwords.l0, if_pos (by omega), if_pos (by omega), wrap_id (x := (i : Int) + 1) (by omega) (by omega), if_pos (by omega), if_pos (by omega), if_pos (by omega), wrap_id (x := rd l i) (by omega) (by omega), wrap_id (x := rd l i * 256) (by omega) (by omega), show (i : Int) + 1 = ((i + 1 : Nat) : Int) from rfl, wrap_id (x := rd l ((i + 1 : Nat) : Int)) (by omega) (by omega), or_add _ _ (by omega) (by omega) b1, wrap_id (x := (i : Int) + 2) (by omega) (by omega), rd_lt l i hlt, rd_lt l (i + 1) hlt1]
    have h := ih k (acc ++ [256 * l[i] + l[i + 1]]) (i + 2) (by omega) (by simp; omega)
    rw [show (i : Int) + 2 = ((i + 2 : Nat) : Int) from rfl, h, List.drop_eq_getElem_cons hlt, List.drop_eq_getElem_cons hlt1, pairs, List.append_assoc]
    rfl
theorem runwords_l (l : List Int) (hb : ∀ x ∈ l, Byte x) (hl : l.length ≤ 1000) (d : Nat) : ∀ (k : Nat) (acc : List Int) (i : Nat), i + 2 * d = l.length → acc.length ≤ i → intarsiaref06_Unwords.l0 (k + d + 1) l acc i = some (acc ++ pairs (l.drop i), 0) := by
  induction d with
  | zero =>
    intro k acc i hi ha
    rw [intarsiaref06_Unwords.l0, if_neg (by omega), List.drop_of_length_le (by omega), pairs, List.append_nil]
    rintro a b r ⟨⟩
  | succ d ih =>
    intro k acc i hi ha
    have hlt : i < l.length := by omega
    have hlt1 : i + 1 < l.length := by omega
    have b0 := rd_byte l hb i
    have b1 := rd_byte l hb ((i + 1 : Nat) : Int)
    unfold Byte at b0 b1
    rw [show k + (d + 1) + 1 = (k + d + 1) + 1 from rfl, intarsiaref06_Unwords.l0, if_pos (by omega), if_pos (by omega), wrap_id (x := (i : Int) + 1) (by omega) (by omega), if_pos (by omega), if_pos (by omega), if_pos (by omega), wrap_id (x := rd l i) (by omega) (by omega), wrap_id (x := 256 * rd l i) (by omega) (by omega), show (i : Int) + 1 = ((i + 1 : Nat) : Int) from rfl, wrap_id (x := rd l ((i + 1 : Nat) : Int)) (by omega) (by omega), wrap_id (x := 256 * rd l i + rd l ((i + 1 : Nat) : Int)) (by omega) (by omega), wrap_id (x := (i : Int) + 2) (by omega) (by omega), rd_lt l i hlt, rd_lt l (i + 1) hlt1]
    have h := ih k (acc ++ [256 * l[i] + l[i + 1]]) (i + 2) (by omega) (by simp; omega)
    rw [show (i : Int) + 2 = ((i + 2 : Nat) : Int) from rfl, h, List.drop_eq_getElem_cons hlt, List.drop_eq_getElem_cons hlt1, pairs, List.append_assoc]
    rfl
def unwordsOf (l : List Int) : List Int × Int := if (l.length : Int) % 2 = 0 then (pairs l, 0) else ([], 4)
theorem punwords (k : Nat) (l : List Int) (hb : ∀ x ∈ l, Byte x) (hl : l.length ≤ 1000) (hk : l.length < k) : page_Unwords.f k l = some (unwordsOf l) := by
  unfold page_Unwords.f unwordsOf
  by_cases h : (l.length : Int) % 2 = 0
  · rw [if_pos h, if_pos h]
    obtain ⟨d, hd⟩ : ∃ d, l.length = 2 * d := ⟨l.length / 2, by omega⟩
    obtain ⟨j, rfl⟩ : ∃ j, k = j + d + 1 := ⟨k - d - 1, by omega⟩
    exact punwords_l l hb hl d j [] 0 (by omega) (by simp)
  · rw [if_neg h, if_neg h]
theorem runwords (k : Nat) (l : List Int) (hb : ∀ x ∈ l, Byte x) (hl : l.length ≤ 1000) (hk : l.length < k) : intarsiaref06_Unwords.f k l = some (unwordsOf l) := by
  unfold intarsiaref06_Unwords.f unwordsOf
  by_cases h : (l.length : Int) % 2 = 0
  · rw [if_pos h, if_pos h]
    obtain ⟨d, hd⟩ : ∃ d, l.length = 2 * d := ⟨l.length / 2, by omega⟩
    obtain ⟨j, rfl⟩ : ∃ j, k = j + d + 1 := ⟨k - d - 1, by omega⟩
    exact runwords_l l hb hl d j [] 0 (by omega) (by simp)
  · rw [if_neg h, if_neg h]
theorem pairs_len : ∀ l : List Int, (pairs l).length ≤ l.length
  | [] => by simp [pairs]
  | [_] => by simp [pairs]
  | a :: b :: r => by
    have := pairs_len r
    rw [pairs, List.length_cons, List.length_cons, List.length_cons]
    omega
/-! ### doubled, by the reference -/
theorem rdouble_l (d : Int) (l : List Int) (hl : l.length ≤ 1000) (m : Nat) : ∀ (k i : Nat), i + m = l.length → intarsiaref11_Double.l0 (k + m + 1) (dbl (l.take i)) (i : Int) d l = some (wrap64 (d + 1), dbl l, true) := by
  induction m with
  | zero =>
    intro k i hi
    rw [intarsiaref11_Double.l0, if_neg (by omega), List.take_of_length_le (by omega)]
  | succ m ih =>
    intro k i hi
    have hlt : i < l.length := by omega
    have e : dbl (l.take i) ++ [rd l (i : Int), rd l (i : Int)] = dbl (l.take (i + 1)) := by
      rw [List.take_succ_eq_append_getElem hlt, dbl_append, rd_lt l i hlt]
      rfl
    rw [show k + (m + 1) + 1 = (k + m + 1) + 1 from rfl, intarsiaref11_Double.l0, if_pos (by omega), if_pos (by omega), Option.bind_some, if_pos (by rw [dbl_len, List.length_take]; simp; omega), e, wrap_id (x := (i : Int) + 1) (by omega) (by omega)]
    exact ih k (i + 1) (by omega)
theorem rdouble_is (d : Int) (l : List Int) (hl : l.length ≤ 1000) (k : Nat) (hk : 2000 ≤ k) : intarsiaref11_Double.f k d l = some (dblOf d l) := by
  obtain ⟨j, rfl⟩ : ∃ j, k = (j + l.length + 1) + 1 := ⟨k - l.length - 2, by omega⟩
  unfold intarsiaref11_Double.f dblOf
  rw [rcheck_is d l hl _ (by omega), Option.bind_some]
  by_cases hc : chk d l = 0
  · rw [if_pos hc, intarsiaref11_Double.j0]
    by_cases h10 : d = 10
    · rw [if_pos (by rw [h10]; rfl), if_neg (fun h => h.2 h10)]
    · obtain ⟨h0, h1, _⟩ := (chk_ok d l).mp hc
      rw [if_neg (by simpa using h10), if_pos (c := chk d l = 0 ∧ d ≠ 10) ⟨hc, h10⟩]
      have h := rdouble_l d l hl l.length j 0 (by omega)
      rw [wrap_id (x := d + 1) (by omega) (by omega)] at h
      exact h
  · rw [if_neg hc, intarsiaref11_Double.j0, if_pos rfl, if_neg (c := chk d l = 0 ∧ d ≠ 10) (fun h => hc h.1)]
/-! ### halved -/
def hlvOf (d : Int) (l : List Int) : Int × List Int × Bool := if chk d l = 0 ∧ d ≠ 0 then (match Halve.halves l with | some out => (wrap64 (d - 1), out, true) | none => (d, l, false)) else (d, l, false)
theorem halve_is (d : Int) (l : List Int) (hl : l.length ≤ 1000) : dir_Halve.f d l = some (hlvOf d l) := by
  unfold dir_Halve.f Halve.dir_Halve.f hlvOf
  rw [may_is, Option.bind_some, if_pos (by omega)]
  by_cases hc : chk d l = 0
  · rw [if_pos (by rw [hc]; rfl)]
    by_cases h0 : d = 0
    · rw [if_pos h0, if_neg (fun h => h.2 h0)]
    · rw [if_neg h0, if_pos (c := chk d l = 0 ∧ d ≠ 0) ⟨hc, h0⟩]
      cases Halve.halves l <;> rfl
  · rw [if_neg (by simpa using hc), if_neg (fun h => hc h.1)]
theorem rhalve_l (d : Int) (l : List Int) (hl : l.length ≤ 1000) (m : Nat) : ∀ (k i : Nat) (out : List Int), out.length ≤ i → (i + 2 * m = l.length ∨ i + 2 * m + 1 = l.length) → intarsiaref11_Halve.l0 (k + m + 1) out (i : Int) d l = some (match Halve.halves (l.drop i) with | some o => (wrap64 (d - 1), out ++ o, true) | none => (d, l, false)) := by
  induction m with
  | zero =>
    intro k i out ho hi
    have e : Halve.halves (l.drop i) = some [] := by
      rcases hi with hi | hi
      · rw [List.drop_of_length_le (by omega)]
        rfl
      · rw [List.drop_eq_getElem_cons (by omega), List.drop_of_length_le (by omega)]
        rfl
    rw [intarsiaref11_Halve.l0, wrap_id (x := (i : Int) + 1) (by omega) (by omega), if_neg (by omega), e]
    simp
  | succ m ih =>
    intro k i out ho hi
    have h0 : i < l.length := by omega
    have h1 : i + 1 < l.length := by omega
    rw [show k + (m + 1) + 1 = (k + m + 1) + 1 from rfl, intarsiaref11_Halve.l0, wrap_id (x := (i : Int) + 1) (by omega) (by omega), if_pos (by omega), if_pos (by omega), if_pos (by omega), if_pos (by omega)]
    have e1 : rd l ((i : Int) + 1) = l[i + 1] := rd_lt l (i + 1) h1
    rw [e1, rd_lt l i h0, List.drop_eq_getElem_cons h0, List.drop_eq_getElem_cons h1, Halve.halves]
    by_cases he : l[i] = l[i + 1]
    · rw [if_pos he, if_pos he, if_pos (by omega), wrap_id (x := (i : Int) + 2) (by omega) (by omega)]
      have h := ih k (i + 2) (out ++ [l[i]]) (by simp; omega) (by omega)
      refine Eq.trans h ?_
      rw [show i + 1 + 1 = i + 2 from rfl]
      cases Halve.halves (l.drop (i + 2)) with
      | none => rfl
      | some o => simp
    · rw [if_neg he, if_neg he]
theorem rhalve_is (d : Int) (l : List Int) (hl : l.length ≤ 1000) (k : Nat) (hk : 2000 ≤ k) : intarsiaref11_Halve.f k d l = some (hlvOf d l) := by
  obtain ⟨j, rfl⟩ : ∃ j, k = (j + l.length / 2 + 1) + 1 := ⟨k - l.length / 2 - 2, by omega⟩
  unfold intarsiaref11_Halve.f hlvOf
  rw [rcheck_is d l hl _ (by omega), Option.bind_some]
  by_cases hc : chk d l = 0
  · rw [if_pos hc, intarsiaref11_Halve.j0]
    by_cases h0 : d = 0
    · rw [if_pos (by rw [h0]; rfl), if_neg (fun h => h.2 h0)]
    · rw [if_neg (by simpa using h0), if_pos (c := chk d l = 0 ∧ d ≠ 0) ⟨hc, h0⟩]
      exact rhalve_l d l hl (l.length / 2) j 0 [] (by simp) (by omega)
  · rw [if_neg hc, intarsiaref11_Halve.j0, if_pos rfl, if_neg (c := chk d l = 0 ∧ d ≠ 0) (fun h => hc h.1)]
/-! ### set -/
def setOk (d : Int) (l : List Int) (p dep v : Int) : Prop := chk d l = 0 ∧ 0 ≤ dep ∧ dep ≤ d ∧ (0 ≤ p ∧ p < 2 ^ dep.toNat) ∧ 1 ≤ v ∧ v ≤ 3000
instance (d : Int) (l : List Int) (p dep v : Int) : Decidable (setOk d l p dep v) := by unfold setOk; infer_instance
def setOf (d : Int) (l : List Int) (p dep v : Int) : Int × List Int := if setOk d l p dep v then (d, setFrom l (p * 2 ^ (d.toNat - dep.toNat)).toNat v (2 ^ (d.toNat - dep.toNat))) else (d, l)
theorem slot_is (v : Int) : dir_slot.f v = some (decide (1 ≤ v ∧ v ≤ 3000)) := by
  unfold dir_slot.f
  by_cases h1 : 1 ≤ v
  · by_cases h2 : v ≤ 3000
    · rw [decide_eq_true (show 1 ≤ v ∧ v ≤ 3000 from ⟨h1, h2⟩)]
      rw [if_pos (by omega), decide_eq_true (by omega)]
    · rw [decide_eq_false (show ¬ (1 ≤ v ∧ v ≤ 3000) by omega)]
      rw [if_pos (by omega), decide_eq_false (by omega)]
  · rw [decide_eq_false (show ¬ (1 ≤ v ∧ v ≤ 3000) by omega)]
    rw [if_neg (by omega)]
theorem dset_is (d : Int) (l : List Int) (hl : l.length ≤ 1000) (p dep v : Int) (k : Nat) (hk : 2000 ≤ k) : dir_Set.f k d l p dep v = some (setOf d l p dep v) := by
  by_cases hs : setOk d l p dep v
  · obtain ⟨h1, h2, h3, h4, h5, h6⟩ := hs
    obtain ⟨n, rfl⟩ := Int.eq_ofNat_of_zero_le h2
    unfold setOf
    rw [if_pos ⟨h1, h2, h3, h4, h5, h6⟩]
    exact set_is d l ((chk_ok d l).mp h1) hl p n h3 h4.1 h4.2 v h5 h6 k hk
  · have e : setOf d l p dep v = (d, l) := by unfold setOf; rw [if_neg hs]
    rw [e]
    obtain ⟨j, rfl⟩ : ∃ j, k = j + 1 := ⟨k - 1, by omega⟩
    have hj : ∀ x, dir_Set.j0 (j + 1) p dep v true x l = some (x, l) := by
      intro x
      rw [dir_Set.j0, if_pos rfl, own_is x l (by omega), Option.bind_some]
    by_cases hc : chk d l = 0
    · by_cases h2 : 0 ≤ dep ∧ dep ≤ d
      · obtain ⟨n, rfl⟩ := Int.eq_ofNat_of_zero_le h2.1
        by_cases h4 : 0 ≤ p ∧ p < 2 ^ n
        · unfold dir_Set.f
          have hn : n ≤ 10 := by have := ((chk_ok d l).mp hc).2.1; omega
          rw [may_is, Option.bind_some, if_pos (by rw [hc]; rfl), if_neg (by omega), if_neg (by omega), if_neg (by omega), if_pos (by omega), shr_is p n hn, if_pos (Int.ediv_eq_zero_of_lt h4.1 h4.2), slot_is, Option.bind_some, decide_eq_false (fun h => hs ⟨hc, h2.1, h2.2, h4, h⟩)]
          exact hj d
        · exact set_off d l ((chk_ok d l).mp hc) hl p n h2.2 h4 v (j + 1) hk
      · unfold dir_Set.f
        rw [may_is, Option.bind_some, if_pos (by rw [hc]; rfl)]
        by_cases h3 : dep < 0
        · rw [if_pos h3]
          exact hj d
        · rw [if_neg h3, if_pos (by omega)]
          exact hj d
    · unfold dir_Set.f
      rw [may_is, Option.bind_some, if_neg (by simpa using hc)]
      exact hj d
/-- The first n slots, those of the place p set. -/
def setIf (l : List Int) (p : Int) (L : Nat) (v : Int) : Nat → List Int
  | 0 => l
  | n + 1 => if ((n / L : Nat) : Int) = p then (setIf l p L v n).set n v else setIf l p L v n
theorem setIf_len (l : List Int) (p : Int) (L : Nat) (v : Int) : ∀ n, (setIf l p L v n).length = l.length
  | 0 => rfl
  | n + 1 => by
    rw [setIf]
    split
    · rw [List.length_set, setIf_len l p L v n]
    · exact setIf_len l p L v n
theorem setIf_get (l : List Int) (p : Int) (L : Nat) (v : Int) (j : Nat) (hj : j < l.length) : ∀ n, (setIf l p L v n)[j]? = some (if j < n ∧ ((j / L : Nat) : Int) = p then v else l[j])
  | 0 => by rw [setIf, if_neg (by omega), List.getElem?_eq_getElem hj]
  | n + 1 => by
    rw [setIf]
    by_cases hp : ((n / L : Nat) : Int) = p
    · rw [if_pos hp, List.getElem?_set]
      by_cases h : n = j
      · rw [if_pos h, if_pos (by rw [setIf_len]; omega), if_pos ⟨by omega, by rw [← h]; exact hp⟩]
      · rw [if_neg h, setIf_get l p L v j hj n]
        by_cases h2 : j < n ∧ ((j / L : Nat) : Int) = p
        · rw [if_pos h2, if_pos ⟨by omega, h2.2⟩]
        · rw [if_neg h2, if_neg (fun h3 => h2 ⟨by omega, h3.2⟩)]
    · rw [if_neg hp, setIf_get l p L v j hj n]
      by_cases h2 : j < n ∧ ((j / L : Nat) : Int) = p
      · rw [if_pos h2, if_pos ⟨by omega, h2.2⟩]
      · rw [if_neg h2, if_neg]
        intro h3
        by_cases h : j = n
        · exact hp (by rw [← h]; exact h3.2)
        · exact h2 ⟨by omega, h3.2⟩
theorem setIf_all (l : List Int) (p : Nat) (L : Nat) (hL : 0 < L) (v : Int) : setIf l (p : Int) L v l.length = setFrom l (p * L) v L := by
  refine List.ext_getElem? fun j => ?_
  by_cases hj : j < l.length
  · rw [setIf_get l p L v j hj, setFrom_get l (p * L) v j hj]
    congr 1
    have h1 : ((j / L : Nat) : Int) = (p : Int) ↔ p * L ≤ j ∧ j < p * L + L := by
      rw [Int.ofNat_inj, Nat.div_eq_iff hL]
      omega
    by_cases h : p * L ≤ j ∧ j < p * L + L
    · rw [if_pos h, if_pos ⟨hj, h1.mpr h⟩]
    · rw [if_neg h, if_neg (fun h2 => h (h1.mp h2.2))]
  · rw [List.getElem?_eq_none (by rw [setIf_len]; omega), List.getElem?_eq_none (by rw [setFrom_len]; omega)]
theorem rset_l (d : Int) (hd0 : 0 ≤ d) (hd : d ≤ 10) (l : List Int) (hl : l.length ≤ 1000) (p v : Int) (dep : Nat) (hdep : (dep : Int) ≤ d) (m : Nat) : ∀ (k i : Nat), i + m = l.length → 20 ≤ k → intarsiaref11_Set.l0 (k + m + 1) p (dep : Int) v (setIf l p (2 ^ (d.toNat - dep)) v i) (i : Int) d l = some (d, setIf l p (2 ^ (d.toNat - dep)) v l.length) := by
  induction m with
  | zero =>
    intro k i hi hk
    rw [intarsiaref11_Set.l0, if_neg (by rw [setIf_len]; omega), show i = l.length by omega]
  | succ m ih =>
    intro k i hi hk
    have e0 : (d - (dep : Int)).toNat = d.toNat - dep := by omega
    have hpos := pow2 (d.toNat - dep)
    have hdv : Int.tdiv (i : Int) (2 ^ (d.toNat - dep)) = ((i / 2 ^ (d.toNat - dep) : Nat) : Int) := by
      rw [Int.tdiv_eq_ediv_of_nonneg (by omega), ← pow_cast]
      rfl
    have hle : i / 2 ^ (d.toNat - dep) ≤ i := Nat.div_le_self _ _
    rw [show k + (m + 1) + 1 = (k + m + 1) + 1 from rfl, intarsiaref11_Set.l0, if_pos (by rw [setIf_len]; omega), wrap_id (x := d - (dep : Int)) (by omega) (by omega), power_is _ (by omega) _ (by omega) (by omega), Option.bind_some, e0, if_neg (Int.ne_of_gt hpos), hdv, wrap_id (x := ((i / 2 ^ (d.toNat - dep) : Nat) : Int)) (Int.le_trans (by decide) (Int.natCast_nonneg _)) (by omega), wrap_id (x := (i : Int) + 1) (by omega) (by omega)]
    have h := ih k (i + 1) (by omega) hk
    rw [setIf] at h
    by_cases hp : ((i / 2 ^ (d.toNat - dep) : Nat) : Int) = p
    · rw [if_pos hp] at h ⊢
      rw [if_pos (by omega), Int.toNat_natCast]
      exact h
    · rw [if_neg hp] at h ⊢
      exact h
theorem rset_is (d : Int) (l : List Int) (hl : l.length ≤ 1000) (p dep v : Int) (k : Nat) (hk : 2000 ≤ k) : intarsiaref11_Set.f k d l p dep v = some (setOf d l p dep v) := by
  obtain ⟨j, rfl⟩ : ∃ j, k = (j + l.length + 1) + 1 := ⟨k - l.length - 2, by omega⟩
  have hj : ∀ x, intarsiaref11_Set.j0 ((j + l.length + 1) + 1) p dep v true x l = some (x, l) := by
    intro x
    rw [intarsiaref11_Set.j0, if_pos rfl]
  have off : ¬ setOk d l p dep v → setOf d l p dep v = (d, l) := by intro hs; unfold setOf; rw [if_neg hs]
  unfold intarsiaref11_Set.f
  rw [rcheck_is d l hl _ (by omega), Option.bind_some]
  by_cases hc : chk d l = 0
  · have hok := (chk_ok d l).mp hc
    obtain ⟨g0, g1, g2, g3⟩ := hok
    rw [if_pos hc]
    by_cases h2 : dep < 0
    · rw [if_pos h2, off (fun h => by have := h.2.1; omega)]
      exact hj d
    · rw [if_neg h2]
      by_cases h3 : dep > d
      · rw [if_pos h3, off (fun h => by have := h.2.2.1; omega)]
        exact hj d
      · rw [if_neg h3]
        by_cases h4 : p < 0
        · rw [if_pos h4, off (fun h => by have := h.2.2.2.1; omega)]
          exact hj d
        · rw [if_neg h4, power_is _ (by omega) dep (by omega) (by omega), Option.bind_some]
          by_cases h5 : p ≥ 2 ^ dep.toNat
          · rw [if_pos h5, off (fun h => by have := h.2.2.2.1.2; omega)]
            exact hj d
          · rw [if_neg h5]
            by_cases h6 : v < 1
            · rw [if_pos h6, off (fun h => by have := h.2.2.2.2.1; omega)]
              exact hj d
            · rw [if_neg h6]
              by_cases h7 : v > 3000
              · rw [decide_eq_true h7, off (fun h => by have := h.2.2.2.2.2; omega)]
                exact hj d
              · rw [decide_eq_false h7, intarsiaref11_Set.j0, if_neg (by decide), if_pos (by simp; omega), List.nil_append]
                obtain ⟨n, rfl⟩ := Int.eq_ofNat_of_zero_le (show 0 ≤ dep by omega)
                obtain ⟨q, rfl⟩ := Int.eq_ofNat_of_zero_le (show 0 ≤ p by omega)
                have h := rset_l d g0 g1 l hl (q : Int) v n (by omega) l.length j 0 (by omega) (by omega)
                refine Eq.trans h ?_
                unfold setOf
                rw [if_pos ⟨hc, by omega, by omega, ⟨by omega, by omega⟩, by omega, by omega⟩, setIf_all l q _ (Nat.pow_pos (by decide)) v, Int.toNat_natCast]
                have e : ((q : Int) * 2 ^ (d.toNat - n)).toNat = q * 2 ^ (d.toNat - n) := by
                  rw [← pow_cast, ← Int.natCast_mul, Int.toNat_natCast]
                rw [e]
  · rw [if_neg hc, off (fun h => hc h.1)]
    exact hj d
/-! ### got -/
def getOf (d : Int) (b : List Int) : Int × List Int × Int := if (unwordsOf b).2 = 0 then (if chk d (unwordsOf b).1 = 0 then (d, (unwordsOf b).1, 0) else (0, [], 4)) else (0, [], 4)
theorem unwords_len (b : List Int) : (unwordsOf b).1.length ≤ b.length := by
  unfold unwordsOf
  split
  · exact pairs_len b
  · simp
theorem get_is (d : Int) (b : List Int) (hb : ∀ x ∈ b, Byte x) (hl : b.length ≤ 1000) (k : Nat) (hk : 2000 ≤ k) : dir_Get.f k d b = some (getOf d b) := by
  unfold dir_Get.f getOf
  rw [punwords k b hb hl (by omega), Option.bind_some]
  by_cases h : (unwordsOf b).2 = 0
  · rw [if_pos h, if_pos h, may_is, Option.bind_some]
    by_cases hc : chk d (unwordsOf b).1 = 0
    · rw [if_pos hc, if_pos (by rw [hc]; rfl)]
    · rw [if_neg hc, if_neg (by simpa using hc)]
  · rw [if_neg h, if_neg h]
theorem rget_is (d : Int) (b : List Int) (hb : ∀ x ∈ b, Byte x) (hl : b.length ≤ 900) (k : Nat) (hk : 2000 ≤ k) : intarsiaref11_Get.f k d b = some (getOf d b) := by
  have hlen := unwords_len b
  unfold intarsiaref11_Get.f getOf
  rw [runwords k b hb (by omega) (by omega), Option.bind_some]
  by_cases h : (unwordsOf b).2 = 0
  · rw [if_pos h, if_pos h, rcheck_is d _ (by omega) k (by omega), Option.bind_some]
    split <;> rfl
  · rw [if_neg h, if_neg h]
/-! ### one -/
theorem rsame_l (d : Int) (l : List Int) (hl : l.length ≤ 100000) (m : Nat) : ∀ (k i : Nat), i + m = l.length → intarsiaref11_Same.l0 (k + m + 1) (i : Int) d l d l = some true := by
  induction m with
  | zero => intro k i hi; rw [intarsiaref11_Same.l0, if_neg (by omega)]
  | succ m ih =>
    intro k i hi
    rw [show k + (m + 1) + 1 = (k + m + 1) + 1 from rfl, intarsiaref11_Same.l0, if_pos (by omega), if_pos (by omega), if_pos (by omega), if_pos rfl, wrap_id (by omega) (by omega)]
    exact ih k (i + 1) (by omega)
theorem rsame (d : Int) (l : List Int) (hl : l.length ≤ 2000) (k : Nat) (hk : 3000 ≤ k) : intarsiaref11_Same.f k d l d l = some true := by
  obtain ⟨j, rfl⟩ : ∃ j, k = (j + l.length + 1) + 1 := ⟨k - l.length - 2, by omega⟩
  unfold intarsiaref11_Same.f
  rw [if_pos rfl, intarsiaref11_Same.j0, if_neg (by simp)]
  exact rsame_l d l (by omega) l.length j 0 (by omega)
theorem halves_len : ∀ (l : List Int) (o : List Int), Halve.halves l = some o → o.length ≤ l.length
  | [], o, h => by cases h; simp
  | [x], o, h => by cases h; simp
  | a :: b :: r, o, h => by
    rw [Halve.halves] at h
    by_cases e : a = b
    · rw [if_pos e] at h
      obtain ⟨o', h', rfl⟩ := Option.map_eq_some_iff.mp h
      have := halves_len r o' h'
      simp; omega
    · rw [if_neg e] at h
      cases h
theorem dblOf_len (d : Int) (l : List Int) (hl : l.length ≤ 1000) : (dblOf d l).2.1.length ≤ 2000 := by
  unfold dblOf
  split
  · dsimp only
    rw [dbl_len]; omega
  · dsimp only; omega
theorem hlvOf_len (d : Int) (l : List Int) (hl : l.length ≤ 1000) : (hlvOf d l).2.1.length ≤ 2000 := by
  unfold hlvOf
  split
  · cases h : Halve.halves l with
    | none => dsimp only; omega
    | some o => have := halves_len l o h; dsimp only; omega
  · dsimp only; omega
theorem setOf_len (d : Int) (l : List Int) (p dep v : Int) (hl : l.length ≤ 1000) : (setOf d l p dep v).2.length ≤ 2000 := by
  unfold setOf
  split
  · dsimp only
    rw [setFrom_len]; omega
  · dsimp only; omega
theorem getOf_len (d : Int) (b : List Int) (hl : b.length ≤ 1000) : (getOf d b).2.1.length ≤ 2000 := by
  have := unwords_len b
  unfold getOf
  split
  · split
    · dsimp only; omega
    · dsimp only; simp
  · dsimp only; simp
theorem byte_wf {x : Int} (h : (Lit.int .u8 x).wf = true) : Byte x := by
  have := of_decide_eq_true (p := IntKind.u8.min ≤ x ∧ x ≤ IntKind.u8.max) (by simpa [Lit.wf] using h)
  have h1 : IntKind.u8.min = 0 := by decide
  have h2 : IntKind.u8.max = 255 := by decide
  unfold Byte
  omega
theorem changes (d : Int) (l : List Int) (a b c : Int) (raw : List Int) (hraw : ∀ x ∈ raw, Byte x) : ∃ k, intarsialaw11_DirChanges.f k d l a b c raw = some true := by
  refine ⟨5001, ?_⟩
  have hj : ∀ x, intarsialaw11_DirChanges.j0 5001 raw true x l a b c = some true := by
    intro x
    rw [intarsialaw11_DirChanges.j0, if_pos rfl]
    rfl
  unfold intarsialaw11_DirChanges.f
  by_cases h1 : (l.length : Int) > 300
  · rw [if_pos h1]
    exact hj d
  · rw [if_neg h1]
    by_cases h2 : (raw.length : Int) > 600
    · rw [decide_eq_true h2]
      exact hj d
    · have hl : l.length ≤ 1000 := by omega
      rw [decide_eq_false h2, intarsialaw11_DirChanges.j0, if_neg (by decide), if_pos (by simp; omega), Option.bind_some, List.nil_append,
        double_is d l hl _ (by omega), Option.bind_some, rdouble_is d l hl _ (by omega), Option.bind_some,
        halve_is d l hl, Option.bind_some, rhalve_is d l hl _ (by omega), Option.bind_some,
        dset_is d l hl a b c _ (by omega), Option.bind_some, rset_is d l hl a b c _ (by omega), Option.bind_some,
        get_is b raw hraw (by omega) _ (by omega), Option.bind_some, rget_is b raw hraw (by omega) _ (by omega), Option.bind_some]
      have hone : dir_One.f c = some (0, [c]) := rfl
      rw [hone, Option.bind_some, rsame _ _ (dblOf_len d l hl) _ (by omega), Option.bind_some, if_pos rfl, if_pos (by simp),
        rsame _ _ (hlvOf_len d l hl) _ (by omega), Option.bind_some, if_pos rfl, if_pos (by simp),
        rsame _ _ (setOf_len d l a b c hl) _ (by omega), Option.bind_some, if_pos rfl,
        rsame _ _ (getOf_len b raw (by omega)) _ (by omega), Option.bind_some, if_pos rfl, if_pos rfl,
        rsame d l (by omega) _ (by omega), Option.bind_some, if_pos rfl, if_pos rfl, same_ints [c] (by simp) _ (by simp), Option.bind_some, if_pos rfl]
      rfl
end Go.Proofs.Ytiapecjiedhaoaa.Dirs
