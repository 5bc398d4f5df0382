/- The law of looks, in plain terms. -/
import Derived.Test.YtiapecjiedhaoaaDirs
import Derived.Test.YtiapecjiedhaoaaLooks
namespace Go.Proofs.Ytiapecjiedhaoaa.Dirs
open Go.RowKit Go.Proofs.Ytiapecjiedhaoaa.Hand Go.Proofs.Ytiapecjiedhaoaa.MDir Go.Proofs.YtiapecjiedhaoaaW.PrintWords Go.Proofs.YtiapecjiedhaoaaW.PrintLast
/-! ### the reference's power and check -/
theorem power_l (n : Nat) (hn : n ≤ 10) (m : Nat) : ∀ (k i : Nat), i + m = n → intarsiaref11_power.l0 (k + m + 1) (n : Int) (2 ^ i) (i : Int) = some (2 ^ n) := by
  induction m with
  | zero =>
    intro k i hi
    rw [intarsiaref11_power.l0, if_neg (by omega), show i = n by omega]
  | succ m ih =>
    intro k i hi
    have hp : (2 : Int) ^ i ≤ 1024 := by
      have := Nat.pow_le_pow_right (show 0 < 2 by decide) (show i ≤ 10 by omega)
      have h2 : (2 : Int) ^ i ≤ ((2 ^ 10 : Nat) : Int) := by exact_mod_cast this
      simpa using h2
    have hp0 := pow2 i
    rw [show k + (m + 1) + 1 = (k + m + 1) + 1 from rfl, intarsiaref11_power.l0, if_pos (by omega), if_pos (by omega), wrap_id (x := 2 * 2 ^ i) (by omega) (by omega), wrap_id (x := (i : Int) + 1) (by omega) (by omega)]
    have h := ih k (i + 1) (by omega)
    rw [show (2 : Int) ^ (i + 1) = 2 * 2 ^ i by rw [Int.pow_succ]; omega] at h
    exact h
theorem power_is (k : Nat) (hk : 11 ≤ k) (d : Int) (h0 : 0 ≤ d) (h1 : d ≤ 10) : intarsiaref11_power.f k d = some (2 ^ d.toNat) := by
  obtain ⟨n, rfl⟩ := Int.eq_ofNat_of_zero_le h0
  obtain ⟨j, rfl⟩ : ∃ j, k = j + n + 1 := ⟨k - n - 1, by omega⟩
  unfold intarsiaref11_power.f
  exact power_l n (by omega) n j 0 (by omega)
theorem rcheck_l (d : Int) (hd0 : 0 ≤ d) (hd1 : d ≤ 10) (l : List Int) (hl : l.length ≤ 1000000) (m : Nat) : ∀ (k i : Nat), i + m = l.length → 11 ≤ k → intarsiaref11_Check.l0 (k + m + 1) (i : Int) d l = some (if (l.drop i).any badN = true then 12 else if (l.length : Int) = 2 ^ d.toNat then 0 else 4) := by
  induction m with
  | zero =>
    intro k i hi hk
    rw [intarsiaref11_Check.l0, if_neg (by omega), power_is k (by omega) d hd0 hd1, Option.bind_some, List.drop_of_length_le (by omega)]
    rw [if_neg (c := (([] : List Int).any badN = true)) (by decide)]
    split <;> rfl
  | succ m ih =>
    intro k i hi hk
    have hlt : i < l.length := by omega
    rw [show k + (m + 1) + 1 = (k + m + 1) + 1 from rfl, intarsiaref11_Check.l0, if_pos (by omega), if_pos (by omega), rd_lt l i hlt, List.drop_eq_getElem_cons hlt, List.any_cons]
    by_cases h1 : l[i] < 1
    · have hb : badN l[i] = true := by unfold badN; simp; omega
      rw [if_pos h1, hb, Bool.true_or, if_pos rfl]
    · rw [if_neg h1]
      by_cases h2 : l[i] > 3000
      · have hb : badN l[i] = true := by unfold badN; simp; omega
        rw [if_pos h2, hb, Bool.true_or, if_pos rfl]
      · have hb : badN l[i] = false := by unfold badN; simp; omega
        rw [if_neg h2, hb, Bool.false_or, wrap_id (by omega) (by omega)]
        exact ih k (i + 1) (by omega) hk
theorem rcheck_is (d : Int) (l : List Int) (hl : l.length ≤ 1000) (k : Nat) (hk : l.length + 14 ≤ k) : intarsiaref11_Check.f k d l = some (chk d l) := by
  obtain ⟨j, rfl⟩ : ∃ j, k = (j + l.length + 1) + 1 := ⟨k - l.length - 2, by omega⟩
  unfold intarsiaref11_Check.f chk
  by_cases h1 : d < 0
  · rw [if_pos h1, if_pos h1, intarsiaref11_Check.j0, if_pos rfl]
  · rw [if_neg h1, if_neg h1]
    by_cases h2 : 10 < d
    · rw [if_pos h2, decide_eq_true (show d > 10 from h2), intarsiaref11_Check.j0, if_pos rfl]
    · rw [if_neg h2, decide_eq_false (show ¬ d > 10 from h2), intarsiaref11_Check.j0, if_neg (by decide)]
      exact rcheck_l d (by omega) (by omega) l (by omega) l.length j 0 (by omega) (by omega)
/-! ### words -/
def wordsOf (acc : List Int) : List Int → List Int × Int
  | [] => (acc, 0)
  | x :: r => if x < 0 then ([], 12) else if x > 65535 then ([], 12) else wordsOf (acc ++ [x / 256 % 256, x % 256]) r
theorem pwords_l (l : List Int) (hl : l.length ≤ 1000) (d : Nat) : ∀ (k : Nat) (acc : List Int) (i : Nat), i + d = l.length → acc.length ≤ 2 * i → page_Words.l0 (k + d + 1) acc l (l.length : Int) i = some (wordsOf acc (l.drop i)) := by
  induction d with
  | zero =>
    intro k acc i hi ha
    rw [page_Words.l0, if_neg (by omega), List.drop_of_length_le (by omega)]
    rfl
  | succ d ih =>
    intro k acc i hi ha
    have hlt : i < l.length := by omega
    rw [show k + (d + 1) + 1 = (k + d + 1) + 1 from rfl, page_Words.l0, if_pos (by omega), if_pos (by omega), if_pos (by omega), rd_lt l i hlt, List.drop_eq_getElem_cons hlt, wordsOf]
    by_cases h1 : l[i] < 0
    · rw [if_pos h1, if_pos h1]
    · rw [if_neg h1, if_neg h1]
      by_cases h2 : l[i] > 65535
      · rw [if_pos h2, if_pos h2]
      · rw [if_neg h2, if_neg h2, Option.bind_some, if_pos (by simp; omega), wrap_id (by omega) (by omega)]
        exact ih k _ (i + 1) (by omega) (by simp; omega)
theorem pwords (k : Nat) (l : List Int) (hl : l.length ≤ 1000) (hk : l.length < k) : page_Words.f k l = some (wordsOf [] l) := by
  unfold page_Words.f
  obtain ⟨d, rfl⟩ : ∃ d, k = d + l.length + 1 := ⟨k - l.length - 1, by omega⟩
  exact pwords_l l hl l.length d [] 0 (by omega) (by simp)
theorem rwords_l (l : List Int) (hl : l.length ≤ 1000) (d : Nat) : ∀ (k : Nat) (acc : List Int) (i : Nat), i + d = l.length → acc.length ≤ 2 * i → intarsiaref06_Words.l0 (k + d + 1) l acc i = some (wordsOf acc (l.drop i)) := by
  induction d with
  | zero =>
    intro k acc i hi ha
    rw [intarsiaref06_Words.l0, if_neg (by omega), List.drop_of_length_le (by omega)]
    rfl
  | succ d ih =>
    intro k acc i hi ha
    have hlt : i < l.length := by omega
    rw [show k + (d + 1) + 1 = (k + d + 1) + 1 from rfl, intarsiaref06_Words.l0, if_pos (by omega), if_pos (by omega), rd_lt l i hlt, List.drop_eq_getElem_cons hlt, wordsOf]
    by_cases h1 : l[i] < 0
    · rw [if_pos h1, if_pos h1]
    · rw [if_neg h1, if_neg h1]
      by_cases h2 : l[i] > 65535
      · rw [if_pos h2, if_pos h2]
      · have e1 : wrap64 (Int.tdiv l[i] 256) = l[i] / 256 := by rw [Int.tdiv_eq_ediv_of_nonneg (by omega)]; exact wrap_id (by omega) (by omega)
        have e2 : Int.tmod l[i] 256 % 256 = l[i] % 256 := by rw [Int.tmod_eq_emod_of_nonneg (by omega)]; omega
        rw [if_neg h2, if_neg h2, Option.bind_some, if_pos (by simp; omega), wrap_id (x := (i : Int) + 1) (by omega) (by omega), e1, e2]
        exact ih k _ (i + 1) (by omega) (by simp; omega)
theorem rwords (k : Nat) (l : List Int) (hl : l.length ≤ 1000) (hk : l.length < k) : intarsiaref06_Words.f k l = some (wordsOf [] l) := by
  unfold intarsiaref06_Words.f
  obtain ⟨d, rfl⟩ : ∃ d, k = d + l.length + 1 := ⟨k - l.length - 1, by omega⟩
  exact rwords_l l hl l.length d [] 0 (by omega) (by simp)
def putOf (d : Int) (l : List Int) : List Int × Int := if chk d l = 0 then wordsOf [] l else ([], chk d l)
theorem put_is (d : Int) (l : List Int) (hl : l.length ≤ 1000) (k : Nat) (hk : l.length < k) : dir_Put.f k d l = some (putOf d l) := by
  unfold dir_Put.f putOf
  rw [check_is, Option.bind_some]
  by_cases hc : chk d l = 0
  · rw [if_pos hc, if_pos hc, pwords k l hl hk, Option.bind_some]
  · rw [if_neg hc, if_neg hc]
theorem rput_is (d : Int) (l : List Int) (hl : l.length ≤ 1000) (k : Nat) (hk : l.length + 14 ≤ k) : intarsiaref11_Put.f k d l = some (putOf d l) := by
  unfold intarsiaref11_Put.f putOf
  rw [rcheck_is d l hl k hk, Option.bind_some]
  by_cases hc : chk d l = 0
  · rw [if_pos hc, if_pos hc, rwords k l hl (by omega), Option.bind_some]
  · rw [if_neg hc, if_neg hc]
/-! ### the reference's mix -/
theorem xor_nat (k : IntKind) (a b : Nat) (ha : a < 2 ^ k.bits) (hb : b < 2 ^ k.bits) : Go.bits .xor k (a : Int) (b : Int) = k.wrap ((a ^^^ b : Nat) : Int) := by
  have ha' : a % 2 ^ k.bits = a := Nat.mod_eq_of_lt ha
  have hb' : b % 2 ^ k.bits = b := Nat.mod_eq_of_lt hb
  simp only [Go.bits, BitVec.ofInt_natCast, BitVec.toNat_xor, BitVec.toNat_ofNat, ha', hb']

theorem xor32_nat (a b : Nat) (ha : a < 4294967296) (hb : b < 4294967296) : Go.bits .xor .u32 (a : Int) (b : Int) = ((a ^^^ b : Nat) : Int) := by
  have hx : a ^^^ b < 2 ^ 32 := Nat.xor_lt_two_pow (by simpa using ha) (by simpa using hb)
  rw [xor_nat .u32 a b ha hb, IntKind.wrap_u32]
  omega

theorem wrap_u64_small (n : Int) (h0 : 0 ≤ n) (h1 : n < 18446744073709551616) : IntKind.u64.wrap n = n := by
  rw [IntKind.wrap_u64]; omega

theorem xor64_nat (a b : Nat) (ha : a < 4294967296) (hb : b < 4294967296) : Go.bits .xor .u64 (a : Int) (b : Int) = ((a ^^^ b : Nat) : Int) := by
  have hx : a ^^^ b < 2 ^ 32 := Nat.xor_lt_two_pow (by simpa using ha) (by simpa using hb)
  rw [xor_nat .u64 a b (Nat.lt_trans ha (by decide)) (Nat.lt_trans hb (by decide)), wrap_u64_small _ (by omega) (by omega)]

theorem xor_both (x y : Int) (hx0 : 0 ≤ x) (hx : x < 4294967296) (hy0 : 0 ≤ y) (hy : y < 4294967296) :
    Go.bits .xor .u64 x y = Go.bits .xor .u32 x y ∧ 0 ≤ Go.bits .xor .u32 x y ∧ Go.bits .xor .u32 x y < 4294967296 := by
  obtain ⟨a, rfl⟩ := Int.eq_ofNat_of_zero_le hx0
  obtain ⟨b, rfl⟩ := Int.eq_ofNat_of_zero_le hy0
  have hab : a ^^^ b < 2 ^ 32 := Nat.xor_lt_two_pow (by omega) (by omega)
  rw [xor32_nat a b (by omega) (by omega), xor64_nat a b (by omega) (by omega)]
  omega

theorem times_is (x c : Int) (hx0 : 0 ≤ x) (hx : x < 4294967296) (hc0 : 0 ≤ c) (hc : c < 4294967296) :
    intarsiaref09_times.f x c = some (x * c % 4294967296) := by
  unfold intarsiaref09_times.f
  have h1 : 0 ≤ x * c := Int.mul_nonneg hx0 hc0
  have h2 : x * c ≤ 4294967295 * 4294967295 := Int.mul_le_mul (by omega) (by omega) hc0 (by decide)
  rw [wrap_u64_small _ h1 (by omega), Int.tmod_eq_emod_of_nonneg h1]

theorem tdiv_small (x c : Int) (hx0 : 0 ≤ x) (hx : x < 4294967296) (hc : 1 ≤ c) :
    IntKind.u64.wrap (Int.tdiv x c) = x / c ∧ 0 ≤ x / c ∧ x / c < 4294967296 := by
  have h0 : 0 ≤ x / c := Int.ediv_nonneg hx0 (by omega)
  have h1 : x / c ≤ x := Int.ediv_le_self _ hx0
  rw [Int.tdiv_eq_ediv_of_nonneg hx0, wrap_u64_small _ h0 (by omega)]
  omega

theorem both_of (s : ByteArray) (hn : s.size ≤ 140737488351232) (d : Nat) : ∀ (k : Nat) (x i : Int), 0 ≤ x → x < 4294967296 → 0 ≤ i → (s.size : Int) - i = d → d < k →
    ∃ r, mix_Of.l0 k s x (s.size : Int) i = some r ∧ intarsiaref09_Of.l0 k s x i = some r := by
  induction d with
  | zero =>
    intro k x i hx0 hx hi hd hk
    obtain ⟨k, rfl⟩ : ∃ m, k = m + 1 := ⟨k - 1, by omega⟩
    simp only [mix_Of.l0, intarsiaref09_Of.l0]
    rw [if_neg (by omega)]
    rw [if_neg (by omega)]
    obtain ⟨e1, d0, d1⟩ := tdiv_small x 65536 hx0 hx (by decide)
    obtain ⟨f1, f2, f3⟩ := xor_both x (x / 65536) hx0 hx d0 d1
    rw [e1, f1, times_is _ _ f2 f3 (by decide) (by decide)]
    rw [Option.bind_some]
    generalize hb_y : (Go.bits BinOp.xor IntKind.u32 x (x / 65536) * 2246822507) % 4294967296 = y
    have y0 : 0 ≤ y := hb_y ▸ Int.emod_nonneg _ (by decide)
    have y1 : y < 4294967296 := hb_y ▸ Int.emod_lt_of_pos _ (by decide)
    obtain ⟨e2, d2, d3⟩ := tdiv_small y 8192 y0 y1 (by decide)
    obtain ⟨g1, g2, g3⟩ := xor_both y (y / 8192) y0 y1 d2 d3
    rw [e2, g1, times_is _ _ g2 g3 (by decide) (by decide)]
    rw [Option.bind_some]
    generalize hb_z : (Go.bits BinOp.xor IntKind.u32 y (y / 8192) * 3266489909) % 4294967296 = z
    have z0 : 0 ≤ z := hb_z ▸ Int.emod_nonneg _ (by decide)
    have z1 : z < 4294967296 := hb_z ▸ Int.emod_lt_of_pos _ (by decide)
    obtain ⟨e3, d4, d5⟩ := tdiv_small z 65536 z0 z1 (by decide)
    obtain ⟨j1, j2, j3⟩ := xor_both z (z / 65536) z0 z1 d4 d5
    rw [e3, j1]
    exact ⟨_, rfl, by rw [Int.emod_eq_of_lt j2 j3]⟩
  | succ d ih =>
    intro k x i hx0 hx hi hd hk
    obtain ⟨k, rfl⟩ : ∃ m, k = m + 1 := ⟨k - 1, by omega⟩
    have hlt : i < (s.size : Int) := by omega
    have hb := bt_range s i
    have e1 : bt s i % 4294967296 = bt s i := by omega
    have e2 : IntKind.u64.wrap (bt s i) = bt s i := wrap_u64_small _ hb.1 (by omega)
    obtain ⟨f1, f2, f3⟩ := xor_both x (bt s i) hx0 hx hb.1 (by omega)
    have ew : wrap64 (i + 1) = i + 1 := by unfold wrap64; omega
    simp only [mix_Of.l0, intarsiaref09_Of.l0]
    rw [if_pos hlt, if_pos hi, if_pos hlt, if_pos hlt, if_pos hi, e1, e2, f1, times_is _ _ f2 f3 (by decide) (by decide), ew]
    rw [Option.bind_some]
    exact ih k _ (i + 1) (Int.emod_nonneg _ (by decide)) (Int.emod_lt_of_pos _ (by decide)) (by omega) (by omega) (by omega)

theorem div_cast (n d : Nat) : (n : Int) / 2 ^ d = ((n / 2 ^ d : Nat) : Int) := by
  rw [Int.natCast_ediv, Int.natCast_pow]; rfl

theorem mixtop_is (n : Nat) (hn : n < 4294967296) (a : Int) (d : Nat) (hd : mx 0 (mn a 32) = d) (hd2 : d ≤ 32) :
    mix_Top.f (n : Int) a = some ((n / 2 ^ (32 - d) : Nat) : Int) := by
  unfold mix_Top.f
  have e1 : IntKind.u64.wrap (n : Int) = n := by rw [IntKind.wrap_u64]; omega
  rw [hd, e1, show ((32 : Int) - (d : Int)).toNat = 32 - d by omega, div_cast]
  have h2 : n / 2 ^ (32 - d) ≤ n := Nat.div_le_self _ _
  generalize n / 2 ^ (32 - d) = q at *
  rw [show wrap64 (q : Int) = (q : Int) by unfold wrap64; omega]

theorem refbit_loop (d : Nat) : ∀ (k : Nat) (n : Nat) (i : Int), n < 4294967296 → 31 - i = d → d < 40 → d < k →
    intarsiaref09_Bit.l0 k (n : Int) i = some ((n / 2 ^ d % 2 : Nat) : Int) := by
  induction d with
  | zero =>
    intro k n i hn hd _ hk
    obtain ⟨k, rfl⟩ : ∃ m, k = m + 1 := ⟨k - 1, by omega⟩
    simp only [intarsiaref09_Bit.l0]
    rw [if_neg (by omega), Int.tmod_eq_emod_of_nonneg (by omega), Nat.pow_zero, Nat.div_one]
    rw [show wrap64 ((n : Int) % 2) = ((n % 2 : Nat) : Int) by unfold wrap64; omega]
  | succ d ih =>
    intro k n i hn hd h4 hk
    obtain ⟨k, rfl⟩ : ∃ m, k = m + 1 := ⟨k - 1, by omega⟩
    simp only [intarsiaref09_Bit.l0]
    rw [if_pos (by omega), Int.tdiv_eq_ediv_of_nonneg (by omega)]
    rw [show ((n : Int) / 2) % 4294967296 = ((n / 2 : Nat) : Int) by omega, show wrap64 (i + 1) = i + 1 by unfold wrap64; omega]
    rw [ih k (n / 2) (i + 1) (by omega) (by omega) (by omega) (by omega), Nat.div_div_eq_div_mul, Nat.pow_succ, Nat.mul_comm 2]

theorem refbit_in (k n a : Nat) (hn : n < 4294967296) (ha : a < 32) (hk : 40 ≤ k) : intarsiaref09_Bit.f k (n : Int) (a : Int) = some ((n / 2 ^ (31 - a) % 2 : Nat) : Int) := by
  unfold intarsiaref09_Bit.f
  obtain ⟨k, rfl⟩ : ∃ m, k = m + 1 := ⟨k - 1, by omega⟩
  rw [if_neg (by omega), show decide ((a : Int) > 31) = false from decide_eq_false (by omega)]
  simp only [intarsiaref09_Bit.j0]
  rw [if_neg (by decide), refbit_loop (31 - a) k n a hn (by omega) (by omega) (by omega)]

theorem half_step (n i : Nat) (hi : i < 32) : 2 * (n / 2 ^ (32 - i)) + n / 2 ^ (31 - i) % 2 = n / 2 ^ (32 - (i + 1)) := by
  have e : 32 - i = (31 - i) + 1 := by omega
  have e2 : 32 - (i + 1) = 31 - i := by omega
  rw [e, e2, Nat.pow_succ, ← Nat.div_div_eq_div_mul]
  omega

theorem reftop_loop (n : Nat) (hn : n < 4294967296) (a : Int) (m : Nat) (hm : mx 0 (mn a 32) = m) (hm2 : m ≤ 32) (d : Nat) : ∀ (k i : Nat), i + d = m → d + 40 < k →
    intarsiaref09_Top.l0 k (n : Int) a ((n / 2 ^ (32 - i) : Nat) : Int) (i : Int) = some ((n / 2 ^ (32 - m) : Nat) : Int) := by
  have hmx : m = 0 ∧ a ≤ 0 ∨ m = 32 ∧ 32 ≤ a ∨ a = m := by unfold mx mn at hm; split at hm <;> split at hm <;> omega
  induction d with
  | zero =>
    intro k i hi hk
    obtain ⟨k, rfl⟩ : ∃ m, k = m + 1 := ⟨k - 1, by omega⟩
    obtain rfl : i = m := by omega
    simp only [intarsiaref09_Top.l0]
    by_cases h : (i : Int) < a
    · rw [if_pos h, if_neg (by omega)]
    · rw [if_neg h]
  | succ d ih =>
    intro k i hi hk
    obtain ⟨k, rfl⟩ : ∃ m, k = m + 1 := ⟨k - 1, by omega⟩
    simp only [intarsiaref09_Top.l0]
    rw [if_pos (by omega), if_pos (by omega), refbit_in k n i hn (by omega) (by omega), Option.bind_some]
    have h2 : n / 2 ^ (32 - i) ≤ n := Nat.div_le_self _ _
    have hs := half_step n i (by omega)
    generalize n / 2 ^ (32 - i) = p at *
    generalize n / 2 ^ (31 - i) % 2 = q at *
    have h3 : n / 2 ^ (32 - (i + 1)) ≤ n := Nat.div_le_self _ _
    have h4 := ih k (i + 1) (by omega) (by omega)
    generalize n / 2 ^ (32 - (i + 1)) = t at *
    rw [show wrap64 (2 * (p : Int)) = 2 * (p : Int) by unfold wrap64; omega, show wrap64 (2 * (p : Int) + (q : Int)) = (t : Int) by unfold wrap64; omega, show wrap64 ((i : Int) + 1) = ((i + 1 : Nat) : Int) by unfold wrap64; omega]
    exact h4

theorem top_same (k n : Nat) (a : Int) (hn : n < 4294967296) (hk : 80 ≤ k) : ∃ r, mix_Top.f (n : Int) a = some r ∧ intarsiaref09_Top.f k (n : Int) a = some r := by
  obtain ⟨m, hm, hm2⟩ : ∃ m : Nat, mx 0 (mn a 32) = m ∧ m ≤ 32 := ⟨(mx 0 (mn a 32)).toNat, by unfold mx mn; split <;> split <;> omega, by unfold mx mn; split <;> split <;> omega⟩
  refine ⟨_, mixtop_is n hn a m hm hm2, ?_⟩
  have h := reftop_loop n hn a m hm hm2 m k 0 (by omega) (by omega)
  rw [show n / 2 ^ (32 - 0) = 0 from Nat.div_eq_of_lt (by omega)] at h
  unfold intarsiaref09_Top.f
  exact h

/-! ### places -/
theorem rof_is (s : ByteArray) (hs : s.size ≤ 1000) (h : Int) (hof : ∀ k, s.size < k → mix_Of.f k s = some h) (k : Nat) (hk : s.size < k) : intarsiaref09_Of.f k s = some h := by
  obtain ⟨r, h1, h2⟩ := both_of s (by omega) s.size k 2166136261 0 (by decide) (by decide) (by decide) (by omega) hk
  have e := hof k hk
  unfold mix_Of.f at e
  rw [h1] at e
  unfold intarsiaref09_Of.f
  rw [h2, e]
theorem rtop_is (h : Int) (hh : In32 h) (d : Nat) (hd : d ≤ 10) (k : Nat) (hk : 80 ≤ k) : intarsiaref09_Top.f k h (d : Int) = some (topOf h d) := by
  have e := top_is h hh d hd
  obtain ⟨n, rfl⟩ := Int.eq_ofNat_of_zero_le hh.1
  obtain ⟨r, h1, h2⟩ := top_same k n d (by have := hh.2; omega) hk
  rw [h1] at e
  rw [h2, e]
theorem rplace_is (s : ByteArray) (hs : s.size ≤ 1000) (h : Int) (hh : In32 h) (hof : ∀ k, s.size < k → mix_Of.f k s = some h) (d : Int) (l : List Int) (hl : l.length ≤ 1000) (k : Nat) (hk : 2000 ≤ k) : intarsiaref11_Place.f k d l s = some (placeOf h d l) := by
  unfold intarsiaref11_Place.f placeOf
  rw [rcheck_is d l hl k (by omega), Option.bind_some]
  by_cases hc : chk d l = 0
  · obtain ⟨h0, h1, _⟩ := (chk_ok d l).mp hc
    rw [if_pos hc, if_pos hc, rof_is s hs h hof k (by omega), Option.bind_some]
    have := rtop_is h hh d.toNat (by omega) k (by omega)
    rw [Int.toNat_of_nonneg h0] at this
    rw [this, Option.bind_some]
  · rw [if_neg hc, if_neg hc]
theorem rat_is (s : ByteArray) (hs : s.size ≤ 1000) (h : Int) (hh : In32 h) (hof : ∀ k, s.size < k → mix_Of.f k s = some h) (d : Int) (l : List Int) (hl : l.length ≤ 1000) (k : Nat) (hk : 2000 ≤ k) : intarsiaref11_At.f k d l s = some (atOf h d l) := by
  unfold intarsiaref11_At.f atOf
  rw [rcheck_is d l hl k (by omega), Option.bind_some]
  by_cases hc : chk d l = 0
  · have ht := top_lt h hh d l hc
    rw [if_pos hc, if_pos hc, rplace_is s hs h hh hof d l hl k hk, Option.bind_some]
    unfold placeOf
    rw [if_pos hc, if_pos ht.1, if_pos ht.2]
  · rw [if_neg hc, if_neg hc]
/-! ### slots, each once -/
theorem addU_mem (out : List Int) (x y : Int) : y ∈ addU out x ↔ y ∈ out ∨ y = x := by
  unfold addU
  by_cases hc : out.contains x = true
  · rw [if_pos hc]
    constructor
    · exact .inl
    · rintro (h | rfl)
      · exact h
      · simpa using hc
  · rw [if_neg hc, List.mem_append, List.mem_singleton]
theorem fold_mem (l : List Int) : ∀ (out : List Int) (y : Int), y ∈ l.foldl addU out ↔ y ∈ out ∨ y ∈ l := by
  induction l with
  | nil => intro out y; simp
  | cons x r ih =>
    intro out y
    rw [List.foldl_cons, ih, addU_mem, List.mem_cons, or_assoc]
theorem contains_take (l : List Int) (i : Nat) (x : Int) : (met l i).contains x = (l.take i).contains x := by
  rw [Bool.eq_iff_iff, List.contains_iff_mem, List.contains_iff_mem]
  unfold met
  rw [fold_mem]
  simp
theorem ids_l1 (d : Int) (l : List Int) (hl : l.length ≤ 1000) (out : List Int) (i : Nat) (hi : i < l.length) (n : Nat) : ∀ (k j : Nat), j + n = i →
    intarsiaref11_IDs.l1 (k + n + 1) out (i : Int) ((l.take j).contains l[i]) (j : Int) d l = intarsiaref11_IDs.l1 (k + 1) out (i : Int) ((l.take i).contains l[i]) (i : Int) d l := by
  induction n with
  | zero => intro k j hj; rw [show j = i by omega, Nat.add_zero]
  | succ n ih =>
    intro k j hj
    have hlt : j < l.length := by omega
    have e : (l.take (j + 1)).contains l[i] = ((l.take j).contains l[i] || l[j] == l[i]) := by
      rw [List.take_succ_eq_append_getElem hlt, Bool.eq_iff_iff, List.contains_iff_mem, Bool.or_eq_true, List.contains_iff_mem, List.mem_append, List.mem_singleton, beq_iff_eq]
      exact or_congr Iff.rfl eq_comm
    have h := ih k (j + 1) (by omega)
    rw [e] at h
    rw [show k + (n + 1) + 1 = (k + n + 1) + 1 from rfl, intarsiaref11_IDs.l1, if_pos (by omega), wrap_id (by omega) (by omega)]
    by_cases hb : (l.take j).contains l[i] = true
    · rw [hb] at h ⊢
      rw [if_pos rfl]
      exact h
    · have hb' : (l.take j).contains l[i] = false := by simpa using hb
      rw [hb'] at h ⊢
      rw [if_neg (by decide), if_pos (by omega), if_pos (by omega), if_pos (by omega), if_pos (by omega), rd_lt l j hlt, rd_lt l i hi]
      exact h
theorem ids_l0 (d : Int) (l : List Int) (hl : l.length ≤ 1000) (m : Nat) : ∀ (k i : Nat), i + m = l.length →
    intarsiaref11_IDs.l0 (k + m * (l.length + 3) + 1) (met l i) (i : Int) d l = some (met l l.length) := by
  induction m with
  | zero =>
    intro k i hi
    rw [Nat.zero_mul, Nat.add_zero, intarsiaref11_IDs.l0, if_neg (by omega), show i = l.length by omega]
  | succ m ih =>
    intro k i hi
    have hlt : i < l.length := by omega
    have e : k + (m + 1) * (l.length + 3) + 1 = (((k + (l.length + 1 - i)) + m * (l.length + 3) + 1) + i + 1) + 1 := by
      rw [Nat.succ_mul]; omega
    have h := ih (k + (l.length + 1 - i)) (i + 1) (by omega)
    have h1 := ids_l1 d l hl (met l i) i hlt i (k + (l.length + 1 - i) + m * (l.length + 3) + 1) 0 (by omega)
    rw [show (l.take 0).contains l[i] = false by simp] at h1
    have hml := met_le l i (by omega)
    rw [e, intarsiaref11_IDs.l0, if_pos (by omega)]
    refine Eq.trans h1 ?_
    rw [intarsiaref11_IDs.l1, if_neg (by omega), wrap_id (by omega) (by omega)]
    rw [met_succ l i hlt] at h
    unfold addU at h
    rw [contains_take] at h
    by_cases hb : (l.take i).contains l[i] = true
    · rw [if_pos hb] at h ⊢
      exact h
    · rw [if_neg hb] at h ⊢
      rw [if_pos (by omega), if_pos (by omega), if_pos (by omega), rd_lt l i hlt]
      exact h
theorem rids_is (d : Int) (l : List Int) (hl : l.length ≤ 1000) (k : Nat) (hk : l.length * (l.length + 3) + 1 ≤ k) : intarsiaref11_IDs.f k d l = some (met l l.length) := by
  obtain ⟨j, rfl⟩ : ∃ j, k = j + l.length * (l.length + 3) + 1 := ⟨k - (l.length * (l.length + 3) + 1), by omega⟩
  exact ids_l0 d l hl l.length j 0 (by omega)
theorem same_l (l : List Int) (hl : l.length ≤ 1000000) (m : Nat) : ∀ (k i : Nat), i + m = l.length → intarsialaw11_sameInts.l0 (k + m + 1) l l (i : Int) = some true := by
  induction m with
  | zero => intro k i hi; rw [intarsialaw11_sameInts.l0, if_neg (by omega)]
  | succ m ih =>
    intro k i hi
    rw [show k + (m + 1) + 1 = (k + m + 1) + 1 from rfl, intarsialaw11_sameInts.l0, if_pos (by omega), if_pos (by omega), if_pos (by omega), if_pos rfl, wrap_id (by omega) (by omega)]
    exact ih k (i + 1) (by omega)
theorem same_ints (l : List Int) (hl : l.length ≤ 1000000) (k : Nat) (hk : l.length < k) : intarsialaw11_sameInts.f k l l = some true := by
  obtain ⟨j, rfl⟩ : ∃ j, k = j + l.length + 1 := ⟨k - l.length - 1, by omega⟩
  unfold intarsialaw11_sameInts.f
  rw [if_pos rfl]
  exact same_l l hl l.length j 0 (by omega)
/-! ### the same directory -/
theorem both_same_l (d : Int) (l : List Int) (d' : Int) (l' : List Int) (hlen : l.length = l'.length) (hl : l.length ≤ 1000) (m : Nat) : ∀ (k k' i : Nat), i + m = l.length →
    ∃ b, slices_Equal_int_int.l0 (k + m + 1) l l' (l.length : Int) (i : Int) = some b ∧ intarsiaref11_Same.l0 (k' + m + 1) (i : Int) d l d' l' = some b := by
  induction m with
  | zero =>
    intro k k' i hi
    refine ⟨true, ?_, ?_⟩
    · rw [slices_Equal_int_int.l0, if_neg (by omega)]
    · rw [intarsiaref11_Same.l0, if_neg (by omega)]
  | succ m ih =>
    intro k k' i hi
    by_cases he : rd l (i : Int) = rd l' (i : Int)
    · obtain ⟨b, e1, e2⟩ := ih k k' (i + 1) (by omega)
      refine ⟨b, ?_, ?_⟩
      · rw [show k + (m + 1) + 1 = (k + m + 1) + 1 from rfl, slices_Equal_int_int.l0, if_pos (by omega), if_pos (by omega), if_pos (by omega), if_pos (by omega), if_pos he, wrap_id (by omega) (by omega)]
        exact e1
      · rw [show k' + (m + 1) + 1 = (k' + m + 1) + 1 from rfl, intarsiaref11_Same.l0, if_pos (by omega), if_pos (by omega), if_pos (by omega), if_pos he, wrap_id (by omega) (by omega)]
        exact e2
    · refine ⟨false, ?_, ?_⟩
      · rw [show k + (m + 1) + 1 = (k + m + 1) + 1 from rfl, slices_Equal_int_int.l0, if_pos (by omega), if_pos (by omega), if_pos (by omega), if_pos (by omega), if_neg he]
      · rw [show k' + (m + 1) + 1 = (k' + m + 1) + 1 from rfl, intarsiaref11_Same.l0, if_pos (by omega), if_pos (by omega), if_pos (by omega), if_neg he]
theorem both_same (d : Int) (l : List Int) (d' : Int) (l' : List Int) (hl : l.length ≤ 1000) (k : Nat) (hk : 2000 ≤ k) : ∃ b, dir_Same.f k d l d' l' = some b ∧ intarsiaref11_Same.f k d l d' l' = some b := by
  obtain ⟨j, rfl⟩ : ∃ j, k = (j + l.length + 1) + 1 := ⟨k - l.length - 2, by omega⟩
  unfold dir_Same.f slices_Equal_int_int.f intarsiaref11_Same.f
  by_cases h1 : d = d'
  · rw [if_pos h1, if_pos h1, intarsiaref11_Same.j0]
    by_cases h2 : l.length = l'.length
    · obtain ⟨b, e1, e2⟩ := both_same_l d l d' l' h2 hl l.length (j + 1) j 0 (by omega)
      rw [if_pos (by omega), if_neg (by simp [h2])]
      rw [show j + 1 + l.length + 1 = j + l.length + 1 + 1 by omega] at e1
      exact ⟨b, by rw [show slices_Equal_int_int.l0 (j + l.length + 1 + 1) l l' (l.length : Int) 0 = some b from e1]; rfl, e2⟩
    · rw [if_neg (by omega), if_pos (by simp; omega)]
      exact ⟨false, rfl, rfl⟩
  · rw [if_neg h1, if_neg h1, intarsiaref11_Same.j0, if_pos rfl]
    exact ⟨false, rfl, rfl⟩
theorem looks (s : ByteArray) (d d' : Int) (l l' : List Int) (hw : ∀ x ∈ l, (Lit.int .i64 x).wf = true) (_hw' : ∀ x ∈ l', (Lit.int .i64 x).wf = true) : ∃ k, intarsialaw11_DirLooks.f k d l d' l' s = some true := by
  refine ⟨200001, ?_⟩
  have hj : ∀ x, intarsialaw11_DirLooks.j0 200001 s true x l d' l' = some true := by
    intro x
    rw [intarsialaw11_DirLooks.j0, if_pos rfl]
    rfl
  unfold intarsialaw11_DirLooks.f
  by_cases h1 : (l.length : Int) > 300
  · rw [if_pos h1]
    exact hj d
  · rw [if_neg h1]
    by_cases h2 : (l'.length : Int) > 300
    · rw [if_pos h2]
      exact hj d
    · rw [if_neg h2]
      by_cases h3 : (s.size : Int) > 300
      · rw [decide_eq_true h3]
        exact hj d
      · rw [decide_eq_false h3, intarsialaw11_DirLooks.j0, if_neg (by decide)]
        obtain ⟨h, hh, hof⟩ := of_is s (by omega)
        have hids : dir_IDs.f d l = some (met l l.length) := by
          unfold dir_IDs.f
          rw [if_pos ⟨hw, by omega⟩]
        have hml := met_le l l.length (Nat.le_refl _)
        have hk : l.length * (l.length + 3) ≤ 300 * 303 := Nat.mul_le_mul (by omega) (by omega)
        obtain ⟨b, e1, e2⟩ := both_same d l d' l' (by omega) 200000 (by decide)
        rw [put_is d l (by omega) _ (by omega), Option.bind_some, rput_is d l (by omega) _ (by omega), Option.bind_some, check_is, Option.bind_some, rcheck_is d l (by omega) _ (by omega), Option.bind_some, if_pos rfl,
          at_is s h hh hof _ (by omega), Option.bind_some, rat_is s (by omega) h hh hof d l (by omega) _ (by omega), Option.bind_some, if_pos rfl,
          place_is s h hh hof _ (by omega), Option.bind_some, rplace_is s (by omega) h hh hof d l (by omega) _ (by omega), Option.bind_some, if_pos rfl,
          hids, Option.bind_some, rids_is d l (by omega) _ (by omega), Option.bind_some, same_ints _ (by omega) _ (by omega), Option.bind_some, if_pos rfl, if_pos rfl, if_pos rfl, e1, Option.bind_some, e2, Option.bind_some, if_pos (by simp)]
        rfl
end Go.Proofs.Ytiapecjiedhaoaa.Dirs
