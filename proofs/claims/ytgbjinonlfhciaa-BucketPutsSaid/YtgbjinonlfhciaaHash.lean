/- Hashes and their bits: the code's are the reference's; what Light, Split and SamePairs tell. -/
import Derived.Test.YtgbjinonlfhciaaHandE12
import Derived.Test.YtgbjinonlfhciaaMBkx5
namespace Go.Proofs.Ytgbjinonlfhciaa.BkV
open Go.RowKit Go.Proofs.Ytgbjinonlfhciaa.MBk Go.Proofs.YtgbjinonlfhciaaW.PrintWords Go.Proofs.YtgbjinonlfhciaaW.PrintLast
set_option linter.unusedVariables false
def In32 (h : Int) : Prop := 0 ≤ h ∧ h < 4294967296
theorem xor_in (a b : Int) : In32 (Go.bits .xor .u32 a b) := by
  unfold Go.bits In32
  rw [IntKind.wrap_u32]
  omega
theorem of_l (s : ByteArray) (hs : s.size ≤ 1000) (d : Nat) : ∀ (i : Nat) (x : Int), i + d = s.size → ∃ h, In32 h ∧ ∀ k, mix_Of.l0 (k + d + 1) s x (s.size : Int) (i : Int) = some h := by
  induction d with
  | zero =>
    intro i x hi
    exact ⟨_, xor_in _ _, fun k => by rw [mix_Of.l0, if_neg (by omega)]⟩
  | succ d ih =>
    intro i x hi
    obtain ⟨h, hh, hk⟩ := ih (i + 1) _ (by omega)
    refine ⟨h, hh, fun k => ?_⟩
    rw [show k + (d + 1) + 1 = (k + d + 1) + 1 from rfl, mix_Of.l0, if_pos (by omega), if_pos (by omega), if_pos (by omega), wrap_id (by omega) (by omega)]
    exact hk k
theorem of_is (s : ByteArray) (hs : s.size ≤ 1000) : ∃ h, In32 h ∧ ∀ k, s.size < k → mix_Of.f k s = some h := by
  obtain ⟨h, hh, hk⟩ := of_l s hs s.size 0 2166136261 (by omega)
  refine ⟨h, hh, fun k hlt => ?_⟩
  unfold mix_Of.f
  obtain ⟨j, rfl⟩ : ∃ j, k = j + s.size + 1 := ⟨k - s.size - 1, by omega⟩
  exact hk j
theorem xor_nat (k : IntKind) (a b : Nat) (ha : a < 2 ^ k.bits) (hb : b < 2 ^ k.bits) : Go.bits .xor k (a : Int) (b : Int) = k.wrap ((a ^^^ b : Nat) : Int) := by
  have ha' : a % 2 ^ k.bits = a := Nat.mod_eq_of_lt ha
  have hb' : b % 2 ^ k.bits = b := Nat.mod_eq_of_lt hb
  simp only [Go.bits, BitVec.ofInt_natCast, BitVec.toNat_xor, BitVec.toNat_ofNat, ha', hb']

theorem xor32_nat (a b : Nat) (ha : a < 4294967296) (hb : b < 4294967296) : Go.bits .xor .u32 (a : Int) (b : Int) = ((a ^^^ b : Nat) : Int) := by
  have hx : a ^^^ b < 2 ^ 32 := Nat.xor_lt_two_pow (by simpa using ha) (by simpa using hb)
  rw [xor_nat .u32 a b ha hb, IntKind.wrap_u32]
  omega

theorem wrap_u64_small (n : Int) (h0 : 0 ≤ n) (h1 : n < 18446744073709551616) : IntKind.u64.wrap n = n := by
  rw [IntKind.wrap_u64]; omega

theorem xor64_nat (a b : Nat) (ha : a < 4294967296) (hb : b < 4294967296) : Go.bits .xor .u64 (a : Int) (b : Int) = ((a ^^^ b : Nat) : Int) := by
  have hx : a ^^^ b < 2 ^ 32 := Nat.xor_lt_two_pow (by simpa using ha) (by simpa using hb)
  rw [xor_nat .u64 a b (Nat.lt_trans ha (by decide)) (Nat.lt_trans hb (by decide)), wrap_u64_small _ (by omega) (by omega)]

theorem xor_both (x y : Int) (hx0 : 0 ≤ x) (hx : x < 4294967296) (hy0 : 0 ≤ y) (hy : y < 4294967296) :
    Go.bits .xor .u64 x y = Go.bits .xor .u32 x y ∧ 0 ≤ Go.bits .xor .u32 x y ∧ Go.bits .xor .u32 x y < 4294967296 := by
  obtain ⟨a, rfl⟩ := Int.eq_ofNat_of_zero_le hx0
  obtain ⟨b, rfl⟩ := Int.eq_ofNat_of_zero_le hy0
  have hab : a ^^^ b < 2 ^ 32 := Nat.xor_lt_two_pow (by omega) (by omega)
  rw [xor32_nat a b (by omega) (by omega), xor64_nat a b (by omega) (by omega)]
  omega

theorem times_is (x c : Int) (hx0 : 0 ≤ x) (hx : x < 4294967296) (hc0 : 0 ≤ c) (hc : c < 4294967296) :
    intarsiaref09_times.f x c = some (x * c % 4294967296) := by
  unfold intarsiaref09_times.f
  have h1 : 0 ≤ x * c := Int.mul_nonneg hx0 hc0
  have h2 : x * c ≤ 4294967295 * 4294967295 := Int.mul_le_mul (by omega) (by omega) hc0 (by decide)
  rw [wrap_u64_small _ h1 (by omega), Int.tmod_eq_emod_of_nonneg h1]

theorem tdiv_small (x c : Int) (hx0 : 0 ≤ x) (hx : x < 4294967296) (hc : 1 ≤ c) :
    IntKind.u64.wrap (Int.tdiv x c) = x / c ∧ 0 ≤ x / c ∧ x / c < 4294967296 := by
  have h0 : 0 ≤ x / c := Int.ediv_nonneg hx0 (by omega)
  have h1 : x / c ≤ x := Int.ediv_le_self _ hx0
  rw [Int.tdiv_eq_ediv_of_nonneg hx0, wrap_u64_small _ h0 (by omega)]
  omega

theorem both_of (s : ByteArray) (hn : s.size ≤ 140737488351232) (d : Nat) : ∀ (k : Nat) (x i : Int), 0 ≤ x → x < 4294967296 → 0 ≤ i → (s.size : Int) - i = d → d < k →
    ∃ r, mix_Of.l0 k s x (s.size : Int) i = some r ∧ intarsiaref09_Of.l0 k s x i = some r := by
  induction d with
  | zero =>
    intro k x i hx0 hx hi hd hk
    obtain ⟨k, rfl⟩ : ∃ m, k = m + 1 := ⟨k - 1, by omega⟩
    simp only [mix_Of.l0, intarsiaref09_Of.l0]
    rw [if_neg (by omega)]
    rw [if_neg (by omega)]
    obtain ⟨e1, d0, d1⟩ := tdiv_small x 65536 hx0 hx (by decide)
    obtain ⟨f1, f2, f3⟩ := xor_both x (x / 65536) hx0 hx d0 d1
    rw [e1, f1, times_is _ _ f2 f3 (by decide) (by decide)]
    rw [Option.bind_some]
    generalize hb_y : (Go.bits BinOp.xor IntKind.u32 x (x / 65536) * 2246822507) % 4294967296 = y
    have y0 : 0 ≤ y := hb_y ▸ Int.emod_nonneg _ (by decide)
    have y1 : y < 4294967296 := hb_y ▸ Int.emod_lt_of_pos _ (by decide)
    obtain ⟨e2, d2, d3⟩ := tdiv_small y 8192 y0 y1 (by decide)
    obtain ⟨g1, g2, g3⟩ := xor_both y (y / 8192) y0 y1 d2 d3
    rw [e2, g1, times_is _ _ g2 g3 (by decide) (by decide)]
    rw [Option.bind_some]
    generalize hb_z : (Go.bits BinOp.xor IntKind.u32 y (y / 8192) * 3266489909) % 4294967296 = z
    have z0 : 0 ≤ z := hb_z ▸ Int.emod_nonneg _ (by decide)
    have z1 : z < 4294967296 := hb_z ▸ Int.emod_lt_of_pos _ (by decide)
    obtain ⟨e3, d4, d5⟩ := tdiv_small z 65536 z0 z1 (by decide)
    obtain ⟨j1, j2, j3⟩ := xor_both z (z / 65536) z0 z1 d4 d5
    rw [e3, j1]
    exact ⟨_, rfl, by rw [Int.emod_eq_of_lt j2 j3]⟩
  | succ d ih =>
    intro k x i hx0 hx hi hd hk
    obtain ⟨k, rfl⟩ : ∃ m, k = m + 1 := ⟨k - 1, by omega⟩
    have hlt : i < (s.size : Int) := by omega
    have hb := bt_range s i
    have e1 : bt s i % 4294967296 = bt s i := by omega
    have e2 : IntKind.u64.wrap (bt s i) = bt s i := wrap_u64_small _ hb.1 (by omega)
    obtain ⟨f1, f2, f3⟩ := xor_both x (bt s i) hx0 hx hb.1 (by omega)
    have ew : wrap64 (i + 1) = i + 1 := by unfold wrap64; omega
    simp only [mix_Of.l0, intarsiaref09_Of.l0]
    rw [if_pos hlt, if_pos hi, if_pos hlt, if_pos hlt, if_pos hi, e1, e2, f1, times_is _ _ f2 f3 (by decide) (by decide), ew]
    rw [Option.bind_some]
    exact ih k _ (i + 1) (Int.emod_nonneg _ (by decide)) (Int.emod_lt_of_pos _ (by decide)) (by omega) (by omega) (by omega)

theorem div_cast (n d : Nat) : (n : Int) / 2 ^ d = ((n / 2 ^ d : Nat) : Int) := by
  rw [Int.natCast_ediv, Int.natCast_pow]; rfl

theorem and_one (n : Nat) (h : n < 4294967296) : Go.bits .and .u32 (n : Int) 1 = ((n % 2 : Nat) : Int) := by
  have := (Go.bits_nat .u32 32 (by decide) (fun m h0 h1 => by rw [IntKind.wrap_u32]; omega) n 1 (by omega) (by decide)).1
  rw [show (1 : Int) = ((1 : Nat) : Int) from rfl, this, Nat.and_one_is_mod]

theorem mixbit_is (n : Nat) (hn : n < 4294967296) (a : Nat) (ha : a < 32) :
    mix_Bit.f (n : Int) (a : Int) = some ((n / 2 ^ (31 - a) % 2 : Nat) : Int) := by
  unfold mix_Bit.f
  have e1 : wrap64 (31 - (a : Int)) = ((31 - a : Nat) : Int) := by unfold wrap64; omega
  have h2 : n / 2 ^ (31 - a) ≤ n := Nat.div_le_self _ _
  rw [if_neg (by omega), if_neg (by omega), e1, if_pos (by omega)]
  unfold shr
  rw [show (((31 - a : Nat) : Int)).toNat = 31 - a by omega, Nat.min_eq_left (by show 31 - a ≤ 32; omega), div_cast]
  generalize n / 2 ^ (31 - a) = q at *
  rw [and_one _ (by omega), show wrap64 ((q % 2 : Nat) : Int) = ((q % 2 : Nat) : Int) by unfold wrap64; omega]

theorem refbit_loop (d : Nat) : ∀ (k : Nat) (n : Nat) (i : Int), n < 4294967296 → 31 - i = d → d < 40 → d < k →
    intarsiaref09_Bit.l0 k (n : Int) i = some ((n / 2 ^ d % 2 : Nat) : Int) := by
  induction d with
  | zero =>
    intro k n i hn hd _ hk
    obtain ⟨k, rfl⟩ : ∃ m, k = m + 1 := ⟨k - 1, by omega⟩
    simp only [intarsiaref09_Bit.l0]
    rw [if_neg (by omega), Int.tmod_eq_emod_of_nonneg (by omega), Nat.pow_zero, Nat.div_one]
    rw [show wrap64 ((n : Int) % 2) = ((n % 2 : Nat) : Int) by unfold wrap64; omega]
  | succ d ih =>
    intro k n i hn hd h4 hk
    obtain ⟨k, rfl⟩ : ∃ m, k = m + 1 := ⟨k - 1, by omega⟩
    simp only [intarsiaref09_Bit.l0]
    rw [if_pos (by omega), Int.tdiv_eq_ediv_of_nonneg (by omega)]
    rw [show ((n : Int) / 2) % 4294967296 = ((n / 2 : Nat) : Int) by omega, show wrap64 (i + 1) = i + 1 by unfold wrap64; omega]
    rw [ih k (n / 2) (i + 1) (by omega) (by omega) (by omega) (by omega), Nat.div_div_eq_div_mul, Nat.pow_succ, Nat.mul_comm 2]

theorem refbit_in (k n a : Nat) (hn : n < 4294967296) (ha : a < 32) (hk : 40 ≤ k) : intarsiaref09_Bit.f k (n : Int) (a : Int) = some ((n / 2 ^ (31 - a) % 2 : Nat) : Int) := by
  unfold intarsiaref09_Bit.f
  obtain ⟨k, rfl⟩ : ∃ m, k = m + 1 := ⟨k - 1, by omega⟩
  rw [if_neg (by omega), show decide ((a : Int) > 31) = false from decide_eq_false (by omega)]
  simp only [intarsiaref09_Bit.j0]
  rw [if_neg (by decide), refbit_loop (31 - a) k n a hn (by omega) (by omega) (by omega)]

theorem bit_same (k n : Nat) (a : Int) (hn : n < 4294967296) (hk : 40 ≤ k) : ∃ r, mix_Bit.f (n : Int) a = some r ∧ intarsiaref09_Bit.f k (n : Int) a = some r := by
  by_cases h0 : a < 0
  · refine ⟨0, by unfold mix_Bit.f; rw [if_pos h0], ?_⟩
    unfold intarsiaref09_Bit.f
    obtain ⟨k, rfl⟩ : ∃ m, k = m + 1 := ⟨k - 1, by omega⟩
    rw [if_pos h0]
    simp only [intarsiaref09_Bit.j0, if_true]
  · by_cases h1 : a ≥ 32
    · refine ⟨0, by unfold mix_Bit.f; rw [if_neg h0, if_pos h1], ?_⟩
      unfold intarsiaref09_Bit.f
      obtain ⟨k, rfl⟩ : ∃ m, k = m + 1 := ⟨k - 1, by omega⟩
      rw [if_neg h0, show decide (a > 31) = true from decide_eq_true (by omega)]
      simp only [intarsiaref09_Bit.j0, if_true]
    · obtain ⟨b, rfl⟩ : ∃ b : Nat, a = b := ⟨a.toNat, by omega⟩
      exact ⟨_, mixbit_is n hn b (by omega), refbit_in k n b hn (by omega) hk⟩

theorem rof_is (s : ByteArray) (hs : s.size ≤ 1000) (h : Int) (hof : ∀ k, s.size < k → mix_Of.f k s = some h) (k : Nat) (hk : s.size < k) : intarsiaref09_Of.f k s = some h := by
  obtain ⟨r, h1, h2⟩ := both_of s (by omega) s.size k 2166136261 0 (by decide) (by decide) (by decide) (by omega) hk
  have e := hof k hk
  unfold mix_Of.f at e
  rw [h1] at e
  unfold intarsiaref09_Of.f
  rw [h2, e]
theorem both_split (l : List S27) (a : Int) (hl : l.length ≤ 1000) (hs : ∀ x ∈ l, x.f0.size ≤ 1000) (d : Nat) : ∀ (k i : Nat) (p q : List S27), i + d = l.length → p.length ≤ i → q.length ≤ i → 2000 + d < k →
    ∃ r, bucket_Split.l0 k a p q l (l.length : Int) (i : Int) = some r ∧ intarsiaref10_Split.l0 k l a p q (i : Int) = some r ∧ r.1.length ≤ l.length ∧ r.2.length ≤ l.length := by
  induction d with
  | zero =>
    intro k i p q hi hp hq hk
    obtain ⟨k, rfl⟩ : ∃ m, k = m + 1 := ⟨k - 1, by omega⟩
    rw [bucket_Split.l0, if_neg (by omega), intarsiaref10_Split.l0, if_neg (by omega)]
    exact ⟨(p, q), rfl, rfl, (by omega : p.length ≤ _), (by omega : q.length ≤ _)⟩
  | succ d ih =>
    intro k i p q hi hp hq hk
    obtain ⟨k, rfl⟩ : ∃ m, k = m + 1 := ⟨k - 1, by omega⟩
    have hlt : i < l.length := by omega
    have hsz := hs l[i] (List.getElem_mem _)
    obtain ⟨h, hh, hof⟩ := of_is l[i].f0 hsz
    have h1 := hof k (by omega)
    have h2 := rof_is l[i].f0 hsz h hof k (by omega)
    obtain ⟨n, rfl⟩ := Int.eq_ofNat_of_zero_le hh.1
    obtain ⟨b, hb1, hb2⟩ := bit_same k n a (by have := hh.2; omega) (by omega)
    rw [bucket_Split.l0, if_pos (by omega), if_pos (by omega), if_pos (by omega), intarsiaref10_Split.l0, if_pos (by omega), if_pos (by omega), rd27 l i hlt, h1, Option.bind_some, hb1, Option.bind_some, h2, Option.bind_some, hb2, Option.bind_some, add1 (by omega)]
    by_cases hb : b = 0
    · have hpl : p.length < 4398046511104 := by omega
      simp only [if_pos hb, if_pos hpl, if_pos (show (i : Int) < (l.length : Int) by omega), if_pos (show 0 ≤ (i : Int) by omega)]
      exact ih k (i + 1) (p ++ [⟨l[i].f0, l[i].f1⟩]) q (by omega) (by rw [List.length_append, List.length_singleton]; omega) (by omega) (by omega)
    · have hpl : q.length < 4398046511104 := by omega
      simp only [if_neg hb, if_pos hpl, if_pos (show (i : Int) < (l.length : Int) by omega), if_pos (show 0 ≤ (i : Int) by omega)]
      exact ih k (i + 1) p (q ++ [⟨l[i].f0, l[i].f1⟩]) (by omega) (by omega) (by rw [List.length_append, List.length_singleton]; omega) (by omega)
theorem split_same (l : List S27) (a : Int) (hl : l.length ≤ 1000) (hs : ∀ x ∈ l, x.f0.size ≤ 1000) : ∃ r1 r2, bucket_Split.f 4000 l a = some (r1, r2) ∧ intarsiaref10_Split.f 4000 l a = some (r1, r2) ∧ r1.length ≤ 1000 ∧ r2.length ≤ 1000 := by
  obtain ⟨⟨r1, r2⟩, h1, h2, h3, h4⟩ := both_split l a hl hs l.length 4000 0 [] [] (by omega) (by simp) (by simp) (by omega)
  exact ⟨r1, r2, h1, h2, Nat.le_trans h3 hl, Nat.le_trans h4 hl⟩
theorem rsame_l (a b : List S27) (hab : a.length = b.length) (hl : a.length ≤ 1000) (d : Nat) : ∀ (k j : Nat), j + d = a.length → intarsiaref10_SamePairs.l0 (k + d + 1) a b (j : Int) = some (samesT (a.drop j) (b.drop j)) := by
  induction d with
  | zero =>
    intro k j hj
    rw [intarsiaref10_SamePairs.l0, if_neg (by omega), List.drop_of_length_le (by omega), List.drop_of_length_le (by omega)]
    rfl
  | succ d ih =>
    intro k j hj
    have h1 : j < a.length := by omega
    have h2 : j < b.length := by omega
    rw [show k + (d + 1) + 1 = (k + d + 1) + 1 by omega, intarsiaref10_SamePairs.l0, if_pos (by omega), if_pos (by omega), if_pos (by omega), rd27 a j h1, rd27 b j h2, add1 (by omega), List.drop_eq_getElem_cons h1, List.drop_eq_getElem_cons h2, samesT]
    by_cases he : eqT a[j] b[j] = true
    · rw [he, Bool.true_and, ← ih k (j + 1) (by omega)]
      unfold eqT at he
      rw [if_neg (by rw [← Bool.not_and, he]; decide)]
    · have he2 := Bool.eq_false_iff.mpr he
      rw [he2, Bool.false_and]
      unfold eqT at he2
      rw [if_pos (by rw [← Bool.not_and, he2]; rfl)]
theorem rsame_is (a b : List S27) (hl : a.length ≤ 1000) : intarsiaref10_SamePairs.f 1001 a b = some (samesT a b) := by
  unfold intarsiaref10_SamePairs.f
  by_cases h3 : a.length = b.length
  · rw [if_pos (by omega)]
    have := rsame_l a b h3 hl a.length (1000 - a.length) 0 (by omega)
    rw [show 1000 - a.length + a.length + 1 = 1001 by omega, List.drop_zero, List.drop_zero] at this
    exact this
  · rw [if_neg (by omega)]
    congr 1
    cases hs : samesT a b with
    | false => rfl
    | true => exact absurd (by rw [sames_iff.mp hs]) h3
def Slim (x : S27) : Prop := x.f0.size ≤ 300 ∧ x.f1.size ≤ 300
theorem light_l (l : List S27) (hl : l.length ≤ 100) (d : Nat) : ∀ (k j : Nat), j + d = l.length → ∃ r, intarsiaref10_Light.l0 (k + d + 1) l (j : Int) = some r ∧ (r = true → ∀ x ∈ l.drop j, Slim x) := by
  induction d with
  | zero =>
    intro k j hj
    rw [intarsiaref10_Light.l0, if_neg (by omega), List.drop_of_length_le (by omega)]
    exact ⟨true, rfl, fun _ x hx => by simp at hx⟩
  | succ d ih =>
    intro k j hj
    have h1 : j < l.length := by omega
    rw [show k + (d + 1) + 1 = (k + d + 1) + 1 by omega, intarsiaref10_Light.l0, if_pos (by omega), if_pos (by omega), rd27 l j h1, add1 (by omega), List.drop_eq_getElem_cons h1]
    by_cases h2 : (l[j].f0.size : Int) > 300
    · rw [if_pos h2]
      exact ⟨false, rfl, fun h => by cases h⟩
    · rw [if_neg h2]
      by_cases h3 : (l[j].f1.size : Int) > 300
      · rw [if_pos h3]
        exact ⟨false, rfl, fun h => by cases h⟩
      · rw [if_neg h3]
        obtain ⟨r, hr, ht⟩ := ih k (j + 1) (by omega)
        refine ⟨r, hr, fun h x hx => ?_⟩
        rcases List.mem_cons.mp hx with rfl | hx
        · exact ⟨by omega, by omega⟩
        · exact ht h x hx
theorem light_is (l : List S27) (n : Nat) (hn : n ≤ 100) : ∃ r, intarsiaref10_Light.f 1001 l (n : Int) = some r ∧ (r = true → l.length ≤ n ∧ ∀ x ∈ l, Slim x) := by
  unfold intarsiaref10_Light.f
  by_cases h : (l.length : Int) > n
  · rw [if_pos h]
    exact ⟨false, rfl, fun h => by cases h⟩
  · rw [if_neg h]
    obtain ⟨r, hr, ht⟩ := light_l l (by omega) l.length (1000 - l.length) 0 (by omega)
    rw [show 1000 - l.length + l.length + 1 = 1001 by omega] at hr
    exact ⟨r, hr, fun h => ⟨by omega, ht h⟩⟩
theorem few_of {l : List S27} {n : Nat} (hn : n ≤ 100) (h : l.length ≤ n ∧ ∀ x ∈ l, Slim x) : FewP l := ⟨by omega, fun x hx => ⟨by have := (h.2 x hx).1; omega, by have := (h.2 x hx).2; omega⟩⟩
theorem rless_is (x y : S27) : intarsiaref10_Less.f x.f0 x.f1 y.f0 y.f1 = some (lessT x y) := by
  unfold intarsiaref10_Less.f lessT
  by_cases h : Op.bytesLess x.f0.toList y.f0.toList = true
  · rw [if_pos h, h, Bool.true_or]
  · rw [if_neg h, Bool.eq_false_iff.mpr h, Bool.false_or]
    by_cases h2 : x.f0.toList = y.f0.toList
    · rw [if_pos h2, decide_eq_true h2, Bool.true_and]
    · rw [if_neg h2, decide_eq_false h2, Bool.false_and]
end Go.Proofs.Ytgbjinonlfhciaa.BkV
