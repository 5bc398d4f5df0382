/- Statement MixOfs: for every key the program's mix.Of gives the bits that the reference gives. Condition: none beyond the form's own reach. -/
import Derived.Test.YtoklhnncdpoljaaMMixOfsx1
namespace Go.Proofs.Ytoklhnncdpoljaa.Pure
open Go.RowKit Go.Proofs.Ytoklhnncdpoljaa.MMixOfs Go.Proofs.YtoklhnncdpoljaaW.PrintWords Go.Proofs.YtoklhnncdpoljaaW.PrintLast

theorem xor_nat (k : IntKind) (a b : Nat) (ha : a < 2 ^ k.bits) (hb : b < 2 ^ k.bits) : Go.bits .xor k (a : Int) (b : Int) = k.wrap ((a ^^^ b : Nat) : Int) := by
  have ha' : a % 2 ^ k.bits = a := Nat.mod_eq_of_lt ha
  have hb' : b % 2 ^ k.bits = b := Nat.mod_eq_of_lt hb
  simp only [Go.bits, BitVec.ofInt_natCast, BitVec.toNat_xor, BitVec.toNat_ofNat, ha', hb']

theorem xor32_nat (a b : Nat) (ha : a < 4294967296) (hb : b < 4294967296) : Go.bits .xor .u32 (a : Int) (b : Int) = ((a ^^^ b : Nat) : Int) := by
  have hx : a ^^^ b < 2 ^ 32 := Nat.xor_lt_two_pow (by simpa using ha) (by simpa using hb)
  rw [xor_nat .u32 a b ha hb, IntKind.wrap_u32]
  omega

theorem wrap_u64_small (n : Int) (h0 : 0 ≤ n) (h1 : n < 18446744073709551616) : IntKind.u64.wrap n = n := by
  rw [IntKind.wrap_u64]; omega

theorem xor64_nat (a b : Nat) (ha : a < 4294967296) (hb : b < 4294967296) : Go.bits .xor .u64 (a : Int) (b : Int) = ((a ^^^ b : Nat) : Int) := by
  have hx : a ^^^ b < 2 ^ 32 := Nat.xor_lt_two_pow (by simpa using ha) (by simpa using hb)
  rw [xor_nat .u64 a b (Nat.lt_trans ha (by decide)) (Nat.lt_trans hb (by decide)), wrap_u64_small _ (by omega) (by omega)]

theorem xor_both (x y : Int) (hx0 : 0 ≤ x) (hx : x < 4294967296) (hy0 : 0 ≤ y) (hy : y < 4294967296) :
    Go.bits .xor .u64 x y = Go.bits .xor .u32 x y ∧ 0 ≤ Go.bits .xor .u32 x y ∧ Go.bits .xor .u32 x y < 4294967296 := by
  obtain ⟨a, rfl⟩ := Int.eq_ofNat_of_zero_le hx0
  obtain ⟨b, rfl⟩ := Int.eq_ofNat_of_zero_le hy0
  have hab : a ^^^ b < 2 ^ 32 := Nat.xor_lt_two_pow (by omega) (by omega)
  rw [xor32_nat a b (by omega) (by omega), xor64_nat a b (by omega) (by omega)]
  omega

theorem times_is (x c : Int) (hx0 : 0 ≤ x) (hx : x < 4294967296) (hc0 : 0 ≤ c) (hc : c < 4294967296) :
    intarsiaref09_times.f x c = some (x * c % 4294967296) := by
  unfold intarsiaref09_times.f
  have h1 : 0 ≤ x * c := Int.mul_nonneg hx0 hc0
  have h2 : x * c ≤ 4294967295 * 4294967295 := Int.mul_le_mul (by omega) (by omega) hc0 (by decide)
  rw [wrap_u64_small _ h1 (by omega), Int.tmod_eq_emod_of_nonneg h1]

theorem tdiv_small (x c : Int) (hx0 : 0 ≤ x) (hx : x < 4294967296) (hc : 1 ≤ c) :
    IntKind.u64.wrap (Int.tdiv x c) = x / c ∧ 0 ≤ x / c ∧ x / c < 4294967296 := by
  have h0 : 0 ≤ x / c := Int.ediv_nonneg hx0 (by omega)
  have h1 : x / c ≤ x := Int.ediv_le_self _ hx0
  rw [Int.tdiv_eq_ediv_of_nonneg hx0, wrap_u64_small _ h0 (by omega)]
  omega

theorem both_of (s : ByteArray) (hn : s.size ≤ 140737488351232) (d : Nat) : ∀ (k : Nat) (x i : Int), 0 ≤ x → x < 4294967296 → 0 ≤ i → (s.size : Int) - i = d → d < k →
    ∃ r, mix_Of.l0 k s x (s.size : Int) i = some r ∧ intarsiaref09_Of.l0 k s x i = some r := by
  induction d with
  | zero =>
    intro k x i hx0 hx hi hd hk
    obtain ⟨k, rfl⟩ : ∃ m, k = m + 1 := ⟨k - 1, by omega⟩
    simp only [mix_Of.l0, intarsiaref09_Of.l0]
    rw [if_neg (by omega)]
    rw [if_neg (by omega)]
    obtain ⟨e1, d0, d1⟩ := tdiv_small x 65536 hx0 hx (by decide)
    obtain ⟨f1, f2, f3⟩ := xor_both x (x / 65536) hx0 hx d0 d1
    rw [e1, f1, times_is _ _ f2 f3 (by decide) (by decide)]
    rw [Option.bind_some]
    generalize hb_y : (Go.bits BinOp.xor IntKind.u32 x (x / 65536) * 2246822507) % 4294967296 = y
    have y0 : 0 ≤ y := hb_y ▸ Int.emod_nonneg _ (by decide)
    have y1 : y < 4294967296 := hb_y ▸ Int.emod_lt_of_pos _ (by decide)
    obtain ⟨e2, d2, d3⟩ := tdiv_small y 8192 y0 y1 (by decide)
    obtain ⟨g1, g2, g3⟩ := xor_both y (y / 8192) y0 y1 d2 d3
    rw [e2, g1, times_is _ _ g2 g3 (by decide) (by decide)]
    rw [Option.bind_some]
    generalize hb_z : (Go.bits BinOp.xor IntKind.u32 y (y / 8192) * 3266489909) % 4294967296 = z
    have z0 : 0 ≤ z := hb_z ▸ Int.emod_nonneg _ (by decide)
    have z1 : z < 4294967296 := hb_z ▸ Int.emod_lt_of_pos _ (by decide)
    obtain ⟨e3, d4, d5⟩ := tdiv_small z 65536 z0 z1 (by decide)
    obtain ⟨j1, j2, j3⟩ := xor_both z (z / 65536) z0 z1 d4 d5
    rw [e3, j1]
    exact ⟨_, rfl, by rw [Int.emod_eq_of_lt j2 j3]⟩
  | succ d ih =>
    intro k x i hx0 hx hi hd hk
    obtain ⟨k, rfl⟩ : ∃ m, k = m + 1 := ⟨k - 1, by omega⟩
    have hlt : i < (s.size : Int) := by omega
    have hb := bt_range s i
    have e1 : bt s i % 4294967296 = bt s i := by omega
    have e2 : IntKind.u64.wrap (bt s i) = bt s i := wrap_u64_small _ hb.1 (by omega)
    obtain ⟨f1, f2, f3⟩ := xor_both x (bt s i) hx0 hx hb.1 (by omega)
    have ew : wrap64 (i + 1) = i + 1 := by unfold wrap64; omega
    simp only [mix_Of.l0, intarsiaref09_Of.l0]
    rw [if_pos hlt, if_pos hi, if_pos hlt, if_pos hlt, if_pos hi, e1, e2, f1, times_is _ _ f2 f3 (by decide) (by decide), ew]
    rw [Option.bind_some]
    exact ih k _ (i + 1) (Int.emod_nonneg _ (by decide)) (Int.emod_lt_of_pos _ (by decide)) (by omega) (by omega) (by omega)

theorem awake_of : intarsialaw09_awake.f 4 = some true := by decide +kernel

theorem MixOfs : intarsialaw09_MixOfs.Pure := by
  intro s hn
  refine ⟨s.size + 4, ?_⟩
  have hw : intarsialaw09_awake.f (s.size + 4) = some true := at_rounds intarsialaw09_awake.mono (by omega) awake_of
  unfold intarsialaw09_MixOfs.f
  by_cases c : (s.size : Int) > 1000
  · rw [if_pos c, hw]; rfl
  · rw [if_neg c]
    obtain ⟨r, h1, h2⟩ := both_of s hn s.size (s.size + 4) 2166136261 0 (by decide) (by decide) (by decide) (by omega) (by omega)
    unfold mix_Of.f intarsiaref09_Of.f
    rw [h1, h2, hw]
    simp

end Go.Proofs.Ytoklhnncdpoljaa.Pure
