/- Statement MixTops: any bits' highest ones, and each one, as mix.Top and mix.Bit tell them, are what the reference tells. Condition: none beyond the form's own reach. -/
import Derived.Test.YtoklhnncdpoljaaMMixTopsx1
namespace Go.Proofs.Ytoklhnncdpoljaa.Pure
open Go.RowKit Go.Proofs.Ytoklhnncdpoljaa.MMixTops Go.Proofs.YtoklhnncdpoljaaW.PrintWords Go.Proofs.YtoklhnncdpoljaaW.PrintLast Go.Proofs.YtoklhnncdpoljaaW.PrintMore

theorem div_cast (n d : Nat) : (n : Int) / 2 ^ d = ((n / 2 ^ d : Nat) : Int) := by
  rw [Int.natCast_ediv, Int.natCast_pow]; rfl

theorem and_one (n : Nat) (h : n < 4294967296) : Go.bits .and .u32 (n : Int) 1 = ((n % 2 : Nat) : Int) := by
  have := (Go.bits_nat .u32 32 (by decide) (fun m h0 h1 => by rw [IntKind.wrap_u32]; omega) n 1 (by omega) (by decide)).1
  rw [show (1 : Int) = ((1 : Nat) : Int) from rfl, this, Nat.and_one_is_mod]

theorem mixtop_is (n : Nat) (hn : n < 4294967296) (a : Int) (d : Nat) (hd : mx 0 (mn a 32) = d) (hd2 : d ≤ 32) :
    mix_Top.f (n : Int) a = some ((n / 2 ^ (32 - d) : Nat) : Int) := by
  unfold mix_Top.f
  have e1 : IntKind.u64.wrap (n : Int) = n := by rw [IntKind.wrap_u64]; omega
  rw [hd, e1, show ((32 : Int) - (d : Int)).toNat = 32 - d by omega, div_cast]
  have h2 : n / 2 ^ (32 - d) ≤ n := Nat.div_le_self _ _
  generalize n / 2 ^ (32 - d) = q at *
  rw [show wrap64 (q : Int) = (q : Int) by unfold wrap64; omega]

theorem mixbit_is (n : Nat) (hn : n < 4294967296) (a : Nat) (ha : a < 32) :
    mix_Bit.f (n : Int) (a : Int) = some ((n / 2 ^ (31 - a) % 2 : Nat) : Int) := by
  unfold mix_Bit.f
  have e1 : wrap64 (31 - (a : Int)) = ((31 - a : Nat) : Int) := by unfold wrap64; omega
  have h2 : n / 2 ^ (31 - a) ≤ n := Nat.div_le_self _ _
  rw [if_neg (by omega), if_neg (by omega), e1, if_pos (by omega)]
  unfold shr
  rw [show (((31 - a : Nat) : Int)).toNat = 31 - a by omega, Nat.min_eq_left (by show 31 - a ≤ 32; omega), div_cast]
  generalize n / 2 ^ (31 - a) = q at *
  rw [and_one _ (by omega), show wrap64 ((q % 2 : Nat) : Int) = ((q % 2 : Nat) : Int) by unfold wrap64; omega]

theorem refbit_loop (d : Nat) : ∀ (k : Nat) (n : Nat) (i : Int), n < 4294967296 → 31 - i = d → d < 40 → d < k →
    intarsiaref09_Bit.l0 k (n : Int) i = some ((n / 2 ^ d % 2 : Nat) : Int) := by
  induction d with
  | zero =>
    intro k n i hn hd _ hk
    obtain ⟨k, rfl⟩ : ∃ m, k = m + 1 := ⟨k - 1, by omega⟩
    simp only [intarsiaref09_Bit.l0]
    rw [if_neg (by omega), Int.tmod_eq_emod_of_nonneg (by omega), Nat.pow_zero, Nat.div_one]
    rw [show wrap64 ((n : Int) % 2) = ((n % 2 : Nat) : Int) by unfold wrap64; omega]
  | succ d ih =>
    intro k n i hn hd h4 hk
    obtain ⟨k, rfl⟩ : ∃ m, k = m + 1 := ⟨k - 1, by omega⟩
    simp only [intarsiaref09_Bit.l0]
    rw [if_pos (by omega), Int.tdiv_eq_ediv_of_nonneg (by omega)]
    rw [show ((n : Int) / 2) % 4294967296 = ((n / 2 : Nat) : Int) by omega, show wrap64 (i + 1) = i + 1 by unfold wrap64; omega]
    rw [ih k (n / 2) (i + 1) (by omega) (by omega) (by omega) (by omega), Nat.div_div_eq_div_mul, Nat.pow_succ, Nat.mul_comm 2]

theorem refbit_in (k n a : Nat) (hn : n < 4294967296) (ha : a < 32) (hk : 40 ≤ k) : intarsiaref09_Bit.f k (n : Int) (a : Int) = some ((n / 2 ^ (31 - a) % 2 : Nat) : Int) := by
  unfold intarsiaref09_Bit.f
  obtain ⟨k, rfl⟩ : ∃ m, k = m + 1 := ⟨k - 1, by omega⟩
  rw [if_neg (by omega), show decide ((a : Int) > 31) = false from decide_eq_false (by omega)]
  simp only [intarsiaref09_Bit.j0]
  rw [if_neg (by decide), refbit_loop (31 - a) k n a hn (by omega) (by omega) (by omega)]

theorem bit_same (k n : Nat) (a : Int) (hn : n < 4294967296) (hk : 40 ≤ k) : ∃ r, mix_Bit.f (n : Int) a = some r ∧ intarsiaref09_Bit.f k (n : Int) a = some r := by
  by_cases h0 : a < 0
  · refine ⟨0, by unfold mix_Bit.f; rw [if_pos h0], ?_⟩
    unfold intarsiaref09_Bit.f
    obtain ⟨k, rfl⟩ : ∃ m, k = m + 1 := ⟨k - 1, by omega⟩
    rw [if_pos h0]
    simp only [intarsiaref09_Bit.j0, if_true]
  · by_cases h1 : a ≥ 32
    · refine ⟨0, by unfold mix_Bit.f; rw [if_neg h0, if_pos h1], ?_⟩
      unfold intarsiaref09_Bit.f
      obtain ⟨k, rfl⟩ : ∃ m, k = m + 1 := ⟨k - 1, by omega⟩
      rw [if_neg h0, show decide (a > 31) = true from decide_eq_true (by omega)]
      simp only [intarsiaref09_Bit.j0, if_true]
    · obtain ⟨b, rfl⟩ : ∃ b : Nat, a = b := ⟨a.toNat, by omega⟩
      exact ⟨_, mixbit_is n hn b (by omega), refbit_in k n b hn (by omega) hk⟩

theorem half_step (n i : Nat) (hi : i < 32) : 2 * (n / 2 ^ (32 - i)) + n / 2 ^ (31 - i) % 2 = n / 2 ^ (32 - (i + 1)) := by
  have e : 32 - i = (31 - i) + 1 := by omega
  have e2 : 32 - (i + 1) = 31 - i := by omega
  rw [e, e2, Nat.pow_succ, ← Nat.div_div_eq_div_mul]
  omega

theorem reftop_loop (n : Nat) (hn : n < 4294967296) (a : Int) (m : Nat) (hm : mx 0 (mn a 32) = m) (hm2 : m ≤ 32) (d : Nat) : ∀ (k i : Nat), i + d = m → d + 40 < k →
    intarsiaref09_Top.l0 k (n : Int) a ((n / 2 ^ (32 - i) : Nat) : Int) (i : Int) = some ((n / 2 ^ (32 - m) : Nat) : Int) := by
  have hmx : m = 0 ∧ a ≤ 0 ∨ m = 32 ∧ 32 ≤ a ∨ a = m := by unfold mx mn at hm; split at hm <;> split at hm <;> omega
  induction d with
  | zero =>
    intro k i hi hk
    obtain ⟨k, rfl⟩ : ∃ m, k = m + 1 := ⟨k - 1, by omega⟩
    obtain rfl : i = m := by omega
    simp only [intarsiaref09_Top.l0]
    by_cases h : (i : Int) < a
    · rw [if_pos h, if_neg (by omega)]
    · rw [if_neg h]
  | succ d ih =>
    intro k i hi hk
    obtain ⟨k, rfl⟩ : ∃ m, k = m + 1 := ⟨k - 1, by omega⟩
    simp only [intarsiaref09_Top.l0]
    rw [if_pos (by omega), if_pos (by omega), refbit_in k n i hn (by omega) (by omega), Option.bind_some]
    have h2 : n / 2 ^ (32 - i) ≤ n := Nat.div_le_self _ _
    have hs := half_step n i (by omega)
    generalize n / 2 ^ (32 - i) = p at *
    generalize n / 2 ^ (31 - i) % 2 = q at *
    have h3 : n / 2 ^ (32 - (i + 1)) ≤ n := Nat.div_le_self _ _
    have h4 := ih k (i + 1) (by omega) (by omega)
    generalize n / 2 ^ (32 - (i + 1)) = t at *
    rw [show wrap64 (2 * (p : Int)) = 2 * (p : Int) by unfold wrap64; omega, show wrap64 (2 * (p : Int) + (q : Int)) = (t : Int) by unfold wrap64; omega, show wrap64 ((i : Int) + 1) = ((i + 1 : Nat) : Int) by unfold wrap64; omega]
    exact h4

theorem top_same (k n : Nat) (a : Int) (hn : n < 4294967296) (hk : 80 ≤ k) : ∃ r, mix_Top.f (n : Int) a = some r ∧ intarsiaref09_Top.f k (n : Int) a = some r := by
  obtain ⟨m, hm, hm2⟩ : ∃ m : Nat, mx 0 (mn a 32) = m ∧ m ≤ 32 := ⟨(mx 0 (mn a 32)).toNat, by unfold mx mn; split <;> split <;> omega, by unfold mx mn; split <;> split <;> omega⟩
  refine ⟨_, mixtop_is n hn a m hm hm2, ?_⟩
  have h := reftop_loop n hn a m hm hm2 m k 0 (by omega) (by omega)
  rw [show n / 2 ^ (32 - 0) = 0 from Nat.div_eq_of_lt (by omega)] at h
  unfold intarsiaref09_Top.f
  exact h

theorem awake_tops : intarsialaw09_awake.f 4 = some true := by decide +kernel

theorem u32_nat {a : Int} (h : (Lit.int .u32 a).wf = true) : ∃ n : Nat, a = n ∧ n < 4294967296 := by
  have := of_decide_eq_true (p := IntKind.u32.min ≤ a ∧ a ≤ IntKind.u32.max) (by simpa [Lit.wf] using h)
  have h1 : IntKind.u32.min = 0 := by decide
  have h2 : IntKind.u32.max = 4294967295 := by decide
  exact ⟨a.toNat, by omega, by omega⟩

theorem MixTops : intarsialaw09_MixTops.Pure := by
  intro a0 a1 a2 w0 w1 w2
  obtain ⟨n, rfl, hn⟩ := u32_nat w0
  refine ⟨80, ?_⟩
  have hw : intarsialaw09_awake.f 80 = some true := at_rounds intarsialaw09_awake.mono (by omega) awake_tops
  obtain ⟨r, h1, h2⟩ := top_same 80 n a1 hn (by omega)
  obtain ⟨q, h3, h4⟩ := bit_same 80 n a2 hn (by omega)
  unfold intarsialaw09_MixTops.f
  rw [h1, h2, Option.bind_some, Option.bind_some, if_pos rfl, h3, h4, Option.bind_some, Option.bind_some, if_pos rfl, hw, Option.bind_some]

end Go.Proofs.Ytoklhnncdpoljaa.Pure
