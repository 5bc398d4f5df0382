/- Statement MixDeeper: mix.Top with a depth more is twice mix.Top, and the next bit; with 32 it is all bits. Condition: none beyond the form's own reach. -/
import Derived.Test.YtoklhnncdpoljaaMMixDeeperx1
namespace Go.Proofs.Ytoklhnncdpoljaa.Pure
open Go.RowKit Go.Proofs.Ytoklhnncdpoljaa.MMixDeeper Go.Proofs.YtoklhnncdpoljaaW.PrintWords Go.Proofs.YtoklhnncdpoljaaW.PrintLast Go.Proofs.YtoklhnncdpoljaaW.PrintMore

theorem div_cast (n d : Nat) : (n : Int) / 2 ^ d = ((n / 2 ^ d : Nat) : Int) := by
  rw [Int.natCast_ediv, Int.natCast_pow]; rfl

theorem and_one (n : Nat) (h : n < 4294967296) : Go.bits .and .u32 (n : Int) 1 = ((n % 2 : Nat) : Int) := by
  have := (Go.bits_nat .u32 32 (by decide) (fun m h0 h1 => by rw [IntKind.wrap_u32]; omega) n 1 (by omega) (by decide)).1
  rw [show (1 : Int) = ((1 : Nat) : Int) from rfl, this, Nat.and_one_is_mod]

theorem mixtop_is (n : Nat) (hn : n < 4294967296) (a : Int) (d : Nat) (hd : mx 0 (mn a 32) = d) (hd2 : d ≤ 32) :
    mix_Top.f (n : Int) a = some ((n / 2 ^ (32 - d) : Nat) : Int) := by
  unfold mix_Top.f
  have e1 : IntKind.u64.wrap (n : Int) = n := by rw [IntKind.wrap_u64]; omega
  rw [hd, e1, show ((32 : Int) - (d : Int)).toNat = 32 - d by omega, div_cast]
  have h2 : n / 2 ^ (32 - d) ≤ n := Nat.div_le_self _ _
  generalize n / 2 ^ (32 - d) = q at *
  rw [show wrap64 (q : Int) = (q : Int) by unfold wrap64; omega]

theorem mixbit_is (n : Nat) (hn : n < 4294967296) (a : Nat) (ha : a < 32) :
    mix_Bit.f (n : Int) (a : Int) = some ((n / 2 ^ (31 - a) % 2 : Nat) : Int) := by
  unfold mix_Bit.f
  have e1 : wrap64 (31 - (a : Int)) = ((31 - a : Nat) : Int) := by unfold wrap64; omega
  have h2 : n / 2 ^ (31 - a) ≤ n := Nat.div_le_self _ _
  rw [if_neg (by omega), if_neg (by omega), e1, if_pos (by omega)]
  unfold shr
  rw [show (((31 - a : Nat) : Int)).toNat = 31 - a by omega, Nat.min_eq_left (by show 31 - a ≤ 32; omega), div_cast]
  generalize n / 2 ^ (31 - a) = q at *
  rw [and_one _ (by omega), show wrap64 ((q % 2 : Nat) : Int) = ((q % 2 : Nat) : Int) by unfold wrap64; omega]

theorem half_step (n i : Nat) (hi : i < 32) : 2 * (n / 2 ^ (32 - i)) + n / 2 ^ (31 - i) % 2 = n / 2 ^ (32 - (i + 1)) := by
  have e : 32 - i = (31 - i) + 1 := by omega
  have e2 : 32 - (i + 1) = 31 - i := by omega
  rw [e, e2, Nat.pow_succ, ← Nat.div_div_eq_div_mul]
  omega

theorem awake_deeper : intarsialaw09_awake.f 4 = some true := by decide +kernel

theorem u32_nat {a : Int} (h : (Lit.int .u32 a).wf = true) : ∃ n : Nat, a = n ∧ n < 4294967296 := by
  have := of_decide_eq_true (p := IntKind.u32.min ≤ a ∧ a ≤ IntKind.u32.max) (by simpa [Lit.wf] using h)
  have h1 : IntKind.u32.min = 0 := by decide
  have h2 : IntKind.u32.max = 4294967295 := by decide
  exact ⟨a.toNat, by omega, by omega⟩

theorem u8_nat {a : Int} (h : (Lit.int .u8 a).wf = true) : ∃ n : Nat, a = n ∧ n < 256 := by
  have := of_decide_eq_true (p := IntKind.u8.min ≤ a ∧ a ≤ IntKind.u8.max) (by simpa [Lit.wf] using h)
  have h1 : IntKind.u8.min = 0 := by decide
  have h2 : IntKind.u8.max = 255 := by decide
  exact ⟨a.toNat, by omega, by omega⟩

theorem wrap64_id (x : Int) (h0 : -9223372036854775808 ≤ x) (h1 : x < 9223372036854775808) : wrap64 x = x := by unfold wrap64; omega

theorem mx_in (m : Nat) (h : m ≤ 32) : mx 0 (mn (m : Int) 32) = m := by unfold mx mn; split <;> split <;> omega

theorem MixDeeper : intarsialaw09_MixDeeper.Pure := by
  intro a0 a1 w0 w1
  obtain ⟨n, rfl, hn⟩ := u32_nat w0
  obtain ⟨c, rfl, hc⟩ := u8_nat w1
  refine ⟨4, ?_⟩
  have e1 : wrap64 (Int.tmod (c : Int) 32) = ((c % 32 : Nat) : Int) := by
    rw [Int.tmod_eq_emod_of_nonneg (by omega)]; unfold wrap64; omega
  obtain ⟨d, hd⟩ : ∃ d, d = c % 32 := ⟨_, rfl⟩
  have hd2 : d < 32 := by omega
  rw [← hd] at e1
  have e2 : wrap64 ((d : Int) + 1) = ((d + 1 : Nat) : Int) := by unfold wrap64; omega
  unfold intarsialaw09_MixDeeper.f
  rw [e1, e2, mixtop_is n hn _ (d + 1) (mx_in _ (by omega)) (by omega), Option.bind_some, mixtop_is n hn _ d (mx_in _ (by omega)) (by omega), Option.bind_some, mixbit_is n hn d hd2, Option.bind_some]
  have hs := half_step n d hd2
  have h2 : n / 2 ^ (32 - d) ≤ n := Nat.div_le_self _ _
  have h3 : n / 2 ^ (32 - (d + 1)) ≤ n := Nat.div_le_self _ _
  have t32 := mixtop_is n hn 32 32 (by decide) (by omega)
  have t0 := mixtop_is n hn 0 0 (by decide) (by omega)
  rw [show n / 2 ^ (32 - 32) = n by simp] at t32
  rw [show n / 2 ^ (32 - 0) = 0 from Nat.div_eq_of_lt (by omega)] at t0
  generalize n / 2 ^ (32 - d) = p at *
  generalize n / 2 ^ (31 - d) % 2 = q at *
  generalize n / 2 ^ (32 - (d + 1)) = t at *
  rw [wrap64_id (2 * (p : Int)) (by omega) (by omega), wrap64_id (2 * (p : Int) + (q : Int)) (by omega) (by omega), if_pos (by omega), t32, Option.bind_some, wrap64_id (n : Int) (by omega) (by omega), if_pos rfl, t0, Option.bind_some, if_pos (by rfl), awake_deeper, Option.bind_some]

end Go.Proofs.Ytoklhnncdpoljaa.Pure
