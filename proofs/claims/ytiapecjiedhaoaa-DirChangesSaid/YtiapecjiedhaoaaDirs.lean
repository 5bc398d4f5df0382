/- Plain laws of directories. -/
import Derived.Test.YtiapecjiedhaoaaDAwake
namespace Go.Proofs.Ytiapecjiedhaoaa.Dirs
open Go.RowKit Go.Proofs.Ytiapecjiedhaoaa.Hand Go.Proofs.Ytiapecjiedhaoaa.MDir Go.Proofs.YtiapecjiedhaoaaW.PrintWords Go.Proofs.YtiapecjiedhaoaaW.PrintLast
theorem wrap_id {x : Int} (h0 : -9223372036854775808 ≤ x) (h1 : x ≤ 9223372036854775807) : wrap64 x = x := by
  unfold wrap64; omega
/-! ### a key's bits -/
def In32 (h : Int) : Prop := 0 ≤ h ∧ h < 4294967296
theorem xor_in (a b : Int) : In32 (Go.bits .xor .u32 a b) := by
  unfold Go.bits In32
  rw [IntKind.wrap_u32]
  omega
theorem of_l (s : ByteArray) (hs : s.size ≤ 1000) (d : Nat) : ∀ (i : Nat) (x : Int), i + d = s.size → ∃ h, In32 h ∧ ∀ k, mix_Of.l0 (k + d + 1) s x (s.size : Int) (i : Int) = some h := by
  induction d with
  | zero =>
    intro i x hi
    exact ⟨_, xor_in _ _, fun k => by rw [mix_Of.l0, if_neg (by omega)]⟩
  | succ d ih =>
    intro i x hi
    obtain ⟨h, hh, hk⟩ := ih (i + 1) _ (by omega)
    refine ⟨h, hh, fun k => ?_⟩
    rw [show k + (d + 1) + 1 = (k + d + 1) + 1 from rfl, mix_Of.l0, if_pos (by omega), if_pos (by omega), if_pos (by omega), wrap_id (by omega) (by omega)]
    exact hk k
theorem of_is (s : ByteArray) (hs : s.size ≤ 1000) : ∃ h, In32 h ∧ ∀ k, s.size < k → mix_Of.f k s = some h := by
  obtain ⟨h, hh, hk⟩ := of_l s hs s.size 0 2166136261 (by omega)
  refine ⟨h, hh, fun k hlt => ?_⟩
  unfold mix_Of.f
  obtain ⟨j, rfl⟩ : ∃ j, k = j + s.size + 1 := ⟨k - s.size - 1, by omega⟩
  exact hk j
/-- The highest bits. -/
def topOf (h : Int) (d : Nat) : Int := h / 2 ^ (32 - d)
theorem pow2 (n : Nat) : (0 : Int) < 2 ^ n := by
  have := Nat.pow_pos (n := n) (show 0 < 2 by decide)
  exact_mod_cast this
theorem topOf_in (h : Int) (hh : In32 h) (d : Nat) (hd : d ≤ 32) : 0 ≤ topOf h d ∧ topOf h d < 2 ^ d := by
  unfold topOf
  refine ⟨Int.ediv_nonneg hh.1 (Int.le_of_lt (pow2 _)), ?_⟩
  have e : (2 : Int) ^ d * 2 ^ (32 - d) = 4294967296 := by
    rw [← Int.pow_add, show d + (32 - d) = 32 by omega]
    rfl
  exact Int.ediv_lt_of_lt_mul (pow2 _) (by rw [e]; exact hh.2)
theorem top_is (h : Int) (hh : In32 h) (d : Nat) (hd : d ≤ 10) : mix_Top.f h (d : Int) = some (topOf h d) := by
  have ht := topOf_in h hh d (by omega)
  have hp : (2 : Int) ^ d ≤ 1024 := by
    have := Nat.pow_le_pow_right (show 0 < 2 by decide) hd
    have h2 : (2 : Int) ^ d ≤ ((2 ^ 10 : Nat) : Int) := by exact_mod_cast this
    simpa using h2
  have e1 : IntKind.u64.wrap h = h := by rw [IntKind.wrap_u64]; have := hh.1; have := hh.2; omega
  have e2 : (32 - (mx 0 (mn (d : Int) 32))).toNat = 32 - d := by
    have : mx 0 (mn (d : Int) 32) = d := by unfold mx mn; split <;> split <;> omega
    rw [this]; omega
  unfold mix_Top.f
  rw [e1, e2]
  unfold topOf at ht ⊢
  rw [wrap_id (by omega) (by omega)]
/-! ### whether a directory may be -/
def Ok (d : Int) (l : List Int) : Prop := 0 ≤ d ∧ d ≤ 10 ∧ (∀ x ∈ l, 1 ≤ x ∧ x ≤ 3000) ∧ (l.length : Int) = 2 ^ d.toNat
/-- What both checks tell. -/
def chk (d : Int) (l : List Int) : Int := if d < 0 then 12 else if 10 < d then 12 else if l.any badN = true then 12 else if (l.length : Int) = 2 ^ d.toNat then 0 else 4
theorem check_is (d : Int) (l : List Int) : dir_Check.f d l = some (chk d l) := rfl
theorem any_bad (l : List Int) : l.any badN = true ↔ ¬ ∀ x ∈ l, 1 ≤ x ∧ x ≤ 3000 := by
  rw [List.any_eq_true]
  constructor
  · rintro ⟨x, hx, hb⟩ h
    have := h x hx
    unfold badN at hb
    simp [this.1, this.2] at hb
  · intro h
    exact Classical.byContradiction fun hn => h fun x hx => by
      have hb : ¬ badN x = true := fun hb => hn ⟨x, hx, hb⟩
      unfold badN at hb
      simpa using hb
theorem chk_ok (d : Int) (l : List Int) : chk d l = 0 ↔ Ok d l := by
  unfold chk Ok
  by_cases h1 : d < 0
  · rw [if_pos h1]
    exact ⟨fun h => absurd h (by decide), fun h => by omega⟩
  · rw [if_neg h1]
    by_cases h2 : 10 < d
    · rw [if_pos h2]
      exact ⟨fun h => absurd h (by decide), fun h => by omega⟩
    · rw [if_neg h2]
      by_cases h3 : l.any badN = true
      · rw [if_pos h3]
        exact ⟨fun h => absurd h (by decide), fun h => absurd h.2.2.1 ((any_bad l).mp h3)⟩
      · rw [if_neg h3]
        have h3' : ∀ x ∈ l, 1 ≤ x ∧ x ≤ 3000 := Classical.byContradiction fun hn => h3 ((any_bad l).mpr hn)
        by_cases h4 : (l.length : Int) = 2 ^ d.toNat
        · rw [if_pos h4]
          exact ⟨fun _ => ⟨by omega, by omega, h3', h4⟩, fun _ => rfl⟩
        · rw [if_neg h4]
          exact ⟨fun h => absurd h (by decide), fun h => absurd h.2.2.2 h4⟩
theorem may_is (d : Int) (l : List Int) : dir_Dir_may.f d l = some (chk d l == 0) := by
  unfold dir_Dir_may.f
  rw [check_is, Option.bind_some]
/-- A key's place. -/
def placeOf (h : Int) (d : Int) (l : List Int) : Int := if chk d l = 0 then topOf h d.toNat else 0
def atOf (h : Int) (d : Int) (l : List Int) : Int := if chk d l = 0 then rd l (topOf h d.toNat) else 0
theorem place_is (s : ByteArray) (h : Int) (hh : In32 h) (hof : ∀ k, s.size < k → mix_Of.f k s = some h) (k : Nat) (hk : s.size < k) (d : Int) (l : List Int) : dir_Place.f k d l s = some (placeOf h d l) := by
  unfold dir_Place.f placeOf
  rw [may_is, Option.bind_some]
  by_cases hc : chk d l = 0
  · obtain ⟨h0, h1, _⟩ := (chk_ok d l).mp hc
    rw [if_pos (by rw [hc]; rfl), if_pos hc, hof k hk, Option.bind_some]
    have := top_is h hh d.toNat (by omega)
    rw [Int.toNat_of_nonneg h0] at this
    rw [this, Option.bind_some]
  · rw [if_neg (by simpa using hc), if_neg hc]
theorem top_lt (h : Int) (hh : In32 h) (d : Int) (l : List Int) (hc : chk d l = 0) : 0 ≤ topOf h d.toNat ∧ topOf h d.toNat < (l.length : Int) := by
  obtain ⟨h0, h1, _, h3⟩ := (chk_ok d l).mp hc
  rw [h3]
  exact topOf_in h hh d.toNat (by omega)
theorem at_is (s : ByteArray) (h : Int) (hh : In32 h) (hof : ∀ k, s.size < k → mix_Of.f k s = some h) (k : Nat) (hk : s.size < k) (d : Int) (l : List Int) : dir_At.f k d l s = some (atOf h d l) := by
  unfold dir_At.f atOf
  rw [may_is, Option.bind_some]
  by_cases hc : chk d l = 0
  · have ht := top_lt h hh d l hc
    rw [if_pos (by rw [hc]; rfl), if_pos hc, place_is s h hh hof k hk, Option.bind_some]
    unfold placeOf
    rw [if_pos hc, if_pos ht.1, if_pos ht.2]
  · rw [if_neg (by simpa using hc), if_neg hc]
end Go.Proofs.Ytiapecjiedhaoaa.Dirs
