/- The order of texts, in plain terms. -/
import Derived.Test.YtgbjinonlfhciaaProg
namespace Go.Proofs.Ytgbjinonlfhciaa.BkV
theorem bl_irrefl : ∀ x : List UInt8, Op.bytesLess x x = false
  | [] => rfl
  | a :: x => by
    show (decide (a < a) || (a == a && Op.bytesLess x x)) = false
    rw [bl_irrefl x, decide_eq_false (UInt8.lt_irrefl a)]
    cases (a == a) <;> rfl
theorem bl_cons {a b : UInt8} {x y : List UInt8} : Op.bytesLess (a :: x) (b :: y) = true ↔ a < b ∨ (a = b ∧ Op.bytesLess x y = true) := by
  show (decide (a < b) || (a == b && Op.bytesLess x y)) = true ↔ _
  rw [Bool.or_eq_true, Bool.and_eq_true, decide_eq_true_iff, beq_iff_eq]
theorem bl_trans : ∀ x y z : List UInt8, Op.bytesLess x y = true → Op.bytesLess y z = true → Op.bytesLess x z = true
  | x, [], z, h, _ => by cases x <;> cases h
  | _, b :: y, [], _, h => by cases h
  | [], b :: y, c :: z, _, _ => rfl
  | a :: x, b :: y, c :: z, h1, h2 => by
    rw [bl_cons] at h1 h2 ⊢
    rcases h1 with h1 | ⟨rfl, h1⟩
    · rcases h2 with h2 | ⟨rfl, h2⟩
      · exact .inl (UInt8.lt_trans h1 h2)
      · exact .inl h1
    · rcases h2 with h2 | ⟨rfl, h2⟩
      · exact .inl h2
      · exact .inr ⟨rfl, bl_trans x y z h1 h2⟩
theorem bl_total : ∀ x y : List UInt8, Op.bytesLess x y = false → Op.bytesLess y x = false → x = y
  | [], [], _, _ => rfl
  | [], b :: y, h, _ => by cases h
  | a :: x, [], _, h => by cases h
  | a :: x, b :: y, h1, h2 => by
    have n1 : ¬ (a < b ∨ (a = b ∧ Op.bytesLess x y = true)) := fun h => by rw [bl_cons.mpr h] at h1; cases h1
    have n2 : ¬ (b < a ∨ (b = a ∧ Op.bytesLess y x = true)) := fun h => by rw [bl_cons.mpr h] at h2; cases h2
    have e : a = b := by
      have m1 : ¬ a.toNat < b.toNat := fun h => n1 (.inl (UInt8.lt_iff_toNat_lt.mpr h))
      have m2 : ¬ b.toNat < a.toNat := fun h => n2 (.inl (UInt8.lt_iff_toNat_lt.mpr h))
      exact UInt8.toNat_inj.mp (by omega)
    subst e
    have f1 : Op.bytesLess x y = false := by
      cases h : Op.bytesLess x y with
      | false => rfl
      | true => exact absurd (.inr ⟨rfl, h⟩) n1
    have f2 : Op.bytesLess y x = false := by
      cases h : Op.bytesLess y x with
      | false => rfl
      | true => exact absurd (.inr ⟨rfl, h⟩) n2
    rw [bl_total x y f1 f2]
theorem bl_asymm {x y : List UInt8} (h : Op.bytesLess x y = true) : Op.bytesLess y x = false := by
  cases h2 : Op.bytesLess y x with
  | false => rfl
  | true => have := bl_trans x y x h h2; rw [bl_irrefl] at this; cases this
theorem bl_ne {x y : List UInt8} (h : Op.bytesLess x y = true) : x ≠ y := by
  rintro rfl
  rw [bl_irrefl] at h
  cases h
end Go.Proofs.Ytgbjinonlfhciaa.BkV
