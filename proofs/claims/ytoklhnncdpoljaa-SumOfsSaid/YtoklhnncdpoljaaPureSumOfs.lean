/- Statement SumOfs: any bytes have the sum that the reference says, at once and in two parts. Condition: none beyond the form's own reach. -/
import Derived.Test.YtoklhnncdpoljaaMSumOfsx2
import Derived.Test.YtoklhnncdpoljaaCrc
namespace Go.Proofs.Ytoklhnncdpoljaa.Pure
open Go.RowKit Go.Proofs.Ytoklhnncdpoljaa.Hand Go.Proofs.Ytoklhnncdpoljaa.Crc Go.Proofs.Ytoklhnncdpoljaa.MSumOfs Go.Proofs.YtoklhnncdpoljaaW.PrintWords Go.Proofs.YtoklhnncdpoljaaW.PrintLast

def bstn : Nat → Nat → Nat
  | 0, c => c
  | d + 1, c => bstn d (bst c)
theorem bstn_8 (c : Nat) : bstn 8 c = bst8 c := rfl
theorem and1_nat (a : Nat) (ha : a < 4294967296) : Go.bits .and .u32 (a : Int) 1 = ((a % 2 : Nat) : Int) := by
  have := (Go.bits_nat .u32 32 (by decide) (fun m h0 h1 => by rw [IntKind.wrap_u32]; omega) a 1 (by omega) (by decide)).1
  rw [show (1 : Int) = ((1 : Nat) : Int) from rfl, this, Nat.and_one_is_mod]
theorem poly_xor (a : Nat) (ha : a < 4294967296) : Go.bits .xor .u32 (a : Int) 2197175160 = ((a ^^^ 2197175160 : Nat) : Int) := by
  obtain ⟨m, hm⟩ : ∃ m : Nat, m = 2197175160 := ⟨_, rfl⟩
  have h := xor32_nat a m ha (by omega)
  have e : (2197175160 : Int) = (m : Int) := by omega
  rw [e, h, hm]
theorem ref_bits (l : List Int) (i : Int) (d : Nat) : ∀ (k c : Nat) (j : Int), c < 4294967296 → 8 - j = d → d ≤ 8 →
    intarsiaref02_Of.l1 (k + d + 1) l (c : Int) i j = intarsiaref02_Of.l0 k l ((bstn d c : Nat) : Int) (wrap64 (i + 1)) := by
  induction d with
  | zero =>
    intro k c j hc hj _
    simp only [intarsiaref02_Of.l1]
    rw [if_neg (by omega)]
    rfl
  | succ d ih =>
    intro k c j hc hj h8
    rw [show k + (d + 1) + 1 = (k + d + 1) + 1 by omega]
    have ew : wrap64 (j + 1) = j + 1 := by unfold wrap64; omega
    have e2 : (c : Int) / 2 = ((c / 2 : Nat) : Int) := by omega
    have hb := bst_lt c hc
    simp only [intarsiaref02_Of.l1]
    rw [if_pos (by omega), and1_nat c hc, ew, e2]
    by_cases h : c % 2 = 1
    · rw [if_pos (by omega), poly_xor _ (by omega)]
      have e3 : bst c = c / 2 ^^^ 2197175160 := by unfold bst; rw [if_pos h]
      rw [← e3]
      exact ih k (bst c) (j + 1) hb (by omega) (by omega)
    · rw [if_neg (by omega)]
      have e3 : bst c = c / 2 := by unfold bst; rw [if_neg h, Nat.xor_zero]
      rw [← e3]
      exact ih k (bst c) (j + 1) hb (by omega) (by omega)
theorem ref_loop (l : List Int) (hl : ∀ x ∈ l, Byte x) (hn : l.length ≤ 140737488351232) (d : Nat) : ∀ (k c i : Nat), c < 4294967296 → i + d = l.length →
    intarsiaref02_Of.l0 (k + 10 * d + 1) l (c : Int) (i : Int) = some ((notN (crcN c (l.drop i)) : Nat) : Int) := by
  induction d with
  | zero =>
    intro k c i hc hi
    simp only [intarsiaref02_Of.l0]
    rw [if_neg (by omega), List.drop_of_length_le (by omega)]
    have e : (4294967295 : Int) = ((4294967295 : Nat) : Int) := by omega
    have hx := not_nat c hc
    have hcomm : Go.bits .xor .u32 (c : Int) 4294967295 = Go.bits .xor .u32 4294967295 (c : Int) := by
      unfold Go.bits
      simp only [BitVec.xor_comm]
    rw [hcomm, hx]
    rfl
  | succ d ih =>
    intro k c i hc hi
    have hlt : i < l.length := by omega
    have hb := hl _ (List.getElem_mem hlt)
    have hb2 := hb
    unfold Byte at hb2
    have hrd : rd l (i : Int) = l[i] := by
      unfold rd
      rw [List.getD_eq_getElem?_getD, Int.toNat_natCast, List.getElem?_eq_getElem hlt]
      rfl
    obtain ⟨x, hx⟩ := Int.eq_ofNat_of_zero_le hb2.1
    rw [show k + 10 * (d + 1) + 1 = ((k + 10 * d + 1) + 8 + 1) + 1 by omega]
    simp only [intarsiaref02_Of.l0]
    rw [if_pos (by omega), if_pos (by omega), hrd, hx]
    have em : (x : Int) % 4294967296 = x := by omega
    have hx4 : x < 4294967296 := by omega
    rw [em, xor32_nat c x hc hx4, ref_bits l (i : Int) 8 (k + 10 * d + 1) _ 0 (xor32 hc hx4) (by omega) (by omega), bstn_8]
    rw [show wrap64 ((i : Int) + 1) = ((i + 1 : Nat) : Int) by unfold wrap64; omega, ih k _ (i + 1) (bst8_lt _ (xor32 hc hx4)) (by omega)]
    rw [List.drop_eq_getElem_cons hlt]
    show some ((notN (crcN (bst8 (c ^^^ x)) (l.drop (i + 1))) : Nat) : Int) = some ((notN (crcN (bst8 (c ^^^ (l[i]).toNat)) (l.drop (i + 1))) : Nat) : Int)
    rw [hx]
    rfl
theorem refof_is (k : Nat) (l : List Int) (hl : ∀ x ∈ l, Byte x) (hn : l.length ≤ 140737488351232) (hk : 10 * l.length + 1 ≤ k) : intarsiaref02_Of.f k l = some ((sumN l : Nat) : Int) := by
  unfold intarsiaref02_Of.f
  obtain ⟨j, rfl⟩ : ∃ j, k = j + 10 * l.length + 1 := ⟨k - (10 * l.length + 1), by omega⟩
  have h := ref_loop l hl hn l.length j (notN 0) 0 (notN_lt (by decide)) (by omega)
  rw [List.drop_zero] at h
  have e : (4294967295 : Int) = ((notN 0 : Nat) : Int) := by rw [show notN 0 = 4294967295 from by rw [notN_def, Nat.xor_zero]]; omega
  rw [e]
  exact h

theorem of_one (k : Nat) (l : List Int) (hl : ∀ x ∈ l, Byte x) : sum_Of.f (k + 3) [l] = some ((sumN l : Nat) : Int) := by
  unfold sum_Of.f
  simp only [sum_Of.l0, List.length_singleton]
  rw [if_pos (by decide), if_pos (by decide), if_pos (by decide)]
  have h : sum_More.f 0 l = some ((sumN l : Nat) : Int) := more_nat 0 l (by decide) hl
  rw [show rd_L2 [l] 0 = l from rfl, h, Option.bind_some, if_neg (by decide +kernel)]

theorem more_sum (a b : List Int) (ha : ∀ x ∈ a, Byte x) (hb : ∀ x ∈ b, Byte x) : sum_More.f ((sumN a : Nat) : Int) b = some ((sumN (a ++ b) : Nat) : Int) := by
  rw [more_nat _ b (sumN_lt a ha) hb]
  have e : notN (sumN a) = crcN (notN 0) a := notN_notN _
  rw [e, ← crcN_append]
  rfl

theorem of_two (k : Nat) (a b : List Int) (ha : ∀ x ∈ a, Byte x) (hb : ∀ x ∈ b, Byte x) : sum_Of.f (k + 3) [a, b] = some ((sumN (a ++ b) : Nat) : Int) := by
  unfold sum_Of.f
  have e1 : wrap64 ((0 : Int) + 1) = 1 := by decide +kernel
  have e2 : wrap64 ((1 : Int) + 1) = 2 := by decide +kernel
  have el : (([a, b] : List (List Int)).length : Int) = 2 := rfl
  simp only [sum_Of.l0, el, e1, e2]
  rw [if_pos (by decide), if_pos (by decide), if_pos (by decide)]
  have h : sum_More.f 0 a = some ((sumN a : Nat) : Int) := more_nat 0 a (by decide) ha
  rw [show rd_L2 [a, b] 0 = a from rfl, h, Option.bind_some, if_pos (by decide), if_pos (by decide), if_pos (by decide), show rd_L2 [a, b] 1 = b from rfl, more_sum a b ha hb, Option.bind_some, if_neg (by decide)]

theorem u16_nat {a : Int} (h : (Lit.int .u16 a).wf = true) : 0 ≤ a ∧ a ≤ 65535 := by
  have := of_decide_eq_true (p := IntKind.u16.min ≤ a ∧ a ≤ IntKind.u16.max) (by simpa [Lit.wf] using h)
  have h1 : IntKind.u16.min = 0 := by decide
  have h2 : IntKind.u16.max = 65535 := by decide
  omega

theorem SumOfs : intarsialaw02_SumOfs.Pure := by
  intro l0 a1 hm hn hw w1
  have hl : ∀ x ∈ l0, Byte x := fun x hx => wf_byte (hw x hx)
  have h1 := u16_nat w1
  refine ⟨10 * l0.length + 1 + 3, ?_⟩
  unfold intarsialaw02_SumOfs.f
  by_cases h : (l0.length : Int) > 3000
  · rw [if_pos h]; rfl
  · rw [if_neg h]
    have ew : wrap64 ((l0.length : Int) + 1) = (l0.length : Int) + 1 := by unfold wrap64; omega
    have ew1 : wrap64 a1 = a1 := by unfold wrap64; omega
    rw [ew, if_neg (by omega), refof_is _ l0 hl (by omega) (by omega), Option.bind_some, of_one _ l0 hl, Option.bind_some, if_pos rfl, ew1, Int.tmod_eq_emod_of_nonneg h1.1]
    have hm0 : 0 ≤ a1 % ((l0.length : Int) + 1) := Int.emod_nonneg _ (by omega)
    have hm1 : a1 % ((l0.length : Int) + 1) < (l0.length : Int) + 1 := Int.emod_lt_of_pos _ (by omega)
    obtain ⟨i, hi⟩ := Int.eq_ofNat_of_zero_le hm0
    rw [hi] at hm0 hm1 ⊢
    have ht : ∀ x ∈ l0.take i, Byte x := fun x hx => hl x (List.mem_of_mem_take hx)
    have hd : ∀ x ∈ l0.drop i, Byte x := fun x hx => hl x (List.mem_of_mem_drop hx)
    rw [if_pos hm0, if_pos (by omega), Int.toNat_natCast, of_two _ _ _ ht hd, Option.bind_some, List.take_append_drop, if_pos rfl, of_one _ _ ht, Option.bind_some, more_sum _ _ ht hd, Option.bind_some, List.take_append_drop, if_pos rfl]
    rfl

end Go.Proofs.Ytoklhnncdpoljaa.Pure
