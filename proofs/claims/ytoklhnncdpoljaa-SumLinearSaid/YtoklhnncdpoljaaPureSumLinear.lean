/- Statement SumLinear: of two texts of one length, exclusive-ored byte by byte, the sum is those of both and of as many zeros, exclusive-ored. Condition: none beyond the form's own reach. -/
import Derived.Test.YtoklhnncdpoljaaMSumLinearx2
import Derived.Test.YtoklhnncdpoljaaCrc
namespace Go.Proofs.Ytoklhnncdpoljaa.Pure
open Go.RowKit Go.Proofs.Ytoklhnncdpoljaa.Hand Go.Proofs.Ytoklhnncdpoljaa.Crc Go.Proofs.Ytoklhnncdpoljaa.MSumLinear Go.Proofs.YtoklhnncdpoljaaW.PrintWords Go.Proofs.YtoklhnncdpoljaaW.PrintLast

theorem of_one (k : Nat) (l : List Int) (hl : ∀ x ∈ l, Byte x) : sum_Of.f (k + 2) [l] = some ((sumN l : Nat) : Int) := by
  unfold sum_Of.f
  simp only [sum_Of.l0, List.length_singleton]
  rw [if_pos (by decide), if_pos (by decide), if_pos (by decide)]
  have h : sum_More.f 0 l = some ((sumN l : Nat) : Int) := more_nat 0 l (by decide) hl
  rw [show rd_L2 [l] 0 = l from rfl, h, Option.bind_some, if_neg (by decide +kernel)]
/-- Byte by byte. -/
def zipX (a b : List Int) : List Int := List.zipWith (fun p q => Go.bits .xor .u8 p q) a b
theorem xor8 (p q : Int) (hp : Byte p) (hq : Byte q) : Go.bits .xor .u8 p q = ((p.toNat ^^^ q.toNat : Nat) : Int) ∧ p.toNat ^^^ q.toNat < 256 := by
  obtain ⟨a, rfl⟩ := Int.eq_ofNat_of_zero_le hp.1
  obtain ⟨b, rfl⟩ := Int.eq_ofNat_of_zero_le hq.1
  have ha : a < 256 := by have := hp.2; omega
  have hb : b < 256 := by have := hq.2; omega
  have hx : a ^^^ b < 256 := Nat.xor_lt_two_pow (n := 8) ha hb
  have ha' : a % 2 ^ IntKind.u8.bits = a := Nat.mod_eq_of_lt ha
  have hb' : b % 2 ^ IntKind.u8.bits = b := Nat.mod_eq_of_lt hb
  have e : Go.bits .xor .u8 (a : Int) (b : Int) = IntKind.u8.wrap ((a ^^^ b : Nat) : Int) := by
    simp only [Go.bits, BitVec.ofInt_natCast, BitVec.toNat_xor, BitVec.toNat_ofNat, ha', hb']
  rw [e, IntKind.wrap_u8]
  show ((a ^^^ b : Nat) : Int) % 256 = ((a ^^^ b : Nat) : Int) ∧ a ^^^ b < 256
  omega
theorem crc_xor : ∀ (a b : List Int) (c d : Nat), a.length = b.length → (∀ x ∈ a, Byte x) → (∀ x ∈ b, Byte x) → crcN (c ^^^ d) (zipX a b) = crcN c a ^^^ crcN d b
  | [], [], _, _, _, _, _ => rfl
  | [], _ :: _, _, _, h, _, _ => by cases h
  | _ :: _, [], _, _, h, _, _ => by cases h
  | p :: a, q :: b, c, d, h, ha, hb => by
    have hx := xor8 p q (ha p (List.mem_cons_self ..)) (hb q (List.mem_cons_self ..))
    have e : zipX (p :: a) (q :: b) = ((p.toNat ^^^ q.toNat : Nat) : Int) :: zipX a b := by
      unfold zipX
      rw [List.zipWith_cons_cons, hx.1]
    have e2 : ∀ (c : Nat) (x : Int) (l : List Int), crcN c (x :: l) = crcN (bst8 (c ^^^ x.toNat)) l := fun _ _ _ => rfl
    rw [e, e2, e2, e2, Int.toNat_natCast, xor_swap4, bst8_xor]
    exact crc_xor a b _ _ (by simpa using h) (fun x hx => ha x (List.mem_cons_of_mem _ hx)) (fun x hx => hb x (List.mem_cons_of_mem _ hx))
theorem zip_byte (a b : List Int) (ha : ∀ x ∈ a, Byte x) (hb : ∀ x ∈ b, Byte x) : ∀ x ∈ zipX a b, Byte x := by
  intro x hx
  unfold zipX at hx
  obtain ⟨i, hi, rfl⟩ := List.mem_iff_getElem.mp hx
  rw [List.length_zipWith] at hi
  rw [List.getElem_zipWith]
  have := xor8 a[i] b[i] (ha _ (List.getElem_mem _)) (hb _ (List.getElem_mem _))
  rw [this.1]
  exact ⟨by omega, by omega⟩
theorem zip_zero : ∀ (a : List Int), (∀ x ∈ a, Byte x) → zipX a (List.replicate a.length 0) = a
  | [], _ => rfl
  | p :: a, h => by
    have hp := h p (List.mem_cons_self ..)
    have hx := xor8 p 0 hp ⟨by decide, by decide⟩
    have := zip_zero a (fun x hx => h x (List.mem_cons_of_mem _ hx))
    unfold zipX at this ⊢
    rw [List.length_cons, List.replicate_succ, List.zipWith_cons_cons, this, hx.1, Int.toNat_zero, Nat.xor_zero, Int.toNat_of_nonneg hp.1]
theorem not3 (p q r : Nat) : notN p ^^^ notN q ^^^ notN r = notN (p ^^^ q ^^^ r) := by
  unfold notN
  generalize 4294967295 = m
  have h1 : (m ^^^ p) ^^^ (m ^^^ q) = p ^^^ q := by rw [xor_swap4, Nat.xor_self, Nat.zero_xor]
  rw [h1, Nat.xor_comm m r, ← Nat.xor_assoc, Nat.xor_comm _ m]
theorem linear (a b : List Int) (h : a.length = b.length) (ha : ∀ x ∈ a, Byte x) (hb : ∀ x ∈ b, Byte x) : sumN (zipX a b) = sumN a ^^^ sumN b ^^^ sumN (List.replicate a.length 0) := by
  have hzb : ∀ x ∈ List.replicate a.length (0 : Int), Byte x := fun x hx => by rw [List.eq_of_mem_replicate hx]; exact ⟨by decide, by decide⟩
  have hzl : (zipX a b).length = a.length := by unfold zipX; rw [List.length_zipWith, ← h, Nat.min_self]
  have h1 := crc_xor a b (notN 0) (notN 0) h ha hb
  have h2 := crc_xor (zipX a b) (List.replicate a.length 0) 0 (notN 0) (by rw [hzl, List.length_replicate]) (zip_byte a b ha hb) hzb
  rw [← hzl, zip_zero _ (zip_byte a b ha hb), hzl, Nat.zero_xor] at h2
  rw [Nat.xor_self] at h1
  unfold sumN
  rw [not3, h2, h1]
theorem rd_lt (l : List Int) (i : Nat) (h : i < l.length) : rd l (i : Int) = l[i] := by
  unfold rd
  rw [Int.toNat_natCast, List.getD_eq_getElem?_getD, List.getElem?_eq_getElem h]
  rfl
theorem set_next (l : List Int) (i m : Nat) (v : Int) (hi : i < l.length) (hv : l[i] = v) : (l.take i ++ List.replicate (m + 1) 0).set i v = l.take (i + 1) ++ List.replicate m 0 := by
  have hl : (l.take i).length = i := by rw [List.length_take]; omega
  rw [List.set_append_right _ _ (by omega), hl, Nat.sub_self, List.replicate_succ, List.set_cons_zero, List.take_succ_eq_append_getElem hi, hv, List.append_assoc]
  rfl
theorem lin_loop (l0 l1 : List Int) (n : Nat) (h0 : n ≤ l0.length) (h1 : n ≤ l1.length) (hn : n ≤ 500) (hb0 : ∀ x ∈ l0, Byte x) (hb1 : ∀ x ∈ l1, Byte x) (d : Nat) : ∀ (k i : Nat), i + d = n → d + 3 ≤ k →
    intarsialaw02_SumLinear.l0 k l0 l1 (n : Int) ((zipX (l0.take n) (l1.take n)).take i ++ List.replicate (n - i) 0) (List.replicate n 0) (i : Int) = some true := by
  have hz : (zipX (l0.take n) (l1.take n)).length = n := by unfold zipX; rw [List.length_zipWith, List.length_take, List.length_take]; omega
  have ha : ∀ x ∈ l0.take n, Byte x := fun x hx => hb0 x (List.mem_of_mem_take hx)
  have hb : ∀ x ∈ l1.take n, Byte x := fun x hx => hb1 x (List.mem_of_mem_take hx)
  have la : (l0.take n).length = n := by rw [List.length_take]; omega
  have lb : (l1.take n).length = n := by rw [List.length_take]; omega
  induction d with
  | zero =>
    intro k i hi hk
    obtain ⟨k, rfl⟩ : ∃ m, k = (m + 2) + 1 := ⟨k - 3, by omega⟩
    obtain rfl : i = n := by omega
    have hzb : ∀ x ∈ List.replicate i (0 : Int), Byte x := fun x hx => by rw [List.eq_of_mem_replicate hx]; exact ⟨by decide, by decide⟩
    rw [intarsialaw02_SumLinear.l0, if_neg (by omega), Nat.sub_self, List.replicate_zero, List.append_nil, List.take_of_length_le (Nat.le_of_eq hz)]
    rw [of_one k _ (zip_byte _ _ ha hb), Option.bind_some, if_pos (by omega), if_pos (by omega), Int.toNat_natCast, of_one k _ ha, Option.bind_some, if_pos (by omega), of_one k _ hb, Option.bind_some, of_one k _ hzb, Option.bind_some]
    have hl := linear _ _ (la.trans lb.symm) ha hb
    rw [la] at hl
    have sa := sumN_lt _ ha
    have sb := sumN_lt _ hb
    have sz := sumN_lt _ hzb
    rw [xor32_nat _ _ sa sb, xor32_nat _ _ (xor32 sa sb) sz, hl, if_pos rfl]
    rfl
  | succ d ih =>
    intro k i hi hk
    obtain ⟨k, rfl⟩ : ∃ m, k = m + 1 := ⟨k - 1, by omega⟩
    have ew : wrap64 ((i : Int) + 1) = ((i + 1 : Nat) : Int) := by unfold wrap64; omega
    have hv : (zipX (l0.take n) (l1.take n))[i]'(by omega) = Go.bits .xor .u8 (rd l0 (i : Int)) (rd l1 (i : Int)) := by
      unfold zipX
      rw [List.getElem_zipWith, List.getElem_take, List.getElem_take, rd_lt l0 i (by omega), rd_lt l1 i (by omega)]
    rw [intarsialaw02_SumLinear.l0, if_pos (by omega), if_pos (by omega), if_pos (by omega), if_pos (by omega), if_pos (by rw [List.length_append, List.length_take, List.length_replicate]; omega), ew, Int.toNat_natCast]
    have e : n - i = (n - (i + 1)) + 1 := by omega
    rw [e, set_next _ i _ _ (by omega) hv]
    exact ih k (i + 1) (by omega) (by omega)
theorem SumLinear : intarsialaw02_SumLinear.Pure := by
  intro l0 l1 _ _ hw0 _ _ hw1
  refine ⟨504, ?_⟩
  unfold intarsialaw02_SumLinear.f
  obtain ⟨n, hn, h0, h1⟩ : ∃ n : Nat, mn (l0.length : Int) (l1.length : Int) = n ∧ n ≤ l0.length ∧ n ≤ l1.length := by
    unfold mn
    split
    · exact ⟨l1.length, rfl, by omega, by omega⟩
    · exact ⟨l0.length, rfl, by omega, by omega⟩
  rw [hn]
  by_cases hg : (n : Int) > 500
  · rw [if_pos hg]
    rfl
  · rw [if_neg hg, if_pos (by omega), Int.toNat_natCast, if_pos (by omega)]
    exact lin_loop l0 l1 n h0 h1 (by omega) (fun x hx => wf_byte (hw0 x hx)) (fun x hx => wf_byte (hw1 x hx)) n 504 0 (by omega) (by omega)
end Go.Proofs.Ytoklhnncdpoljaa.Pure
