/- Statement SumTurned: what is sealed is opened as it was; with one byte changed, whichever, it is not. Condition: none beyond the form's own reach. -/
import Derived.Test.YtoklhnncdpoljaaMSumTurnedx1
import Derived.Test.YtoklhnncdpoljaaCrc
namespace Go.Proofs.Ytoklhnncdpoljaa.Pure
open Go.RowKit Go.Proofs.Ytoklhnncdpoljaa.Hand Go.Proofs.Ytoklhnncdpoljaa.Crc Go.Proofs.Ytoklhnncdpoljaa.MSumTurned Go.Proofs.YtoklhnncdpoljaaW.PrintWords Go.Proofs.YtoklhnncdpoljaaW.PrintLast

theorem of_one (k : Nat) (l : List Int) (hl : ∀ x ∈ l, Byte x) : sum_Of.f (k + 2) [l] = some ((sumN l : Nat) : Int) := by
  unfold sum_Of.f
  simp only [sum_Of.l0, List.length_singleton]
  rw [if_pos (by decide), if_pos (by decide), if_pos (by decide)]
  have h : sum_More.f 0 l = some ((sumN l : Nat) : Int) := more_nat 0 l (by decide) hl
  rw [show rd_L2 [l] 0 = l from rfl, h, Option.bind_some, if_neg (by decide +kernel)]

theorem tail_is (k : Nat) (l : List Int) (hl : ∀ x ∈ l, Byte x) : sum_tail.f (k + 2) l = some (tailI ((sumN l : Nat) : Int)) := by
  unfold sum_tail.f
  rw [of_one k l hl, Option.bind_some]
  rfl

theorem equal_is (a b : List Int) (ha : ∀ x ∈ a, Byte x) (hb : ∀ x ∈ b, Byte x) : bytes_Equal.f a b = some (decide (a = b)) := by
  unfold bytes_Equal.f
  by_cases h : a = b
  · subst h; simp
  · have : ¬ (strOfNums a).toList = (strOfNums b).toList := fun e => h ((str_eq ha hb).mp e)
    simp [h, this]

theorem clone_is (l : List Int) (h : l.length < 140737488355328) : bytes_Clone.f l = some l := by
  unfold bytes_Clone.f; rw [if_pos h]

theorem seal_is (k : Nat) (l : List Int) (hn : l.length ≤ 2000) (hl : ∀ x ∈ l, Byte x) : sum_Seal.f (k + 2) l = some (l ++ tailI ((sumN l : Nat) : Int)) := by
  unfold sum_Seal.f
  rw [clone_is l (by omega), Option.bind_some, tail_is k l hl, Option.bind_some, if_pos (by show l.length + 4 < _; omega)]

theorem open_is (k : Nat) (m t : List Int) (hn : m.length ≤ 2000) (ht : t.length = 4) (hm : ∀ x ∈ m, Byte x) (htb : ∀ x ∈ t, Byte x) :
    sum_Open.f (k + 2) (m ++ t) = if tailI ((sumN m : Nat) : Int) = t then some (m, 0) else some ([], 13) := by
  unfold sum_Open.f
  have e : wrap64 (((m ++ t).length : Int) - 4) = ((m.length : Nat) : Int) := by
    rw [List.length_append, ht]; unfold wrap64; omega
  rw [e, if_neg (by omega), if_pos (by omega), if_pos (by rw [List.length_append]; omega), Int.toNat_natCast, List.take_left, List.drop_left, tail_is k m hm, Option.bind_some, equal_is _ _ (tail_byte _) htb, Option.bind_some]
  by_cases h : tailI ((sumN m : Nat) : Int) = t
  · rw [if_pos (by simpa using h), if_pos h, clone_is m (by omega), Option.bind_some]
  · rw [if_neg (by simpa using h), if_neg h]

theorem xor8 (v d : Int) (hv : Byte v) (hd1 : 1 ≤ d) (hd2 : d ≤ 255) : Byte (Go.bits .xor .u8 v d) ∧ v ≠ Go.bits .xor .u8 v d := by
  obtain ⟨a, rfl⟩ := Int.eq_ofNat_of_zero_le hv.1
  obtain ⟨b, rfl⟩ := Int.eq_ofNat_of_zero_le (show 0 ≤ d by omega)
  have ha : a < 256 := by have := hv.2; omega
  have hb : b < 256 := by omega
  have hx : a ^^^ b < 256 := Nat.xor_lt_two_pow (n := 8) ha hb
  have ha' : a % 2 ^ IntKind.u8.bits = a := Nat.mod_eq_of_lt ha
  have hb' : b % 2 ^ IntKind.u8.bits = b := Nat.mod_eq_of_lt hb
  have e : Go.bits .xor .u8 (a : Int) (b : Int) = IntKind.u8.wrap ((a ^^^ b : Nat) : Int) := by
    simp only [Go.bits, BitVec.ofInt_natCast, BitVec.toNat_xor, BitVec.toNat_ofNat, ha', hb']
  rw [e, IntKind.wrap_u8]
  refine ⟨by unfold Byte; omega, fun h => ?_⟩
  have h1 : a ^^^ b = a ^^^ 0 := by rw [Nat.xor_zero]; omega
  rw [Nat.xor_comm a b, Nat.xor_comm a 0] at h1
  have := xor_inj h1
  omega

theorem u16_nat {a : Int} (h : (Lit.int .u16 a).wf = true) : 0 ≤ a ∧ a ≤ 65535 := by
  have := of_decide_eq_true (p := IntKind.u16.min ≤ a ∧ a ≤ IntKind.u16.max) (by simpa [Lit.wf] using h)
  have h1 : IntKind.u16.min = 0 := by decide
  have h2 : IntKind.u16.max = 65535 := by decide
  omega

theorem mem_set {l : List Int} {i : Nat} {v : Int} (hl : ∀ x ∈ l, Byte x) (hv : Byte v) : ∀ x ∈ l.set i v, Byte x := by
  intro x hx
  rcases List.mem_or_eq_of_mem_set hx with h | h
  · exact hl x h
  · rw [h]; exact hv

theorem turned_no (k : Nat) (l : List Int) (hn : l.length ≤ 2000) (hl : ∀ x ∈ l, Byte x) (i : Nat) (hi : i < l.length + 4) (d : Int) (hd1 : 1 ≤ d) (hd2 : d ≤ 255) :
    sum_Open.f (k + 2) ((l ++ tailI ((sumN l : Nat) : Int)).set i (Go.bits .xor .u8 (rd (l ++ tailI ((sumN l : Nat) : Int)) (i : Int)) d)) = some ([], 13) := by
  generalize hs : l ++ tailI ((sumN l : Nat) : Int) = s
  have hlen : s.length = l.length + 4 := by rw [← hs, List.length_append]; rfl
  have hb : ∀ x ∈ s, Byte x := by
    intro x hx
    rw [← hs] at hx
    rcases List.mem_append.mp hx with h | h
    · exact hl x h
    · exact tail_byte _ x h
  have hi' : i < s.length := by omega
  have hrd : rd s (i : Int) = s[i] := by
    unfold rd
    rw [List.getD_eq_getElem?_getD, Int.toNat_natCast, List.getElem?_eq_getElem hi']
    rfl
  rw [hrd]
  obtain ⟨x1, x2⟩ := xor8 s[i] d (hb _ (List.getElem_mem hi')) hd1 hd2
  generalize Go.bits .xor .u8 s[i] d = v at x1 x2 ⊢
  subst hs
  by_cases hlt : i < l.length
  · rw [List.set_append_left _ _ hlt, open_is k _ _ (by rw [List.length_set]; omega) rfl (mem_set hl x1) (tail_byte _), if_neg]
    intro h
    have h1 := tail_inj (sumN_lt _ (mem_set hl x1)) (sumN_lt _ hl) h
    rw [List.getElem_append_left hlt] at x2
    exact sumN_set l hl i hlt v x1 x2 h1
  · rw [List.set_append_right _ _ (by omega), open_is k _ _ hn (by rw [List.length_set]; rfl) hl (mem_set (tail_byte _) x1), if_neg]
    intro h
    rw [List.getElem_append_right (by omega)] at x2
    have hj : i - l.length < ((tailI ((sumN l : Nat) : Int)).set (i - l.length) v).length := by rw [List.length_set]; show i - l.length < 4; omega
    have := List.getElem_set_self (l := tailI ((sumN l : Nat) : Int)) (i := i - l.length) (a := v) hj
    apply x2
    rw [← this]
    congr 1

theorem SumTurned : intarsialaw02_SumTurned.Pure := by
  intro l0 a1 a2 hm hn hw w1 w2
  have hl : ∀ x ∈ l0, Byte x := fun x hx => wf_byte (hw x hx)
  have h1 := u16_nat w1
  have h2 := wf_byte w2
  unfold Byte at h2
  refine ⟨4, ?_⟩
  unfold intarsialaw02_SumTurned.f
  by_cases h : (l0.length : Int) > 2000
  · rw [if_pos h]; rfl
  · rw [if_neg h]
    have hn2 : l0.length ≤ 2000 := by omega
    have htl : (tailI ((sumN l0 : Nat) : Int)).length = 4 := rfl
    rw [seal_is 2 l0 hn2 hl, Option.bind_some, open_is 2 l0 _ hn2 htl hl (tail_byte _), if_pos rfl, Option.bind_some]
    rw [if_pos rfl, if_pos rfl]
    have hlen : ((l0 ++ tailI ((sumN l0 : Nat) : Int)).length : Int) = (l0.length : Int) + 4 := by rw [List.length_append, htl]; omega
    have ew : wrap64 ((l0.length : Int) + 4) = (l0.length : Int) + 4 := by unfold wrap64; omega
    have ew1 : wrap64 a1 = a1 := by unfold wrap64; omega
    rw [hlen, ew]
    simp only [intarsialaw02_SumTurned.j0]
    rw [if_neg (by simp), hlen, if_neg (by omega), ew1, Int.tmod_eq_emod_of_nonneg h1.1]
    have hm0 : 0 ≤ a1 % ((l0.length : Int) + 4) := Int.emod_nonneg _ (by omega)
    have hm1 : a1 % ((l0.length : Int) + 4) < (l0.length : Int) + 4 := Int.emod_lt_of_pos _ (by omega)
    obtain ⟨i, hi⟩ := Int.eq_ofNat_of_zero_le hm0
    rw [hi] at hm0 hm1 ⊢
    rw [if_pos hm0, if_pos hm1, Int.toNat_natCast, Int.tmod_eq_emod_of_nonneg h2.1]
    have hd : (1 + a2 % 255) % 256 = 1 + a2 % 255 := by omega
    rw [hd, turned_no 1 l0 hn2 hl i (by omega) _ (by omega) (by omega), Option.bind_some, if_pos rfl]
    rfl

end Go.Proofs.Ytoklhnncdpoljaa.Pure
