/- Statement SumGoes: a sum goes on from any one, byte by byte as at once. Condition: none beyond the form's own reach. -/
import Derived.Test.YtoklhnncdpoljaaMSumGoesx1
import Derived.Test.YtoklhnncdpoljaaCrc
namespace Go.Proofs.Ytoklhnncdpoljaa.Pure
open Go.RowKit Go.Proofs.Ytoklhnncdpoljaa.Hand Go.Proofs.Ytoklhnncdpoljaa.Crc Go.Proofs.Ytoklhnncdpoljaa.MSumGoes Go.Proofs.YtoklhnncdpoljaaW.PrintWords Go.Proofs.YtoklhnncdpoljaaW.PrintLast

theorem one_of (l : List Int) (i : Nat) (h : i < l.length) : (l.take (i + 1)).drop i = [l[i]] := by
  rw [List.drop_take, List.drop_eq_getElem_cons h, show i + 1 - i = 1 by omega, List.take_succ_cons, List.take_zero]

theorem goes_loop (c : Nat) (hc : c < 4294967296) (l : List Int) (hl : ∀ x ∈ l, Byte x) (hn : l.length ≤ 500) (d : Nat) : ∀ (k i : Nat), i + d = l.length → d < k →
    intarsialaw02_SumGoes.l0 k (c : Int) l ((notN (crcN (notN c) (l.take i)) : Nat) : Int) (i : Int) = some true := by
  induction d with
  | zero =>
    intro k i hi hk
    obtain ⟨k, rfl⟩ : ∃ m, k = m + 1 := ⟨k - 1, by omega⟩
    simp only [intarsialaw02_SumGoes.l0]
    rw [if_neg (by omega), more_nat c l hc hl, Option.bind_some, List.take_of_length_le (by omega), if_pos rfl]
    rw [show sum_More.f (c : Int) [] = some (c : Int) by rw [more_nat c [] hc (fun x hx => by cases hx)]; show some ((notN (notN c) : Nat) : Int) = _; rw [notN_notN]]
    rw [Option.bind_some, if_pos rfl]
    rfl
  | succ d ih =>
    intro k i hi hk
    obtain ⟨k, rfl⟩ : ∃ m, k = m + 1 := ⟨k - 1, by omega⟩
    have hlt : i < l.length := by omega
    have ew : wrap64 ((i : Int) + 1) = ((i + 1 : Nat) : Int) := by unfold wrap64; omega
    simp only [intarsialaw02_SumGoes.l0]
    rw [if_pos (by omega), if_pos (by omega), ew, if_pos (by omega), if_pos (by omega)]
    have hb := hl _ (List.getElem_mem hlt)
    have ht : ∀ x ∈ l.take i, Byte x := fun x hx => hl x (List.mem_of_mem_take hx)
    have hcr := crcN_lt (l.take i) (notN c) (notN_lt hc) ht
    rw [show (((i + 1 : Nat) : Int)).toNat = i + 1 by omega, show ((i : Int)).toNat = i by omega, one_of l i hlt]
    rw [more_nat _ [l[i]] (notN_lt hcr) (fun x hx => by rw [List.mem_singleton] at hx; rw [hx]; exact hb), Option.bind_some, notN_notN]
    have e : crcN (crcN (notN c) (l.take i)) [l[i]] = crcN (notN c) (l.take (i + 1)) := by
      rw [← crcN_append, List.take_succ_eq_append_getElem hlt]
    rw [e]
    exact ih k (i + 1) (by omega) (by omega)

theorem SumGoes : intarsialaw02_SumGoes.Pure := by
  intro a0 l1 w0 hm hn hw
  obtain ⟨c, rfl, hc⟩ := u32_nat w0
  have hl : ∀ x ∈ l1, Byte x := fun x hx => wf_byte (hw x hx)
  refine ⟨l1.length + 1, ?_⟩
  unfold intarsialaw02_SumGoes.f
  by_cases h : (l1.length : Int) > 500
  · rw [if_pos h]; rfl
  · rw [if_neg h]
    have := goes_loop c hc l1 hl (by omega) l1.length (l1.length + 1) 0 (by omega) (by omega)
    rw [List.take_zero, show crcN (notN c) [] = notN c from rfl, notN_notN] at this
    exact this

end Go.Proofs.Ytoklhnncdpoljaa.Pure
