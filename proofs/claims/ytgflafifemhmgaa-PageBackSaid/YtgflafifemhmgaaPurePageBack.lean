/- The law of a page that comes back, in plain terms. -/
import Derived.Test.YtgflafifemhmgaaPages
import Derived.Test.YtgflafifemhmgaaMPgx9
namespace Go.Proofs.Ytgflafifemhmgaa.Pure
open Go.RowKit Go.Proofs.Ytgflafifemhmgaa.Hand Go.Proofs.Ytgflafifemhmgaa.Crc Go.Proofs.Ytgflafifemhmgaa.MPg Go.Proofs.Ytgflafifemhmgaa.Sums Go.Proofs.Ytgflafifemhmgaa.Pages Go.Proofs.YtgflafifemhmgaaW.PrintWords Go.Proofs.YtgflafifemhmgaaW.PrintLast
theorem xor8 (v d : Int) (hv : Byte v) (hd1 : 1 ≤ d) (hd2 : d ≤ 255) : Byte (Go.bits .xor .u8 v d) ∧ v ≠ Go.bits .xor .u8 v d := by
  obtain ⟨a, rfl⟩ := Int.eq_ofNat_of_zero_le hv.1
  obtain ⟨b, rfl⟩ := Int.eq_ofNat_of_zero_le (show 0 ≤ d by omega)
  have ha : a < 256 := by have := hv.2; omega
  have hb : b < 256 := by omega
  have hx : a ^^^ b < 256 := Nat.xor_lt_two_pow (n := 8) ha hb
  have ha' : a % 2 ^ IntKind.u8.bits = a := Nat.mod_eq_of_lt ha
  have hb' : b % 2 ^ IntKind.u8.bits = b := Nat.mod_eq_of_lt hb
  have e : Go.bits .xor .u8 (a : Int) (b : Int) = IntKind.u8.wrap ((a ^^^ b : Nat) : Int) := by
    simp only [Go.bits, BitVec.ofInt_natCast, BitVec.toNat_xor, BitVec.toNat_ofNat, ha', hb']
  rw [e, IntKind.wrap_u8]
  refine ⟨by unfold Byte; omega, fun h => ?_⟩
  have h1 : a ^^^ b = a ^^^ 0 := by rw [Nat.xor_zero]; omega
  rw [Nat.xor_comm a b, Nat.xor_comm a 0] at h1
  have := xor_inj h1
  omega
/-- A block that was laid is opened as it was. -/
theorem opened_sealed (kind id : Int) (l : List Int) (h1 : ¬ (kind < 1 ∨ 5 < kind)) (h2 : ¬ (id < 0 ∨ 3000 < id)) (h3 : ¬ 246 < l.length) :
    opened (headed kind id l ++ tailI ((sumN (headed kind id l) : Nat) : Int)) = (kind, id, l, 0) := by
  have hs : sealed kind id l = (headed kind id l ++ tailI ((sumN (headed kind id l) : Nat) : Int), 0) := by
    unfold sealed
    rw [if_neg h1, if_neg h2, if_neg h3]
  have hl := headed_len kind id l (by omega)
  generalize ht : tailI ((sumN (headed kind id l) : Nat) : Int) = t at *
  have htl : t.length = 4 := by rw [← ht]; rfl
  have e0 : rd (headed kind id l ++ t) 0 = kind := by
    show kind % 256 = kind
    omega
  have e1 : idOf (headed kind id l ++ t) = id := by
    unfold idOf
    show 256 * (256 * (id / 65536 % 256) + id / 256 % 256) + id % 256 = id
    omega
  have e2 := headed_45 kind id l t (by omega)
  have e3 : bodyOf (headed kind id l ++ t) = l := by
    unfold bodyOf
    rw [e2]
    unfold headed
    have e5 : (6 + (l.length : Int)).toNat = 6 + l.length := by omega
    rw [e5, List.append_assoc, List.append_assoc]
    generalize hh : [kind % 256, id / 65536 % 256, id / 256 % 256, id % 256, (l.length : Int) / 256 % 256, (l.length : Int) % 256] = hd
    have hhl : hd.length = 6 := by rw [← hh]; rfl
    rw [show 6 + l.length = hd.length + l.length by omega, List.take_append, List.take_of_length_le (by omega), show hd.length + l.length - hd.length = l.length by omega, List.take_append, List.take_of_length_le (Nat.le_refl _), Nat.sub_self, List.take_zero, List.append_nil, show 6 = hd.length from hhl.symm, List.drop_left]
  unfold opened
  rw [if_pos (by rw [List.length_append]; omega), show (252 : Nat) = (headed kind id l).length from hl.symm, List.take_left, List.drop_left, if_pos ht, e0, e1, e2, e3, if_neg (by omega), if_pos hs]
/-- One byte changed: the sum does not fit. -/
theorem opened_turned (m t : List Int) (hm : m.length = 252) (ht : t = tailI ((sumN m : Nat) : Int)) (hb : ∀ x ∈ m, Byte x) (i : Nat) (hi : i < 256) (v : Int) (hv : Byte v) (hne : rd (m ++ t) (i : Int) ≠ v) :
    (opened ((m ++ t).set i v)).2.2.2 = 13 := by
  have htl : t.length = 4 := by rw [ht]; rfl
  have hne' : ¬ tailI ((sumN (((m ++ t).set i v).take 252) : Nat) : Int) = ((m ++ t).set i v).drop 252 := by
    by_cases h : i < m.length
    · rw [List.set_append_left _ _ h, List.take_left' (by rw [List.length_set]; exact hm), List.drop_left' (by rw [List.length_set]; exact hm), ht]
      have hrd : rd (m ++ t) (i : Int) = m[i] := by
        unfold rd
        rw [Int.toNat_natCast, List.getD_eq_getElem?_getD, List.getElem?_append_left h, List.getElem?_eq_getElem h]
        rfl
      rw [hrd] at hne
      intro he
      refine sumN_set m hb i h v hv hne (tail_inj (sumN_lt _ ?_) (sumN_lt _ hb) he)
      intro x hx
      rcases List.mem_or_eq_of_mem_set hx with h1 | h1
      · exact hb x h1
      · rw [h1]; exact hv
    · have hge : m.length ≤ i := by omega
      rw [List.set_append_right _ _ hge, List.take_left' hm, List.drop_left' hm]
      have hit : i - m.length < t.length := by omega
      have hrd : rd (m ++ t) (i : Int) = t[i - m.length] := by
        unfold rd
        rw [Int.toNat_natCast, List.getD_eq_getElem?_getD, List.getElem?_append_right hge, List.getElem?_eq_getElem hit]
        rfl
      rw [hrd] at hne
      intro he
      rw [← ht] at he
      have h1 : t[i - m.length]? = (t.set (i - m.length) v)[i - m.length]? := by rw [← he]
      rw [List.getElem?_set_self hit, List.getElem?_eq_getElem hit] at h1
      exact hne (Option.some.inj h1)
  unfold opened
  rw [if_pos (by rw [List.length_set, List.length_append]; omega), if_neg hne']
theorem back (kind id : Int) (l : List Int) (at_ by_ : Int) (hl : ∀ x ∈ l, Byte x) (ha : Byte at_) (hby : Byte by_) : intarsialaw06_PageBack.f 3001 kind id l at_ by_ = some true := by
  unfold intarsialaw06_PageBack.f
  by_cases h : (l.length : Int) > 300
  · rw [if_pos h]; rfl
  · rw [if_neg h, pseal 2999 kind id l hl, Option.bind_some]
    rcases sealed_err kind id l with hz | ⟨hz, hnil⟩
    · rw [if_pos hz]
      have hs := hz
      unfold sealed at hs
      by_cases h1 : kind < 1 ∨ 5 < kind
      · rw [if_pos h1] at hs; exact absurd hs (by decide)
      · rw [if_neg h1] at hs
        by_cases h2 : id < 0 ∨ 3000 < id
        · rw [if_pos h2] at hs; exact absurd hs (by decide)
        · rw [if_neg h2] at hs
          by_cases h3 : 246 < l.length
          · rw [if_pos h3] at hs; exact absurd hs (by decide)
          · have hse : sealed kind id l = (headed kind id l ++ tailI ((sumN (headed kind id l) : Nat) : Int), 0) := by
              unfold sealed
              rw [if_neg h1, if_neg h2, if_neg h3]
            have hhb := headed_byte kind id l hl
            have hhl := headed_len kind id l (by omega)
            have hob := opened_sealed kind id l h1 h2 h3
            rw [hse]
            dsimp only
            have hbb : ∀ x ∈ headed kind id l ++ tailI ((sumN (headed kind id l) : Nat) : Int), Byte x := fun x hx => (List.mem_append.mp hx).elim (hhb x) (tail_byte _ x)
            rw [popen 2997 _ hbb, Option.bind_some, hob]
            dsimp only
            rw [if_pos rfl, if_pos rfl, if_pos rfl, if_pos rfl]
            have hlen : (headed kind id l ++ tailI ((sumN (headed kind id l) : Nat) : Int)).length = 256 := by rw [List.length_append, hhl]; rfl
            rw [hlen, show (((256 : Nat) : Int) != 256) = false from rfl, intarsialaw06_PageBack.j0, if_neg (by decide)]
            obtain ⟨ha0, ha1⟩ := ha
            rw [if_pos ha0, hlen, if_pos (by omega)]
            obtain ⟨i, rfl⟩ := Int.eq_ofNat_of_zero_le ha0
            have hd : 1 ≤ (1 + Int.tmod by_ 255) % 256 ∧ (1 + Int.tmod by_ 255) % 256 ≤ 255 := by
              obtain ⟨hb0, hb1⟩ := hby
              rw [Int.tmod_eq_emod_of_nonneg hb0]
              omega
            have hx := xor8 (rd (headed kind id l ++ tailI ((sumN (headed kind id l) : Nat) : Int)) (i : Int)) _ (rd_byte _ hbb _) hd.1 hd.2
            have hot := opened_turned (headed kind id l) _ hhl rfl hhb i (by omega) _ hx.1 hx.2
            rw [Int.toNat_natCast, popen 2996 _ ?_, Option.bind_some, if_pos hot]
            · rfl
            · intro x hxx
              rcases List.mem_or_eq_of_mem_set hxx with h1 | h1
              · exact hbb x h1
              · rw [h1]; exact hx.1
    · rw [if_neg hz, hnil]
      rfl
end Go.Proofs.Ytgflafifemhmgaa.Pure
