/- Plain laws of pages: what is opened. -/
import Derived.Test.YtgflafifemhmgaaSums
import Derived.Test.YtgflafifemhmgaaMPgx6
namespace Go.Proofs.Ytgflafifemhmgaa.Pages
open Go.RowKit Go.Proofs.Ytgflafifemhmgaa.Hand Go.Proofs.Ytgflafifemhmgaa.Crc Go.Proofs.Ytgflafifemhmgaa.MPg Go.Proofs.Ytgflafifemhmgaa.Sums Go.Proofs.YtgflafifemhmgaaW.PrintWords Go.Proofs.YtgflafifemhmgaaW.PrintLast

theorem or_add (n x : Int) (h0 : 0 ≤ n) (h1 : n < 1099511627776) (hx : Byte x) : Go.bits .or .i64 (n * 256) x = 256 * n + x := by
  obtain ⟨hx, hx1⟩ := hx
  obtain ⟨a, rfl⟩ := Int.eq_ofNat_of_zero_le h0
  obtain ⟨b, rfl⟩ := Int.eq_ofNat_of_zero_le hx
  have := (Go.bits_nat .i64 63 (by decide +kernel) (fun m h0 h1 => by rw [IntKind.wrap_i64]; omega) (2 ^ 8 * a) b (by omega) (by omega)).2
  rw [show ((a : Nat) : Int) * 256 = ((2 ^ 8 * a : Nat) : Int) by omega, this, ← Nat.two_pow_add_eq_or_of_lt (by omega : b < 2 ^ 8) a]
  omega
theorem rd_byte (l : List Int) (hl : ∀ x ∈ l, Byte x) (i : Int) : Byte (rd l i) := by
  unfold rd
  rw [List.getD_eq_getElem?_getD]
  cases h : l[i.toNat]? with
  | none => exact ⟨by decide, by decide⟩
  | some x => exact hl x (List.mem_of_getElem? h)
theorem get_step (k : Nat) (l : List Int) (hl : ∀ x ∈ l, Byte x) (w n i : Int) (h0 : 0 ≤ n) (h1 : n < 1099511627776) (hi0 : 0 ≤ i) (hi : i < w) (hw : w ≤ l.length) (hw6 : w ≤ 6) : num_Get.l0 (k + 1) l n w i = num_Get.l0 k l (256 * n + rd l i) w (i + 1) := by
  have hb := rd_byte l hl i
  have hb' := hb
  obtain ⟨hb0, hb1⟩ := hb'
  rw [num_Get.l0, if_pos (by omega), if_pos (by omega), if_pos (by omega), wrap_id (x := n * 256) (by omega) (by omega), wrap_id (x := rd l i) (by omega) (by omega), or_add n _ h0 h1 hb, wrap_id (x := i + 1) (by omega) (by omega)]
theorem rget_step (k : Nat) (l : List Int) (hl : ∀ x ∈ l, Byte x) (w n i : Int) (h0 : 0 ≤ n) (h1 : n < 1099511627776) (hi0 : 0 ≤ i) (hi : i < w) (hw : w ≤ l.length) (hw6 : w ≤ 6) : intarsiaref01_Get.l0 (k + 1) l w n i = intarsiaref01_Get.l0 k l w (256 * n + rd l i) (i + 1) := by
  have hb := rd_byte l hl i
  obtain ⟨hb0, hb1⟩ := hb
  rw [intarsiaref01_Get.l0, if_pos (by omega), if_pos (by omega), if_pos (by omega), wrap_id (x := 256 * n) (by omega) (by omega), wrap_id (x := rd l i) (by omega) (by omega), wrap_id (x := 256 * n + rd l i) (by omega) (by omega), wrap_id (x := i + 1) (by omega) (by omega)]
theorem get1 (k : Nat) (l : List Int) (hl : ∀ x ∈ l, Byte x) (h : 1 ≤ l.length) : num_Get.f (k + 2) l 1 = some (256 * 0 + rd l 0, 0) := by
  have b0 := rd_byte l hl 0
  unfold num_Get.f
  rw [show num_may.f 1 = some true from rfl, Option.bind_some, if_pos rfl, if_neg (by omega)]
  rw [get_step (k + 1) l hl 1 0 0 (by omega) (by omega) (by omega) (by omega) (by omega) (by omega), num_Get.l0, if_neg (by omega)]
theorem get2 (k : Nat) (l : List Int) (hl : ∀ x ∈ l, Byte x) (h : 2 ≤ l.length) : num_Get.f (k + 3) l 2 = some (256 * (256 * 0 + rd l 0) + rd l 1, 0) := by
  have b0 := rd_byte l hl 0
  have b1 := rd_byte l hl 1
  unfold Byte at b0 b1
  unfold num_Get.f
  rw [show num_may.f 2 = some true from rfl, Option.bind_some, if_pos rfl, if_neg (by omega)]
  rw [get_step (k + 2) l hl 2 0 0 (by omega) (by omega) (by omega) (by omega) (by omega) (by omega), get_step (k + 1) l hl 2 _ _ (by omega) (by omega) (by omega) (by omega) (by omega) (by omega), num_Get.l0, if_neg (by omega)]
  rfl
theorem get3 (k : Nat) (l : List Int) (hl : ∀ x ∈ l, Byte x) (h : 3 ≤ l.length) : num_Get.f (k + 4) l 3 = some (256 * (256 * (256 * 0 + rd l 0) + rd l 1) + rd l 2, 0) := by
  have b0 := rd_byte l hl 0
  have b1 := rd_byte l hl 1
  have b2 := rd_byte l hl 2
  unfold Byte at b0 b1 b2
  unfold num_Get.f
  rw [show num_may.f 3 = some true from rfl, Option.bind_some, if_pos rfl, if_neg (by omega)]
  rw [get_step (k + 3) l hl 3 0 0 (by omega) (by omega) (by omega) (by omega) (by omega) (by omega), get_step (k + 2) l hl 3 _ _ (by omega) (by omega) (by omega) (by omega) (by omega) (by omega)]
  rw [show (0 : Int) + 1 = 1 from rfl, show (1 : Int) + 1 = 2 from rfl, get_step (k + 1) l hl 3 _ _ (by omega) (by omega) (by omega) (by omega) (by omega) (by omega), num_Get.l0, if_neg (by omega)]
theorem rget2 (k : Nat) (l : List Int) (hl : ∀ x ∈ l, Byte x) (h : 2 ≤ l.length) : intarsiaref01_Get.f (k + 4) l 2 = some (256 * (256 * 0 + rd l 0) + rd l 1, 0) := by
  have b0 := rd_byte l hl 0
  have b1 := rd_byte l hl 1
  unfold Byte at b0 b1
  unfold intarsiaref01_Get.f
  rw [if_neg (by decide +kernel), show decide ((2 : Int) > 6) = false from rfl, intarsiaref01_Get.j0, if_neg (by decide), if_neg (by omega)]
  rw [rget_step (k + 2) l hl 2 0 0 (by omega) (by omega) (by omega) (by omega) (by omega) (by omega), rget_step (k + 1) l hl 2 _ _ (by omega) (by omega) (by omega) (by omega) (by omega) (by omega), intarsiaref01_Get.l0, if_neg (by omega)]
  rfl
theorem rget3 (k : Nat) (l : List Int) (hl : ∀ x ∈ l, Byte x) (h : 3 ≤ l.length) : intarsiaref01_Get.f (k + 5) l 3 = some (256 * (256 * (256 * 0 + rd l 0) + rd l 1) + rd l 2, 0) := by
  have b0 := rd_byte l hl 0
  have b1 := rd_byte l hl 1
  have b2 := rd_byte l hl 2
  unfold Byte at b0 b1 b2
  unfold intarsiaref01_Get.f
  rw [if_neg (by decide +kernel), show decide ((3 : Int) > 6) = false from rfl, intarsiaref01_Get.j0, if_neg (by decide), if_neg (by omega)]
  rw [rget_step (k + 3) l hl 3 0 0 (by omega) (by omega) (by omega) (by omega) (by omega) (by omega), rget_step (k + 2) l hl 3 _ _ (by omega) (by omega) (by omega) (by omega) (by omega) (by omega)]
  rw [show (0 : Int) + 1 = 1 from rfl, show (1 : Int) + 1 = 2 from rfl, rget_step (k + 1) l hl 3 _ _ (by omega) (by omega) (by omega) (by omega) (by omega) (by omega), intarsiaref01_Get.l0, if_neg (by omega)]
theorem rd_drop (l : List Int) (n i : Nat) : rd (l.drop n) (i : Int) = rd l ((n + i : Nat) : Int) := by
  unfold rd
  rw [Int.toNat_natCast, Int.toNat_natCast, List.getD_eq_getElem?_getD, List.getD_eq_getElem?_getD, List.getElem?_drop]

/-- Number at place i of n bytes. -/
def idOf (b : List Int) : Int := 256 * (256 * rd b 1 + rd b 2) + rd b 3
def lenOf (b : List Int) : Int := 256 * rd b 4 + rd b 5
def bodyOf (b : List Int) : List Int := (b.take (6 + lenOf b).toNat).drop 6
/-- What both tell of a block. -/
def opened (b : List Int) : Int × Int × List Int × Int :=
  if b.length = 256 then (if tailI ((sumN (b.take 252) : Nat) : Int) = b.drop 252 then (if lenOf b > 246 then (0, 0, [], 4) else if sealed (rd b 0) (idOf b) (bodyOf b) = (b, 0) then (rd b 0, idOf b, bodyOf b, 0) else (0, 0, [], 4)) else (0, 0, [], 13)) else (0, 0, [], 2)
theorem sealed_err (kind id : Int) (l : List Int) : (sealed kind id l).2 = 0 ∨ (sealed kind id l).2 ≠ 0 ∧ (sealed kind id l).1 = [] := by
  unfold sealed
  by_cases h1 : kind < 1 ∨ 5 < kind
  · rw [if_pos h1]; exact .inr ⟨by decide, rfl⟩
  · rw [if_neg h1]
    by_cases h2 : id < 0 ∨ 3000 < id
    · rw [if_pos h2]; exact .inr ⟨by decide, rfl⟩
    · rw [if_neg h2]
      by_cases h3 : 246 < l.length
      · rw [if_pos h3]; exact .inr ⟨by decide, rfl⟩
      · rw [if_neg h3]; exact .inl rfl
theorem sealed_byte (kind id : Int) (l : List Int) (hl : ∀ x ∈ l, Byte x) : ∀ x ∈ (sealed kind id l).1, Byte x := by
  unfold sealed
  intro x hx
  by_cases h1 : kind < 1 ∨ 5 < kind
  · rw [if_pos h1] at hx; cases hx
  · rw [if_neg h1] at hx
    by_cases h2 : id < 0 ∨ 3000 < id
    · rw [if_pos h2] at hx; cases hx
    · rw [if_neg h2] at hx
      by_cases h3 : 246 < l.length
      · rw [if_pos h3] at hx; cases hx
      · rw [if_neg h3] at hx
        exact (List.mem_append.mp hx).elim (headed_byte _ _ _ hl x) (tail_byte _ x)
theorem body_byte (b : List Int) (hb : ∀ x ∈ b, Byte x) : ∀ x ∈ bodyOf b, Byte x := fun x hx => hb x (List.mem_of_mem_take (List.mem_of_mem_drop hx))
theorem popen (k : Nat) (b : List Int) (hb : ∀ x ∈ b, Byte x) : page_Open.f (k + 4) b = some (opened b) := by
  unfold page_Open.f opened
  by_cases hn : b.length = 256
  · rw [if_pos hn, if_pos hn]
    have e : b.take 252 ++ b.drop 252 = b := List.take_append_drop 252 b
    have ho := open_is (k + 2) (b.take 252) (b.drop 252) (by rw [List.length_take]; omega) (by rw [List.length_drop]; omega) (fun x hx => hb x (List.mem_of_mem_take hx)) (fun x hx => hb x (List.mem_of_mem_drop hx))
    rw [e] at ho
    rw [ho]
    by_cases hs : tailI ((sumN (b.take 252) : Nat) : Int) = b.drop 252
    · rw [if_pos hs, if_pos hs, Option.bind_some, if_pos rfl]
      have hd1 : ∀ x ∈ b.drop 1, Byte x := fun x hx => hb x (List.mem_of_mem_drop hx)
      have hd4 : ∀ x ∈ b.drop 4, Byte x := fun x hx => hb x (List.mem_of_mem_drop hx)
      rw [get1 (k + 2) b hb (by omega), Option.bind_some, if_pos rfl, get3 k _ hd1 (by rw [List.length_drop]; omega), Option.bind_some, if_pos rfl, get2 (k + 1) _ hd4 (by rw [List.length_drop]; omega), Option.bind_some, if_pos rfl]
      have e1 : (256 * (256 * (256 * 0 + rd (b.drop 1) 0) + rd (b.drop 1) 1) + rd (b.drop 1) 2) = idOf b := by
        have h0 : rd (b.drop 1) 0 = rd b 1 := rd_drop b 1 0
        have h1 : rd (b.drop 1) 1 = rd b 2 := rd_drop b 1 1
        have h2 : rd (b.drop 1) 2 = rd b 3 := rd_drop b 1 2
        unfold idOf
        rw [h0, h1, h2]
        omega
      have e2 : (256 * (256 * 0 + rd (b.drop 4) 0) + rd (b.drop 4) 1) = lenOf b := by
        have h0 : rd (b.drop 4) 0 = rd b 4 := rd_drop b 4 0
        have h1 : rd (b.drop 4) 1 = rd b 5 := rd_drop b 4 1
        unfold lenOf
        rw [h0, h1]
        omega
      have e3 : 256 * 0 + rd b 0 = rd b 0 := by omega
      have hl0 : 0 ≤ lenOf b := by
        have h4 := rd_byte b hb 4
        have h5 := rd_byte b hb 5
        unfold Byte at h4 h5
        unfold lenOf
        omega
      rw [e1, e2, e3]
      by_cases hg : lenOf b > 246
      · rw [if_pos hg, if_pos hg]
      · rw [if_neg hg, if_neg hg, if_pos hl0, show (b.take (6 + lenOf b).toNat).drop 6 = bodyOf b from rfl, pseal (k + 2) _ _ _ (body_byte b hb), Option.bind_some]
        by_cases hz : (sealed (rd b 0) (idOf b) (bodyOf b)).2 = 0
        · rw [if_pos hz]
          by_cases hq : b = (sealed (rd b 0) (idOf b) (bodyOf b)).1
          · rw [if_pos, if_pos (c := sealed (rd b 0) (idOf b) (bodyOf b) = (b, 0)) (Prod.ext hq.symm hz)]
            exact beq_iff_eq.mpr ((str_eq hb (sealed_byte _ _ _ (body_byte b hb))).mpr hq)
          · rw [if_neg, if_neg (c := sealed (rd b 0) (idOf b) (bodyOf b) = (b, 0)) (fun h => hq (by rw [h]))]
            intro h
            exact hq ((str_eq hb (sealed_byte _ _ _ (body_byte b hb))).mp (beq_iff_eq.mp h))
        · rw [if_neg hz, if_neg (c := sealed (rd b 0) (idOf b) (bodyOf b) = (b, 0)) (fun h => hz (by rw [h]))]
    · rw [if_neg hs, if_neg hs, Option.bind_some, if_neg (by decide)]
  · rw [if_neg hn, if_neg hn]
/-- What is laid says its own length. -/
theorem headed_45 (kind id : Int) (l : List Int) (t : List Int) (h : l.length ≤ 246) : lenOf (headed kind id l ++ t) = l.length := by
  unfold lenOf headed
  show 256 * ((l.length : Int) / 256 % 256) + (l.length : Int) % 256 = l.length
  omega
theorem ropen (k : Nat) (b : List Int) (hb : ∀ x ∈ b, Byte x) (hk : 3000 ≤ k) : intarsiaref06_Open.f k b = some (opened b) := by
  unfold intarsiaref06_Open.f opened
  by_cases hn : b.length = 256
  · obtain ⟨k, rfl⟩ : ∃ j, k = j + 5 := ⟨k - 5, by omega⟩
    rw [if_pos (by omega), if_pos hn]
    have e : b.take 252 ++ b.drop 252 = b := List.take_append_drop 252 b
    have ho := refopen_is (k + 5) (b.take 252) (b.drop 252) (by rw [List.length_take]; omega) (by rw [List.length_drop]; omega) (fun x hx => hb x (List.mem_of_mem_take hx)) (fun x hx => hb x (List.mem_of_mem_drop hx)) (by rw [List.length_take]; omega)
    rw [e] at ho
    rw [ho]
    by_cases hs : tailI ((sumN (b.take 252) : Nat) : Int) = b.drop 252
    · rw [if_pos hs, if_pos hs, Option.bind_some, if_pos rfl]
      have hd1 : ∀ x ∈ b.drop 1, Byte x := fun x hx => hb x (List.mem_of_mem_drop hx)
      have hd4 : ∀ x ∈ b.drop 4, Byte x := fun x hx => hb x (List.mem_of_mem_drop hx)
      have e1 : (256 * (256 * (256 * 0 + rd (b.drop 1) 0) + rd (b.drop 1) 1) + rd (b.drop 1) 2) = idOf b := by
        have h0 : rd (b.drop 1) 0 = rd b 1 := rd_drop b 1 0
        have h1 : rd (b.drop 1) 1 = rd b 2 := rd_drop b 1 1
        have h2 : rd (b.drop 1) 2 = rd b 3 := rd_drop b 1 2
        unfold idOf
        rw [h0, h1, h2]
        omega
      have e2 : (256 * (256 * 0 + rd (b.drop 4) 0) + rd (b.drop 4) 1) = lenOf b := by
        have h0 : rd (b.drop 4) 0 = rd b 4 := rd_drop b 4 0
        have h1 : rd (b.drop 4) 1 = rd b 5 := rd_drop b 4 1
        unfold lenOf
        rw [h0, h1]
        omega
      have b0 := rd_byte b hb 0
      have hl0 : 0 ≤ lenOf b := by
        have h4 := rd_byte b hb 4
        have h5 := rd_byte b hb 5
        unfold Byte at h4 h5
        unfold lenOf
        omega
      have hl1 : lenOf b < 65536 := by
        have h4 := rd_byte b hb 4
        have h5 := rd_byte b hb 5
        unfold Byte at h4 h5
        unfold lenOf
        omega
      have ew : wrap64 (6 + mn (lenOf b) 246) = 6 + mn (lenOf b) 246 := by
        unfold mn
        split <;> exact wrap_id (by omega) (by omega)
      have hm0 : 0 ≤ mn (lenOf b) 246 ∧ mn (lenOf b) 246 ≤ 246 := by
        unfold mn
        split <;> omega
      unfold Byte at b0
      rw [if_pos (by omega), if_pos (by omega), rget3 k _ hd1 (by rw [List.length_drop]; omega), Option.bind_some, if_pos (by omega), rget2 (k + 1) _ hd4 (by rw [List.length_drop]; omega), Option.bind_some]
      rw [e1, e2]
      rw [Option.bind_some, wrap_id (x := rd b 0) (by omega) (by omega)]
      dsimp only
      rw [ew, if_pos (by omega), if_pos (by omega), if_pos (by simp; omega), Option.bind_some, List.nil_append]
      have hbb : ∀ x ∈ (b.take (6 + mn (lenOf b) 246).toNat).drop 6, Byte x := fun x hx => hb x (List.mem_of_mem_take (List.mem_of_mem_drop hx))
      rw [rseal (k + 5) _ _ _ hbb (by simp; omega) hk, Option.bind_some]
      by_cases hg : lenOf b > 246
      · rw [if_pos hg]
        have em : mn (lenOf b) 246 = 246 := by
          unfold mn
          split <;> omega
        rw [em]
        by_cases hz : (sealed (rd b 0) (idOf b) ((b.take (6 + 246 : Int).toNat).drop 6)).2 = 0
        · rw [if_pos hz, if_neg]
          intro h
          have h := (str_eq (sealed_byte _ _ _ (fun x hx => hb x (List.mem_of_mem_take (List.mem_of_mem_drop hx)))) hb).mp h
          have hlen : ((b.take (6 + 246 : Int).toNat).drop 6).length = 246 := by simp; omega
          generalize hbo : (b.take (6 + 246 : Int).toNat).drop 6 = bo at *
          unfold sealed at h hz
          by_cases h1 : rd b 0 < 1 ∨ 5 < rd b 0
          · rw [if_pos h1] at hz; cases hz
          · rw [if_neg h1] at h hz
            by_cases h2 : idOf b < 0 ∨ 3000 < idOf b
            · rw [if_pos h2] at hz; cases hz
            · rw [if_neg h2] at h hz
              rw [if_neg (by omega)] at h
              have h3 := headed_45 (rd b 0) (idOf b) bo (tailI ((sumN (headed (rd b 0) (idOf b) bo) : Nat) : Int)) (by omega)
              dsimp only at h
              rw [h] at h3
              omega
        · rw [if_neg hz]
      · rw [if_neg hg]
        have em : mn (lenOf b) 246 = lenOf b := by
          unfold mn
          split <;> omega
        rw [em, show (b.take (6 + lenOf b).toNat).drop 6 = bodyOf b from rfl]
        by_cases hz : (sealed (rd b 0) (idOf b) (bodyOf b)).2 = 0
        · rw [if_pos hz]
          by_cases hq : (sealed (rd b 0) (idOf b) (bodyOf b)).1 = b
          · rw [if_pos ((str_eq (sealed_byte _ _ _ (body_byte b hb)) hb).mpr hq), if_pos (c := sealed (rd b 0) (idOf b) (bodyOf b) = (b, 0)) (Prod.ext hq hz)]
          · rw [if_neg (fun h => hq ((str_eq (sealed_byte _ _ _ (body_byte b hb)) hb).mp h)), if_neg (c := sealed (rd b 0) (idOf b) (bodyOf b) = (b, 0)) (fun h => hq (by rw [h]))]
        · rw [if_neg hz, if_neg (c := sealed (rd b 0) (idOf b) (bodyOf b) = (b, 0)) (fun h => hz (by rw [h]))]
    · rw [if_neg hs, if_neg hs, Option.bind_some, if_neg (by decide)]
  · rw [if_neg (by omega), if_neg hn]
/-- The law's own loop: each byte of its copy goes up by one; the argument stays. -/
theorem opens_l (k : Nat) (b : List Int) : ∀ (d : Nat) (x : List Int) (i : Nat), i + d = x.length → x.length ≤ 1000 → intarsialaw06_PageOpens.l0 (k + d + 1) b (strOfNums b) x true i = some true := by
  intro d
  induction d with
  | zero =>
    intro x i hi hx
    rw [intarsialaw06_PageOpens.l0, if_neg (by omega), if_pos rfl, if_pos rfl]
    rfl
  | succ d ih =>
    intro x i hi hx
    rw [show k + (d + 1) + 1 = (k + d + 1) + 1 from rfl, intarsialaw06_PageOpens.l0, if_pos (by omega), if_pos (by omega), wrap_id (by omega) (by omega)]
    exact ih _ (i + 1) (by rw [List.length_set]; omega) (by rw [List.length_set]; exact hx)
theorem opened_len (b : List Int) (_h : b.length ≤ 400) : (opened b).2.2.1.length ≤ 400 := by
  unfold opened
  repeat (first | (split) | (show (([] : List Int).length ≤ 400); exact Nat.zero_le _) | (show (bodyOf b).length ≤ 400; unfold bodyOf; rw [List.length_drop, List.length_take]; omega))
theorem opens (b : List Int) (hb : ∀ x ∈ b, Byte x) : intarsialaw06_PageOpens.f 3001 b = some true := by
  unfold intarsialaw06_PageOpens.f
  by_cases h : (b.length : Int) > 400
  · rw [if_pos h]; rfl
  · rw [if_neg h, popen 2997 b hb, Option.bind_some, ropen 3001 b hb (by omega), Option.bind_some, if_pos rfl, if_pos rfl, if_pos rfl, beq_self_eq_true]
    rw [intarsialaw06_PageOpens.j0]
    have hl := opened_len b (by omega)
    obtain ⟨d, hd⟩ : ∃ d, 3000 = d + (opened b).2.2.1.length + 1 := ⟨2999 - (opened b).2.2.1.length, by omega⟩
    rw [hd]
    exact opens_l d b _ _ 0 (by omega) (by omega)
end Go.Proofs.Ytgflafifemhmgaa.Pages
