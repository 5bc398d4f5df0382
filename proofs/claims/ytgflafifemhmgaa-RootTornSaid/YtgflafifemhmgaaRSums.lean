/- Plain laws of sums and numbers, of the functions that the root laws reach. -/
import Derived.Test.YtgflafifemhmgaaMRtx4
import Derived.Test.YtgflafifemhmgaaRootV
namespace Go.Proofs.Ytgflafifemhmgaa.RSums
open Go.RowKit Go.Proofs.Ytgflafifemhmgaa.Hand Go.Proofs.Ytgflafifemhmgaa.Crc Go.Proofs.Ytgflafifemhmgaa.MRt Go.Proofs.YtgflafifemhmgaaW.PrintWords Go.Proofs.YtgflafifemhmgaaW.PrintLast

theorem of_one (k : Nat) (l : List Int) (hl : ∀ x ∈ l, Byte x) : sum_Of.f (k + 2) [l] = some ((sumN l : Nat) : Int) := by
  unfold sum_Of.f
  simp only [sum_Of.l0, List.length_singleton]
  rw [if_pos (by decide), if_pos (by decide), if_pos (by decide)]
  have h : sum_More.f 0 l = some ((sumN l : Nat) : Int) := more_nat 0 l (by decide) hl
  rw [show rd_L3 [l] 0 = l from rfl, h, Option.bind_some, if_neg (by decide +kernel)]

theorem tail_is (k : Nat) (l : List Int) (hl : ∀ x ∈ l, Byte x) : sum_tail.f (k + 2) l = some (tailI ((sumN l : Nat) : Int)) := by
  unfold sum_tail.f
  rw [of_one k l hl, Option.bind_some]
  rfl

theorem equal_is (a b : List Int) (ha : ∀ x ∈ a, Byte x) (hb : ∀ x ∈ b, Byte x) : bytes_Equal.f a b = some (decide (a = b)) := by
  unfold bytes_Equal.f
  by_cases h : a = b
  · subst h; simp
  · have : ¬ (strOfNums a).toList = (strOfNums b).toList := fun e => h ((str_eq ha hb).mp e)
    simp [h, this]

theorem clone_is (l : List Int) (h : l.length < 140737488355328) : bytes_Clone.f l = some l := by
  unfold bytes_Clone.f; rw [if_pos h]

theorem seal_is (k : Nat) (l : List Int) (hn : l.length ≤ 3000) (hl : ∀ x ∈ l, Byte x) : sum_Seal.f (k + 2) l = some (l ++ tailI ((sumN l : Nat) : Int)) := by
  unfold sum_Seal.f
  rw [clone_is l (by omega), Option.bind_some, tail_is k l hl, Option.bind_some, if_pos (by show l.length + 4 < _; omega)]

theorem open_is (k : Nat) (m t : List Int) (hn : m.length ≤ 3000) (ht : t.length = 4) (hm : ∀ x ∈ m, Byte x) (htb : ∀ x ∈ t, Byte x) :
    sum_Open.f (k + 2) (m ++ t) = if tailI ((sumN m : Nat) : Int) = t then some (m, 0) else some ([], 13) := by
  unfold sum_Open.f
  have e : wrap64 (((m ++ t).length : Int) - 4) = ((m.length : Nat) : Int) := by
    rw [List.length_append, ht]; unfold wrap64; omega
  rw [e, if_neg (by omega), if_pos (by omega), if_pos (by rw [List.length_append]; omega), Int.toNat_natCast, List.take_left, List.drop_left, tail_is k m hm, Option.bind_some, equal_is _ _ (tail_byte _) htb, Option.bind_some]
  by_cases h : tailI ((sumN m : Nat) : Int) = t
  · rw [if_pos (by simpa using h), if_pos h, clone_is m (by omega), Option.bind_some]
  · rw [if_neg (by simpa using h), if_neg h]

theorem wrap_id {x : Int} (h0 : -9223372036854775808 ≤ x) (h1 : x ≤ 9223372036854775807) : wrap64 x = x := by
  unfold wrap64; omega
theorem rput_step (k : Nat) (x w : Int) (b : List Int) (i : Int) (h0 : 0 ≤ x) (h1 : x < 281474976710656) (hi0 : 0 ≤ i) (hi : i < w) (hw : w ≤ 6) (hb : b.length ≤ 6) : intarsiaref01_Put.l0 (k + 1) x w b i = intarsiaref01_Put.l0 k (x / 256) w (x % 256 :: b) (i + 1) := by
  have e1 : Int.tmod x 256 % 256 = x % 256 := by rw [Int.tmod_eq_emod_of_nonneg h0]; omega
  have e2 : wrap64 (Int.tdiv x 256) = x / 256 := by rw [Int.tdiv_eq_ediv_of_nonneg h0]; exact wrap_id (by omega) (by omega)
  have e3 : wrap64 (i + 1) = i + 1 := wrap_id (by omega) (by omega)
  rw [intarsiaref01_Put.l0, if_pos hi, Option.bind_some, e1, e2, e3, if_pos (by simp; omega)]
  rfl
theorem rtop3 : ∀ k, intarsiaref01_top.f (k + 8) 3 = some 16777216 := fun _ => by kernel_rfl
theorem rtop2 : ∀ k, intarsiaref01_top.f (k + 8) 2 = some 65536 := fun _ => by kernel_rfl
theorem rput3 (k : Nat) (n : Int) (h0 : 0 ≤ n) (h1 : n < 16777216) : intarsiaref01_Put.f (k + 9) n 3 = some ([n / 65536 % 256, n / 256 % 256, n % 256], 0) := by
  unfold intarsiaref01_Put.f
  rw [if_neg (by decide +kernel), show decide ((3 : Int) > 6) = false from rfl, intarsiaref01_Put.j0, if_neg (by decide +kernel), if_neg (by omega), rtop3, Option.bind_some, if_neg (by omega)]
  rw [show k + 8 = (k + 7) + 1 from rfl, rput_step _ _ _ _ _ h0 (by omega) (by omega) (by omega) (by omega) (by simp), show k + 7 = (k + 6) + 1 from rfl, rput_step _ _ _ _ _ (by omega) (by omega) (by omega) (by omega) (by omega) (by simp), show k + 6 = (k + 5) + 1 from rfl, rput_step _ _ _ _ _ (by omega) (by omega) (by omega) (by omega) (by omega) (by simp), intarsiaref01_Put.l0, if_neg (by omega)]
  have a1 : n / 256 / 256 = n / 65536 := by omega
  rw [a1]
theorem rput2 (k : Nat) (n : Int) (h0 : 0 ≤ n) (h1 : n < 65536) : intarsiaref01_Put.f (k + 9) n 2 = some ([n / 256 % 256, n % 256], 0) := by
  unfold intarsiaref01_Put.f
  rw [if_neg (by decide +kernel), show decide ((2 : Int) > 6) = false from rfl, intarsiaref01_Put.j0, if_neg (by decide +kernel), if_neg (by omega), rtop2, Option.bind_some, if_neg (by omega)]
  rw [show k + 8 = (k + 7) + 1 from rfl, rput_step _ _ _ _ _ h0 (by omega) (by omega) (by omega) (by omega) (by simp), show k + 7 = (k + 6) + 1 from rfl, rput_step _ _ _ _ _ (by omega) (by omega) (by omega) (by omega) (by omega) (by simp), show k + 6 = (k + 5) + 1 from rfl, intarsiaref01_Put.l0, if_neg (by omega)]
theorem or_add (n x : Int) (h0 : 0 ≤ n) (h1 : n < 1099511627776) (hx : Byte x) : Go.bits .or .i64 (n * 256) x = 256 * n + x := by
  obtain ⟨hx, hx1⟩ := hx
  obtain ⟨a, rfl⟩ := Int.eq_ofNat_of_zero_le h0
  obtain ⟨b, rfl⟩ := Int.eq_ofNat_of_zero_le hx
  have := (Go.bits_nat .i64 63 (by decide +kernel) (fun m h0 h1 => by rw [IntKind.wrap_i64]; omega) (2 ^ 8 * a) b (by omega) (by omega)).2
  rw [show ((a : Nat) : Int) * 256 = ((2 ^ 8 * a : Nat) : Int) by omega, this, ← Nat.two_pow_add_eq_or_of_lt (by omega : b < 2 ^ 8) a]
  omega
theorem rd_byte (l : List Int) (hl : ∀ x ∈ l, Byte x) (i : Int) : Byte (rd l i) := by
  unfold rd
  rw [List.getD_eq_getElem?_getD]
  cases h : l[i.toNat]? with
  | none => exact ⟨by decide, by decide⟩
  | some x => exact hl x (List.mem_of_getElem? h)
theorem get_step (k : Nat) (l : List Int) (hl : ∀ x ∈ l, Byte x) (w n i : Int) (h0 : 0 ≤ n) (h1 : n < 1099511627776) (hi0 : 0 ≤ i) (hi : i < w) (hw : w ≤ l.length) (hw6 : w ≤ 6) : num_Get.l0 (k + 1) l n w i = num_Get.l0 k l (256 * n + rd l i) w (i + 1) := by
  have hb := rd_byte l hl i
  have hb' := hb
  obtain ⟨hb0, hb1⟩ := hb'
  rw [num_Get.l0, if_pos (by omega), if_pos (by omega), if_pos (by omega), wrap_id (x := n * 256) (by omega) (by omega), wrap_id (x := rd l i) (by omega) (by omega), or_add n _ h0 h1 hb, wrap_id (x := i + 1) (by omega) (by omega)]
theorem get1 (k : Nat) (l : List Int) (hl : ∀ x ∈ l, Byte x) (h : 1 ≤ l.length) : num_Get.f (k + 2) l 1 = some (256 * 0 + rd l 0, 0) := by
  have b0 := rd_byte l hl 0
  unfold num_Get.f
  rw [show num_may.f 1 = some true from rfl, Option.bind_some, if_pos rfl, if_neg (by omega)]
  rw [get_step (k + 1) l hl 1 0 0 (by omega) (by omega) (by omega) (by omega) (by omega) (by omega), num_Get.l0, if_neg (by omega)]
theorem get2 (k : Nat) (l : List Int) (hl : ∀ x ∈ l, Byte x) (h : 2 ≤ l.length) : num_Get.f (k + 3) l 2 = some (256 * (256 * 0 + rd l 0) + rd l 1, 0) := by
  have b0 := rd_byte l hl 0
  have b1 := rd_byte l hl 1
  unfold Byte at b0 b1
  unfold num_Get.f
  rw [show num_may.f 2 = some true from rfl, Option.bind_some, if_pos rfl, if_neg (by omega)]
  rw [get_step (k + 2) l hl 2 0 0 (by omega) (by omega) (by omega) (by omega) (by omega) (by omega), get_step (k + 1) l hl 2 _ _ (by omega) (by omega) (by omega) (by omega) (by omega) (by omega), num_Get.l0, if_neg (by omega)]
  rfl
theorem get3 (k : Nat) (l : List Int) (hl : ∀ x ∈ l, Byte x) (h : 3 ≤ l.length) : num_Get.f (k + 4) l 3 = some (256 * (256 * (256 * 0 + rd l 0) + rd l 1) + rd l 2, 0) := by
  have b0 := rd_byte l hl 0
  have b1 := rd_byte l hl 1
  have b2 := rd_byte l hl 2
  unfold Byte at b0 b1 b2
  unfold num_Get.f
  rw [show num_may.f 3 = some true from rfl, Option.bind_some, if_pos rfl, if_neg (by omega)]
  rw [get_step (k + 3) l hl 3 0 0 (by omega) (by omega) (by omega) (by omega) (by omega) (by omega), get_step (k + 2) l hl 3 _ _ (by omega) (by omega) (by omega) (by omega) (by omega) (by omega)]
  rw [show (0 : Int) + 1 = 1 from rfl, show (1 : Int) + 1 = 2 from rfl, get_step (k + 1) l hl 3 _ _ (by omega) (by omega) (by omega) (by omega) (by omega) (by omega), num_Get.l0, if_neg (by omega)]
theorem rd_drop (l : List Int) (n i : Nat) : rd (l.drop n) (i : Int) = rd l ((n + i : Nat) : Int) := by
  unfold rd
  rw [Int.toNat_natCast, Int.toNat_natCast, List.getD_eq_getElem?_getD, List.getD_eq_getElem?_getD, List.getElem?_drop]


end Go.Proofs.Ytgflafifemhmgaa.RSums
