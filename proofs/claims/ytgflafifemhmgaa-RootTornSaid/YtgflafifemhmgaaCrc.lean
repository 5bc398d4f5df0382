/- Plain laws of the checksum: four bits by the table are four single steps; the steps are linear and one to one. -/
import Derived.Test.YtgflafifemhmgaaHandC1
namespace Go.Proofs.Ytgflafifemhmgaa.Crc
open Go.RowKit Go.Proofs.Ytgflafifemhmgaa.Hand Go.Proofs.YtgflafifemhmgaaW.PrintWords Go.Proofs.YtgflafifemhmgaaW.PrintLast

/-- One bit goes by. -/
def bst (c : Nat) : Nat := (c / 2) ^^^ (if c % 2 = 1 then 2197175160 else 0)
def bst4 (c : Nat) : Nat := bst (bst (bst (bst c)))
def bst8 (c : Nat) : Nat := bst4 (bst4 c)
def tabN (r : Nat) : Nat := [0, 274646895, 549293790, 820201905, 1098587580, 1361435347, 1640403810, 1905808397, 2197175160, 2460548119, 2722870694, 2987750089, 3280807620, 3553878443, 3811616794, 4084100981].getD r 0

theorem lt32 {x : Nat} (h : x < 4294967296) : x < 2 ^ 32 := h
theorem xor32 {a b : Nat} (ha : a < 4294967296) (hb : b < 4294967296) : a ^^^ b < 4294967296 := Nat.xor_lt_two_pow (n := 32) ha hb
theorem bst_lt (c : Nat) (h : c < 4294967296) : bst c < 4294967296 := by
  unfold bst
  apply xor32 (by omega)
  split <;> omega
theorem bst4_lt (c : Nat) (h : c < 4294967296) : bst4 c < 4294967296 := bst_lt _ (bst_lt _ (bst_lt _ (bst_lt _ h)))
theorem bst8_lt (c : Nat) (h : c < 4294967296) : bst8 c < 4294967296 := bst4_lt _ (bst4_lt _ h)

theorem xor_swap4 (a b c d : Nat) : (a ^^^ b) ^^^ (c ^^^ d) = (a ^^^ c) ^^^ (b ^^^ d) := by
  rw [Nat.xor_assoc, Nat.xor_assoc, ← Nat.xor_assoc b c d, Nat.xor_comm b c, Nat.xor_assoc c b d]

theorem bst_xor (a b : Nat) : bst (a ^^^ b) = bst a ^^^ bst b := by
  unfold bst
  rw [Nat.xor_div_two, xor_swap4]
  congr 1
  have h := @Nat.xor_mod_two_eq_one a b
  by_cases ha : a % 2 = 1 <;> by_cases hb : b % 2 = 1
  · rw [if_neg (by rw [h]; simp [ha, hb]), if_pos ha, if_pos hb, Nat.xor_self]
  · rw [if_pos (by rw [h]; simp [ha, hb]), if_pos ha, if_neg hb, Nat.xor_zero]
  · rw [if_pos (by rw [h]; simp [ha, hb]), if_neg ha, if_pos hb, Nat.zero_xor]
  · rw [if_neg (by rw [h]; simp [ha, hb]), if_neg ha, if_neg hb, Nat.xor_self]
theorem bst4_xor (a b : Nat) : bst4 (a ^^^ b) = bst4 a ^^^ bst4 b := by unfold bst4; rw [bst_xor, bst_xor, bst_xor, bst_xor]
theorem bst8_xor (a b : Nat) : bst8 (a ^^^ b) = bst8 a ^^^ bst8 b := by unfold bst8; rw [bst4_xor, bst4_xor]

theorem bst_even (q : Nat) : bst (2 * q) = q := by
  unfold bst
  rw [if_neg (by omega), Nat.xor_zero]
  omega
theorem bst4_16 (q : Nat) : bst4 (16 * q) = q := by
  unfold bst4
  rw [show 16 * q = 2 * (8 * q) by omega, bst_even, show 8 * q = 2 * (4 * q) by omega, bst_even, show 4 * q = 2 * (2 * q) by omega, bst_even, bst_even]
theorem split16 (c : Nat) : (16 * (c / 16)) ^^^ (c % 16) = c := by
  apply Nat.eq_of_testBit_eq
  intro i
  have e : c = 2 ^ 4 * (c / 16) + c % 16 := by omega
  have hr : c % 16 < 2 ^ 4 := by omega
  rw [Nat.testBit_xor]
  conv => rhs; rw [e, Nat.testBit_two_pow_mul_add _ hr]
  rw [show 16 * (c / 16) = 2 ^ 4 * (c / 16) from rfl, Nat.testBit_two_pow_mul]
  by_cases hi : i < 4
  · rw [if_pos hi]
    simp [show ¬ (4 ≤ i) by omega]
  · rw [if_neg hi, Nat.testBit_lt_two_pow (x := c % 16) (i := i) (Nat.lt_of_lt_of_le hr (Nat.pow_le_pow_right (by decide) (by omega)))]
    simp [show 4 ≤ i by omega]
theorem tab_bst : ∀ r, r < 16 → bst4 r = tabN r := by decide +kernel
theorem nib_bst (c : Nat) : tabN (c % 16) ^^^ (c / 16) = bst4 c := by
  conv => rhs; rw [← split16 c, bst4_xor, bst4_16, tab_bst _ (by omega), Nat.xor_comm]

theorem bst_inj {a b : Nat} (ha : a < 4294967296) (hb : b < 4294967296) (h : bst a = bst b) : a = b := by
  have top : ∀ c, c < 4294967296 → (bst c).testBit 31 = decide (c % 2 = 1) := by
    intro c hc
    unfold bst
    rw [Nat.testBit_xor, Nat.testBit_lt_two_pow (x := c / 2) (i := 31) (by omega)]
    by_cases h1 : c % 2 = 1
    · rw [if_pos h1]; simp [h1]; decide
    · rw [if_neg h1]; simp [h1]
  have h2 := top a ha
  rw [h, top b hb] at h2
  have h3 : (a % 2 = 1) ↔ (b % 2 = 1) := by
    by_cases x : a % 2 = 1 <;> by_cases y : b % 2 = 1 <;> simp [x, y] at h2 ⊢
  have h4 : a / 2 = b / 2 := by
    have e : ∀ c, c / 2 = bst c ^^^ (if c % 2 = 1 then 2197175160 else 0) := by
      intro c; unfold bst; rw [Nat.xor_assoc, Nat.xor_self, Nat.xor_zero]
    rw [e a, e b, h]
    by_cases x : a % 2 = 1
    · rw [if_pos x, if_pos (h3.mp x)]
    · rw [if_neg x, if_neg (fun y => x (h3.mpr y))]
  omega
theorem bst4_inj {a b : Nat} (ha : a < 4294967296) (hb : b < 4294967296) (h : bst4 a = bst4 b) : a = b :=
  bst_inj ha hb (bst_inj (bst_lt _ ha) (bst_lt _ hb) (bst_inj (bst_lt _ (bst_lt _ ha)) (bst_lt _ (bst_lt _ hb)) (bst_inj (bst_lt _ (bst_lt _ (bst_lt _ ha))) (bst_lt _ (bst_lt _ (bst_lt _ hb))) h)))
theorem bst8_inj {a b : Nat} (ha : a < 4294967296) (hb : b < 4294967296) (h : bst8 a = bst8 b) : a = b :=
  bst4_inj ha hb (bst4_inj (bst4_lt _ ha) (bst4_lt _ hb) h)
theorem xor_inj {a b c : Nat} (h : a ^^^ c = b ^^^ c) : a = b := by
  have := congrArg (· ^^^ c) h
  simpa [Nat.xor_assoc] using this

/-! ### the program's own words -/
def Byte (x : Int) : Prop := 0 ≤ x ∧ x ≤ 255
theorem xor32_nat (a b : Nat) (ha : a < 4294967296) (hb : b < 4294967296) : Go.bits .xor .u32 (a : Int) (b : Int) = ((a ^^^ b : Nat) : Int) := by
  have hx := xor32 ha hb
  have ha' : a % 2 ^ IntKind.u32.bits = a := Nat.mod_eq_of_lt ha
  have hb' : b % 2 ^ IntKind.u32.bits = b := Nat.mod_eq_of_lt hb
  have e : Go.bits .xor .u32 (a : Int) (b : Int) = IntKind.u32.wrap ((a ^^^ b : Nat) : Int) := by
    simp only [Go.bits, BitVec.ofInt_natCast, BitVec.toNat_xor, BitVec.toNat_ofNat, ha', hb']
  rw [e, IntKind.wrap_u32]
  omega
theorem and15_nat (a : Nat) (ha : a < 4294967296) : Go.bits .and .u32 (a : Int) 15 = ((a % 16 : Nat) : Int) := by
  have := (Go.bits_nat .u32 32 (by decide) (fun m h0 h1 => by rw [IntKind.wrap_u32]; omega) a 15 (by omega) (by decide)).1
  rw [show (15 : Int) = ((15 : Nat) : Int) from rfl, this, show (15 : Nat) = 2 ^ 4 - 1 from rfl, Nat.and_two_pow_sub_one_eq_mod]
theorem tab_lt : ∀ r, r < 16 → tabN r < 4294967296 := by decide +kernel
theorem tab_nat : ∀ r : Nat, r < 16 → rd tab (r : Int) = ((tabN r : Nat) : Int) := by decide +kernel
theorem nib_nat (c : Nat) (hc : c < 4294967296) : nib (c : Int) = ((bst4 c : Nat) : Int) := by
  unfold nib
  have h16 : (c : Int) / 16 = ((c / 16 : Nat) : Int) := by omega
  rw [and15_nat c hc, tab_nat _ (by omega), h16, xor32_nat _ _ (tab_lt _ (by omega)) (by omega), nib_bst]
theorem rnd_nat (c x : Nat) (hc : c < 4294967296) (hx : x < 256) : rnd (c : Int) (x : Int) = ((bst8 (c ^^^ x) : Nat) : Int) := by
  unfold rnd bst8
  have e : (x : Int) % 4294967296 = x := by omega
  have hcx := xor32 hc (show x < 4294967296 by omega)
  rw [e, xor32_nat c x hc (by omega), nib_nat _ hcx, nib_nat _ (bst4_lt _ hcx)]
/-- The register behind some bytes. -/
def crcN (c : Nat) (l : List Int) : Nat := l.foldl (fun c x => bst8 (c ^^^ x.toNat)) c
theorem crcN_lt (l : List Int) : ∀ c, c < 4294967296 → (∀ x ∈ l, Byte x) → crcN c l < 4294967296 := by
  induction l with
  | nil => intro c hc _; exact hc
  | cons x l ih =>
    intro c hc hl
    have hx := hl x (List.mem_cons_self ..)
    unfold Byte at hx
    exact ih _ (bst8_lt _ (xor32 hc (by omega))) (fun y hy => hl y (List.mem_cons_of_mem _ hy))
theorem fold_nat (l : List Int) : ∀ c : Nat, c < 4294967296 → (∀ x ∈ l, Byte x) → l.foldl rnd (c : Int) = ((crcN c l : Nat) : Int) := by
  induction l with
  | nil => intro c _ _; rfl
  | cons x l ih =>
    intro c hc hl
    have hx := hl x (List.mem_cons_self ..)
    unfold Byte at hx
    obtain ⟨n, rfl⟩ := Int.eq_ofNat_of_zero_le hx.1
    rw [List.foldl_cons, rnd_nat c n hc (by omega), ih _ (bst8_lt _ (xor32 hc (by omega))) (fun y hy => hl y (List.mem_cons_of_mem _ hy))]
    rfl
/-- Each bit is turned. -/
def notN (c : Nat) : Nat := 4294967295 ^^^ c
theorem notN_lt {c : Nat} (h : c < 4294967296) : notN c < 4294967296 := xor32 (by decide) h
theorem xor_xor (m c : Nat) : m ^^^ (m ^^^ c) = c := by rw [← Nat.xor_assoc, Nat.xor_self, Nat.zero_xor]
theorem notN_def (c : Nat) : notN c = 4294967295 ^^^ c := rfl
theorem notN_notN (c : Nat) : notN (notN c) = c := by
  obtain ⟨m, hm⟩ : ∃ m : Nat, m = 4294967295 := ⟨_, rfl⟩
  rw [notN_def, notN_def, ← hm]
  exact xor_xor m c
theorem notN_inj {a b : Nat} (h : notN a = notN b) : a = b := by rw [← notN_notN a, h, notN_notN]
theorem not_nat0 (m c : Nat) (hm : m = 4294967295) (hc : c < 4294967296) : Go.bits .xor .u32 (m : Int) (c : Int) = ((m ^^^ c : Nat) : Int) := xor32_nat m c (by omega) hc
theorem not_nat (c : Nat) (hc : c < 4294967296) : Go.bits .xor .u32 4294967295 (c : Int) = ((notN c : Nat) : Int) := by
  obtain ⟨m, hm⟩ : ∃ m : Nat, m = 4294967295 := ⟨_, rfl⟩
  have h := not_nat0 m c hm hc
  have e : (4294967295 : Int) = (m : Int) := by omega
  unfold notN
  rw [e, h, hm]
theorem more_nat (c : Nat) (l : List Int) (hc : c < 4294967296) (hl : ∀ x ∈ l, Byte x) : sum_More.f (c : Int) l = some ((notN (crcN (notN c) l) : Nat) : Int) := by
  unfold sum_More.f
  have hn := notN_lt hc
  rw [not_nat c hc, fold_nat l _ hn hl, not_nat _ (crcN_lt l _ hn hl)]
theorem crcN_append (c : Nat) (l m : List Int) : crcN c (l ++ m) = crcN (crcN c l) m := by unfold crcN; rw [List.foldl_append]
/-- Two registers that part stay apart. -/
theorem crcN_inj (l : List Int) : ∀ a b, a < 4294967296 → b < 4294967296 → (∀ x ∈ l, Byte x) → crcN a l = crcN b l → a = b := by
  induction l with
  | nil => intro a b _ _ _ h; exact h
  | cons x l ih =>
    intro a b ha hb hl h
    have hx := hl x (List.mem_cons_self ..)
    unfold Byte at hx
    have hx4 : x.toNat < 4294967296 := by omega
    have h1 := ih _ _ (bst8_lt _ (xor32 ha hx4)) (bst8_lt _ (xor32 hb hx4)) (fun y hy => hl y (List.mem_cons_of_mem _ hy)) h
    exact xor_inj (bst8_inj (xor32 ha hx4) (xor32 hb hx4) h1)
theorem wf_byte {x : Int} (h : (Lit.int .u8 x).wf = true) : Byte x := by
  have := of_decide_eq_true (p := IntKind.u8.min ≤ x ∧ x ≤ IntKind.u8.max) (by simpa [Lit.wf] using h)
  have h1 : IntKind.u8.min = 0 := by decide
  have h2 : IntKind.u8.max = 255 := by decide
  unfold Byte; omega
theorem u32_nat {a : Int} (h : (Lit.int .u32 a).wf = true) : ∃ n : Nat, a = n ∧ n < 4294967296 := by
  have := of_decide_eq_true (p := IntKind.u32.min ≤ a ∧ a ≤ IntKind.u32.max) (by simpa [Lit.wf] using h)
  have h1 : IntKind.u32.min = 0 := by decide
  have h2 : IntKind.u32.max = 4294967295 := by decide
  exact ⟨a.toNat, by omega, by omega⟩
/-! ### bytes as a text; a sum's four bytes -/
theorem str_list (a : List Int) : (strOfNums a).toList = a.map fun n => UInt8.ofNat n.toNat := by
  rw [ByteArray.toList_eq]; exact strOfNums_data a
theorem ofNat_inj {x y : Int} (hx : Byte x) (hy : Byte y) (h : UInt8.ofNat x.toNat = UInt8.ofNat y.toNat) : x = y := by
  unfold Byte at hx hy
  have h1 := congrArg UInt8.toNat h
  rw [UInt8.toNat_ofNat', UInt8.toNat_ofNat'] at h1
  omega
theorem str_eq {a b : List Int} (ha : ∀ x ∈ a, Byte x) (hb : ∀ x ∈ b, Byte x) : (strOfNums a).toList = (strOfNums b).toList ↔ a = b := by
  refine ⟨fun h => ?_, fun h => by rw [h]⟩
  rw [str_list, str_list] at h
  induction a generalizing b with
  | nil =>
    cases b with
    | nil => rfl
    | cons y b => simp at h
  | cons x a ih =>
    cases b with
    | nil => simp at h
    | cons y b =>
      rw [List.map_cons, List.map_cons] at h
      injection h with h1 h2
      rw [ofNat_inj (ha x (List.mem_cons_self ..)) (hb y (List.mem_cons_self ..)) h1, ih (fun z hz => ha z (List.mem_cons_of_mem _ hz)) (fun z hz => hb z (List.mem_cons_of_mem _ hz)) h2]
def tailI (c : Int) : List Int := [(c / 16777216) % 256, (c / 65536) % 256, (c / 256) % 256, c % 256]
theorem tail_byte (c : Int) : ∀ x ∈ tailI c, Byte x := by
  intro x hx
  unfold tailI at hx
  simp only [List.mem_cons, List.not_mem_nil, or_false] at hx
  unfold Byte
  rcases hx with rfl | rfl | rfl | rfl <;> omega
theorem tail_inj {a b : Nat} (ha : a < 4294967296) (hb : b < 4294967296) (h : tailI (a : Int) = tailI (b : Int)) : a = b := by
  unfold tailI at h
  injection h with h1 h
  injection h with h2 h
  injection h with h3 h
  injection h with h4 _
  omega
def sumN (l : List Int) : Nat := notN (crcN (notN 0) l)
theorem sumN_lt (l : List Int) (hl : ∀ x ∈ l, Byte x) : sumN l < 4294967296 := notN_lt (crcN_lt l _ (notN_lt (by decide)) hl)
/-- A text with one byte turned has another sum. -/
theorem sumN_set (l : List Int) (hl : ∀ x ∈ l, Byte x) (i : Nat) (hi : i < l.length) (v : Int) (hv : Byte v) (hne : l[i] ≠ v) : sumN (l.set i v) ≠ sumN l := by
  intro h
  have h1 := notN_inj h
  have e1 : l = l.take i ++ l[i] :: l.drop (i + 1) := by rw [← List.drop_eq_getElem_cons hi, List.take_append_drop]
  have e2 : l.set i v = l.take i ++ v :: l.drop (i + 1) := List.set_eq_take_append_cons_drop ▸ by rw [if_pos hi]
  have e3 : crcN (notN 0) (l.take i ++ v :: l.drop (i + 1)) = crcN (notN 0) (l.take i ++ l[i] :: l.drop (i + 1)) := by rw [← e2, ← e1]; exact h1
  rw [crcN_append, crcN_append] at e3
  have hp : ∀ x ∈ l.take i, Byte x := fun x hx => hl x (List.mem_of_mem_take hx)
  have hd : ∀ x ∈ l.drop (i + 1), Byte x := fun x hx => hl x (List.mem_of_mem_drop hx)
  have hc := crcN_lt (l.take i) (notN 0) (notN_lt (by decide)) hp
  have hb := hl _ (List.getElem_mem hi)
  unfold Byte at hb hv
  generalize crcN (notN 0) (l.take i) = c at e3 hc
  have hv4 : v.toNat < 4294967296 := by omega
  have hb4 : (l[i]).toNat < 4294967296 := by omega
  have e4 := crcN_inj (l.drop (i + 1)) _ _ (bst8_lt _ (xor32 hc hv4)) (bst8_lt _ (xor32 hc hb4)) hd e3
  have e5 := bst8_inj (xor32 hc hv4) (xor32 hc hb4) e4
  rw [Nat.xor_comm c, Nat.xor_comm c] at e5
  have e6 := xor_inj e5
  omega
end Go.Proofs.Ytgflafifemhmgaa.Crc
