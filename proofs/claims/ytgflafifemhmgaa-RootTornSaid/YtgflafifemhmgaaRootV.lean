/- What roots are, in plain terms: their blocks, how they are read, which of two counts. -/
import Derived.Test.YtgflafifemhmgaaCrc
namespace Go.Proofs.Ytgflafifemhmgaa.RootV
open Go.RowKit Go.Proofs.Ytgflafifemhmgaa.Crc Go.Proofs.YtgflafifemhmgaaW.PrintWords Go.Proofs.YtgflafifemhmgaaW.PrintLast
/-- A root's fields. -/
structure RV where
  ep : Int
  bl : Int
  nx : Int
  st : Int
  tb : List Int
  mp : List Int
def rzero : RV := ⟨0, 0, 0, 0, [], []⟩
/-- May it be? -/
def rcheck (r : RV) : Int :=
  if r.ep < 0 ∨ r.ep > 1099511627776 ∨ r.bl < 2 ∨ r.bl > 4096 ∨ r.nx < 0 ∨ r.nx > 3000 ∨ r.st < 0 ∨ r.st > r.nx then 12
  else if 26 < r.tb.length ∨ 3 < r.mp.length then 5 else if ∀ x ∈ r.tb ++ r.mp, 2 ≤ x ∧ x < r.bl then 0 else 12
def be6 (x : Int) : List Int := [x / 1099511627776 % 256, x / 4294967296 % 256, x / 16777216 % 256, x / 65536 % 256, x / 256 % 256, x % 256]
def be2 (x : Int) : List Int := [x / 256 % 256, x % 256]
def flat2 (l : List Int) : List Int := l.flatMap be2
theorem flat2_cons (x : Int) (l : List Int) : flat2 (x :: l) = be2 x ++ flat2 l := rfl
theorem flat2_len : ∀ l : List Int, (flat2 l).length = 2 * l.length
  | [] => rfl
  | x :: l => by rw [flat2_cons, List.length_append, flat2_len l]; show 2 + _ = 2 * (l.length + 1); omega
/-- The block ahead of the numbers, and with them, and with zeros behind. -/
def rhead (r : RV) : List Int := [114, 111, 111, 116] ++ be6 r.ep ++ be2 r.bl ++ be2 r.nx ++ be2 r.st ++ [(r.tb.length : Int), (r.mp.length : Int)]
def rbody (r : RV) : List Int := rhead r ++ flat2 r.tb ++ flat2 r.mp
def rfull (r : RV) : List Int := rbody r ++ List.replicate (246 - (rbody r).length) 0
def rlaid (r : RV) : List Int := rfull r ++ tailI ((sumN (rfull r) : Nat) : Int) ++ be6 r.ep
def rput (r : RV) : List Int × Int := if rcheck r = 0 then (rlaid r, 0) else ([], rcheck r)
/-- Numbers out of bytes. -/
def gn2 (b : List Int) (i : Nat) : Int := 256 * rd b (i : Int) + rd b ((i + 1 : Nat) : Int)
def gn6 (b : List Int) : Int := 256 * (256 * (256 * (256 * (256 * rd b 4 + rd b 5) + rd b 6) + rd b 7) + rd b 8) + rd b 9
def nums2 (b : List Int) (i : Nat) : Nat → List Int
  | 0 => []
  | n + 1 => gn2 b i :: nums2 b (i + 2) n
theorem nums2_len (b : List Int) : ∀ (n i : Nat), (nums2 b i n).length = n
  | 0, _ => rfl
  | n + 1, i => by show (nums2 b (i + 2) n).length + 1 = n + 1; rw [nums2_len b n]
theorem nums2_snoc (b : List Int) : ∀ (n i : Nat), nums2 b i (n + 1) = nums2 b i n ++ [gn2 b (i + 2 * n)]
  | 0, i => rfl
  | n + 1, i => by
    show gn2 b i :: nums2 b (i + 2) (n + 1) = (gn2 b i :: nums2 b (i + 2) n) ++ _
    rw [nums2_snoc b n (i + 2), List.cons_append, show i + 2 + 2 * n = i + 2 * (n + 1) by omega]
def cntT (b : List Int) : Nat := min (rd b 16).toNat 26
def cntM (b : List Int) : Nat := min (rd b 17).toNat 3
def rread (b : List Int) : RV := ⟨gn6 b, gn2 b 10, gn2 b 12, gn2 b 14, nums2 b 18 (cntT b), nums2 b (18 + 2 * cntT b) (cntM b)⟩
/-- Is the sum the bytes'? -/
def sumok (b : List Int) : Prop := tailI ((sumN (b.take 246) : Nat) : Int) = (b.drop 246).take 4
instance (b : List Int) : Decidable (sumok b) := inferInstanceAs (Decidable (_ = _))
def rget (b : List Int) : RV × Int :=
  if b.length = 256 then (if (b.take 10).drop 4 = b.drop 250 then (if sumok b then (if rput (rread b) = (b, 0) then (rread b, 0) else (rzero, 4)) else (rzero, 13)) else (rzero, 3)) else (rzero, 2)
/-- Which of two counts. -/
def rchoose (a b : List Int) : RV × Int × Int :=
  if (rget a).2 = 0 ∧ (rget a).1.ep % 2 = 0 ∧ (¬ ((rget b).2 = 0 ∧ (rget b).1.ep % 2 = 1) ∨ (rget a).1.ep > (rget b).1.ep) then ((rget a).1, 0, 0)
  else if (rget b).2 = 0 ∧ (rget b).1.ep % 2 = 1 then ((rget b).1, 1, 0) else (rzero, 0, 4)

theorem rcheck_ok {r : RV} (h : rcheck r = 0) : (0 ≤ r.ep ∧ r.ep ≤ 1099511627776) ∧ (2 ≤ r.bl ∧ r.bl ≤ 4096) ∧ (0 ≤ r.nx ∧ r.nx ≤ 3000) ∧ (0 ≤ r.st ∧ r.st ≤ r.nx) ∧ r.tb.length ≤ 26 ∧ r.mp.length ≤ 3 ∧ (∀ x ∈ r.tb, 2 ≤ x ∧ x < r.bl) ∧ (∀ x ∈ r.mp, 2 ≤ x ∧ x < r.bl) := by
  unfold rcheck at h
  split at h
  · cases h
  · rename_i h1
    split at h
    · cases h
    · rename_i h2
      split at h
      · rename_i h3
        exact ⟨by omega, by omega, by omega, by omega, by omega, by omega, fun x hx => h3 x (List.mem_append.mpr (.inl hx)), fun x hx => h3 x (List.mem_append.mpr (.inr hx))⟩
      · cases h
theorem rput_ok {r : RV} (h : rcheck r = 0) : rput r = (rlaid r, 0) := by unfold rput; rw [if_pos h]
theorem rput_not {r : RV} (h : ¬ rcheck r = 0) : rput r = ([], rcheck r) := by unfold rput; rw [if_neg h]
theorem rhead_len (r : RV) : (rhead r).length = 18 := rfl
theorem rbody_len (r : RV) : (rbody r).length = 18 + 2 * r.tb.length + 2 * r.mp.length := by
  unfold rbody
  rw [List.length_append, List.length_append, flat2_len, flat2_len, rhead_len]
theorem rfull_len {r : RV} (h1 : r.tb.length ≤ 26) (h2 : r.mp.length ≤ 3) : (rfull r).length = 246 := by
  unfold rfull
  rw [List.length_append, List.length_replicate, rbody_len]
  omega
theorem rlaid_len {r : RV} (h1 : r.tb.length ≤ 26) (h2 : r.mp.length ≤ 3) : (rlaid r).length = 256 := by
  unfold rlaid
  rw [List.length_append, List.length_append, rfull_len h1 h2]
  rfl
theorem be2_byte (x : Int) : ∀ y ∈ be2 x, Byte y := by
  intro y hy
  simp only [be2, List.mem_cons, List.not_mem_nil, or_false] at hy
  unfold Byte
  rcases hy with h | h <;> omega
theorem be6_byte (x : Int) : ∀ y ∈ be6 x, Byte y := by
  intro y hy
  simp only [be6, List.mem_cons, List.not_mem_nil, or_false] at hy
  unfold Byte
  rcases hy with h | h | h | h | h | h <;> omega
theorem flat2_byte (l : List Int) : ∀ y ∈ flat2 l, Byte y := by
  intro y hy
  obtain ⟨x, _, h⟩ := List.mem_flatMap.mp hy
  exact be2_byte x y h
theorem byte_app {a b : List Int} (ha : ∀ x ∈ a, Byte x) (hb : ∀ x ∈ b, Byte x) : ∀ x ∈ a ++ b, Byte x := fun x hx => (List.mem_append.mp hx).elim (ha x) (hb x)
theorem rhead_byte {r : RV} (h1 : r.tb.length ≤ 26) (h2 : r.mp.length ≤ 3) : ∀ y ∈ rhead r, Byte y := by
  unfold rhead
  refine byte_app (byte_app (byte_app (byte_app (byte_app ?_ (be6_byte _)) (be2_byte _)) (be2_byte _)) (be2_byte _)) ?_
  · intro y hy
    simp only [List.mem_cons, List.not_mem_nil, or_false] at hy
    unfold Byte
    omega
  · intro y hy
    simp only [List.mem_cons, List.not_mem_nil, or_false] at hy
    unfold Byte
    omega
theorem rfull_byte {r : RV} (h1 : r.tb.length ≤ 26) (h2 : r.mp.length ≤ 3) : ∀ y ∈ rfull r, Byte y := by
  unfold rfull rbody
  refine byte_app (byte_app (byte_app (rhead_byte h1 h2) (flat2_byte _)) (flat2_byte _)) ?_
  intro y hy
  rw [List.eq_of_mem_replicate hy]
  unfold Byte; omega
theorem rlaid_byte {r : RV} (h1 : r.tb.length ≤ 26) (h2 : r.mp.length ≤ 3) : ∀ y ∈ rlaid r, Byte y :=
  byte_app (byte_app (rfull_byte h1 h2) (tail_byte _)) (be6_byte _)
theorem rput_byte (r : RV) : ∀ y ∈ (rput r).1, Byte y := by
  by_cases h : rcheck r = 0
  · rw [rput_ok h]
    have := rcheck_ok h
    exact rlaid_byte this.2.2.2.2.1 this.2.2.2.2.2.1
  · rw [rput_not h]
    intro y hy
    cases hy
theorem rput_len (r : RV) : (rput r).1.length ≤ 256 := by
  by_cases h : rcheck r = 0
  · rw [rput_ok h]
    have := rcheck_ok h
    rw [rlaid_len this.2.2.2.2.1 this.2.2.2.2.2.1]
    exact Nat.le_refl _
  · rw [rput_not h]; exact Nat.zero_le _
theorem rput_err {r : RV} : (rput r).2 = 0 ↔ rcheck r = 0 := by
  by_cases h : rcheck r = 0
  · rw [rput_ok h]; exact ⟨fun _ => h, fun _ => rfl⟩
  · rw [rput_not h]
theorem rput_code (r : RV) : (rput r).2 = rcheck r := by
  by_cases h : rcheck r = 0
  · rw [rput_ok h, h]
  · rw [rput_not h]
/-- What is got was laid. -/
theorem rget_ok {b : List Int} {r : RV} (h : rget b = (r, 0)) : rcheck r = 0 ∧ b = rlaid r := by
  unfold rget at h
  split at h
  · split at h
    · split at h
      · split at h
        · rename_i h1
          obtain rfl := (Prod.mk.inj h).1
          by_cases hc : rcheck (rread b) = 0
          · rw [rput_ok hc] at h1
            exact ⟨hc, (Prod.mk.inj h1).1.symm⟩
          · rw [rput_not hc] at h1
            exact absurd (Prod.mk.inj h1).2 hc
        · cases (Prod.mk.inj h).2
      · cases (Prod.mk.inj h).2
    · cases (Prod.mk.inj h).2
  · cases (Prod.mk.inj h).2
theorem rget_err {b : List Int} (h : (rget b).2 ≠ 0) : (rget b).1 = rzero := by
  unfold rget at h ⊢
  repeat' split
  all_goals first | rfl | (simp_all; done)
theorem rget_len (b : List Int) : (rget b).1.tb.length ≤ 26 ∧ (rget b).1.mp.length ≤ 3 := by
  by_cases h : (rget b).2 = 0
  · have := rcheck_ok (rget_ok (b := b) (r := (rget b).1) (by rw [← h])).1
    exact ⟨this.2.2.2.2.1, this.2.2.2.2.2.1⟩
  · rw [rget_err h]; exact ⟨Nat.zero_le _, Nat.zero_le _⟩
theorem rget_ep {b : List Int} (h : (rget b).2 = 0) : 0 ≤ (rget b).1.ep :=
  (rcheck_ok (rget_ok (b := b) (r := (rget b).1) (by rw [← h])).1).1.1
theorem rd_app_l (a b : List Int) (i : Nat) (h : i < a.length) : rd (a ++ b) (i : Int) = rd a (i : Int) := by
  unfold rd
  rw [Int.toNat_natCast, List.getD_eq_getElem?_getD, List.getD_eq_getElem?_getD, List.getElem?_append_left h]
theorem rd_app_r (a b : List Int) (i : Nat) : rd (a ++ b) ((a.length + i : Nat) : Int) = rd b (i : Int) := by
  unfold rd
  rw [Int.toNat_natCast, Int.toNat_natCast, List.getD_eq_getElem?_getD, List.getD_eq_getElem?_getD, List.getElem?_append_right (by omega), show a.length + i - a.length = i by omega]
theorem nums2_flat (t : List Int) : ∀ (l p : List Int), (∀ x ∈ l, 0 ≤ x ∧ x ≤ 65535) → nums2 (p ++ flat2 l ++ t) p.length l.length = l
  | [], p, _ => rfl
  | x :: l, p, h => by
    have hx := h x (List.mem_cons.mpr (.inl rfl))
    have ih := nums2_flat t l (p ++ be2 x) (fun y hy => h y (List.mem_cons.mpr (.inr hy)))
    have e : p ++ flat2 (x :: l) ++ t = p ++ be2 x ++ flat2 l ++ t := by rw [flat2_cons]; simp only [List.append_assoc]
    have el : (p ++ be2 x).length = p.length + 2 := by rw [List.length_append]; rfl
    rw [el] at ih
    have e2 : gn2 (p ++ flat2 (x :: l) ++ t) p.length = x := by
      unfold gn2
      rw [flat2_cons, List.append_assoc, List.append_assoc]
      rw [show rd (p ++ (be2 x ++ (flat2 l ++ t))) (p.length : Int) = rd (p ++ (be2 x ++ (flat2 l ++ t))) ((p.length + 0 : Nat) : Int) from rfl, rd_app_r, rd_app_r]
      show 256 * (x / 256 % 256) + x % 256 = x
      omega
    show gn2 _ p.length :: nums2 _ (p.length + 2) l.length = x :: l
    rw [e2, e, ih]
theorem rread_laid {r : RV} (h : rcheck r = 0) (t : List Int) : rread (rbody r ++ t) = r := by
  obtain ⟨h1, h2, h3, h4, h5, h6, h7, h8⟩ := rcheck_ok h
  obtain ⟨ep, bl, nx, st, tb, mp⟩ := r
  simp only at h1 h2 h3 h4 h5 h6 h7 h8
  have c1 : cntT (rbody ⟨ep, bl, nx, st, tb, mp⟩ ++ t) = tb.length := by
    unfold cntT
    show min ((tb.length : Int)).toNat 26 = _
    rw [Int.toNat_natCast]; omega
  have c2 : cntM (rbody ⟨ep, bl, nx, st, tb, mp⟩ ++ t) = mp.length := by
    unfold cntM
    show min ((mp.length : Int)).toNat 3 = _
    rw [Int.toNat_natCast]; omega
  unfold rread
  rw [c1, c2]
  have e1 : gn6 (rbody ⟨ep, bl, nx, st, tb, mp⟩ ++ t) = ep := by
    show 256 * (256 * (256 * (256 * (256 * (ep / 1099511627776 % 256) + ep / 4294967296 % 256) + ep / 16777216 % 256) + ep / 65536 % 256) + ep / 256 % 256) + ep % 256 = ep
    omega
  have e2 : gn2 (rbody ⟨ep, bl, nx, st, tb, mp⟩ ++ t) 10 = bl := by
    show 256 * (bl / 256 % 256) + bl % 256 = bl
    omega
  have e3 : gn2 (rbody ⟨ep, bl, nx, st, tb, mp⟩ ++ t) 12 = nx := by
    show 256 * (nx / 256 % 256) + nx % 256 = nx
    omega
  have e4 : gn2 (rbody ⟨ep, bl, nx, st, tb, mp⟩ ++ t) 14 = st := by
    show 256 * (st / 256 % 256) + st % 256 = st
    omega
  have e5 : nums2 (rbody ⟨ep, bl, nx, st, tb, mp⟩ ++ t) 18 tb.length = tb := by
    have := nums2_flat (flat2 mp ++ t) tb (rhead ⟨ep, bl, nx, st, tb, mp⟩) (fun x hx => by have := h7 x hx; omega)
    rw [rhead_len] at this
    unfold rbody
    rw [List.append_assoc]
    exact this
  have e6 : nums2 (rbody ⟨ep, bl, nx, st, tb, mp⟩ ++ t) (18 + 2 * tb.length) mp.length = mp := by
    have := nums2_flat t mp (rhead ⟨ep, bl, nx, st, tb, mp⟩ ++ flat2 tb) (fun x hx => by have := h8 x hx; omega)
    rw [List.length_append, rhead_len, flat2_len] at this
    exact this
  rw [e1, e2, e3, e4, e5, e6]
/-- What is laid is got. -/
theorem rget_laid {r : RV} (h : rcheck r = 0) : rget (rlaid r) = (r, 0) := by
  have h' := rcheck_ok h
  have hf := rfull_len h'.2.2.2.2.1 h'.2.2.2.2.2.1
  have hl := rlaid_len h'.2.2.2.2.1 h'.2.2.2.2.2.1
  have hr : rread (rlaid r) = r := by
    unfold rlaid rfull
    rw [List.append_assoc, List.append_assoc]
    exact rread_laid h _
  have e1 : ((rlaid r).take 10).drop 4 = be6 r.ep := by
    unfold rlaid rfull rbody rhead
    rfl
  have e2 : (rlaid r).drop 250 = be6 r.ep := by
    unfold rlaid
    exact List.drop_left' (by rw [List.length_append, hf]; rfl)
  have e3 : (rlaid r).take 246 = rfull r := by
    unfold rlaid
    rw [List.append_assoc]
    exact List.take_left' hf
  have e4 : ((rlaid r).drop 246).take 4 = tailI ((sumN (rfull r) : Nat) : Int) := by
    unfold rlaid
    rw [List.append_assoc, List.drop_left' hf]
    exact List.take_left' rfl
  unfold rget
  rw [if_pos hl, e1, e2, if_pos rfl, if_pos (by unfold sumok; rw [e3, e4]), hr, if_pos (rput_ok h)]
/-- A root that counts in its place. -/
theorem rchoose_back0 {r : RV} (h : rcheck r = 0) (he : r.ep % 2 = 0) : rchoose (rlaid r) [] = (r, 0, 0) := by
  unfold rchoose
  rw [rget_laid h]
  rw [if_pos ⟨rfl, he, .inl (by rintro ⟨h1, _⟩; cases h1)⟩]
theorem rchoose_back1 {r : RV} (h : rcheck r = 0) (he : r.ep % 2 = 1) : rchoose [] (rlaid r) = (r, 1, 0) := by
  unfold rchoose
  rw [rget_laid h]
  rw [if_neg (by rintro ⟨h1, _⟩; cases h1), if_pos ⟨rfl, he⟩]
theorem be6_inj {x y : Int} (hx : 0 ≤ x ∧ x ≤ 1099511627776) (hy : 0 ≤ y ∧ y ≤ 1099511627776) (h : be6 x = be6 y) : x = y := by
  unfold be6 at h
  simp only [List.cons.injEq] at h
  omega
/-- What is torn is the new one, the elder one, or none. -/
theorem rget_torn {r o x : RV} (hr : rcheck r = 0) (ho : rcheck o = 0) (hne : r.ep ≠ o.ep) (k : Nat) (hk : k ≤ 256) (h : rget ((rlaid r).take k ++ (rlaid o).drop k) = (x, 0)) : x = r ∨ x = o := by
  have hr' := rcheck_ok hr
  have ho' := rcheck_ok ho
  have lr := rlaid_len hr'.2.2.2.2.1 hr'.2.2.2.2.2.1
  have lo := rlaid_len ho'.2.2.2.2.1 ho'.2.2.2.2.2.1
  have fr := rfull_len hr'.2.2.2.2.1 hr'.2.2.2.2.2.1
  have fo := rfull_len ho'.2.2.2.2.1 ho'.2.2.2.2.2.1
  obtain ⟨hx, hb⟩ := rget_ok h
  have hx' := rcheck_ok hx
  have fx := rfull_len hx'.2.2.2.2.1 hx'.2.2.2.2.2.1
  have inj : ∀ {y : RV}, rcheck y = 0 → rlaid x = rlaid y → x = y := fun hy e => by
    have h1 := rget_laid hx
    rw [e, rget_laid hy] at h1
    exact (Prod.mk.inj h1).1.symm
  have d250 : ∀ {y : RV}, (rfull y).length = 246 → (rlaid y).drop 250 = be6 y.ep := fun hy => by
    unfold rlaid
    exact List.drop_left' (by rw [List.length_append, hy]; rfl)
  have t10 : ∀ {y : RV}, ((rlaid y).take 10).drop 4 = be6 y.ep := fun {y} => by
    unfold rlaid rfull rbody rhead
    rfl
  have lt : ((rlaid r).take k).length = k := by rw [List.length_take]; omega
  by_cases h250 : 250 ≤ k
  · -- its head is the new one's
    have e1 : ((rlaid x).take 10).drop 4 = ((rlaid r).take 10).drop 4 := by
      rw [← hb, List.take_append_of_le_length (by omega), List.take_take, Nat.min_eq_left (by omega)]
    rw [t10, t10] at e1
    have ep := be6_inj hx'.1 hr'.1 e1
    refine .inl (inj hr ?_)
    have e2 : (rlaid x).take 250 = (rlaid r).take 250 := by
      rw [← hb, List.take_append_of_le_length (by omega), List.take_take, Nat.min_eq_left h250]
    rw [← List.take_append_drop 250 (rlaid x), ← List.take_append_drop 250 (rlaid r), e2, d250 fx, d250 fr, ep]
  · -- its end is the elder one's
    have e2 : (rlaid x).drop 250 = (rlaid o).drop 250 := by
      rw [← hb, List.drop_append, lt, List.drop_of_length_le (by omega), List.nil_append, List.drop_drop, show k + (250 - k) = 250 by omega]
    rw [d250 fx, d250 fo] at e2
    have ep := be6_inj hx'.1 ho'.1 e2
    by_cases h10 : 10 ≤ k
    · have e1 : ((rlaid x).take 10).drop 4 = ((rlaid r).take 10).drop 4 := by
        rw [← hb, List.take_append_of_le_length (by omega), List.take_take, Nat.min_eq_left (by omega)]
      rw [t10, t10] at e1
      have := be6_inj hx'.1 hr'.1 e1
      exact absurd (this.symm.trans ep) hne
    · refine .inr (inj ho ?_)
      have e3 : (rlaid x).drop 10 = (rlaid o).drop 10 := by
        rw [← hb, List.drop_append, lt, List.drop_of_length_le (by omega), List.nil_append, List.drop_drop, show k + (10 - k) = 10 by omega]
      have s10 : ∀ {y : RV}, (rlaid y).take 10 = [114, 111, 111, 116] ++ be6 y.ep := fun {y} => by
        unfold rlaid rfull rbody rhead
        rfl
      rw [← List.take_append_drop 10 (rlaid x), ← List.take_append_drop 10 (rlaid o), e3, s10, s10, ep]
theorem torn_even {r o m : RV} (hr : rcheck r = 0) (ho : rcheck o = 0) (hm : rcheck m = 0) (h1 : o.ep = r.ep - 2) (h2 : m.ep = r.ep - 1) (he : r.ep % 2 = 0) (k : Nat) (hk : k ≤ 256) :
    ∃ y n, rchoose ((rlaid r).take k ++ (rlaid o).drop k) (rlaid m) = (y, n, 0) ∧ (y = r ∨ y = m) := by
  unfold rchoose
  rw [rget_laid hm]
  by_cases hc : (rget ((rlaid r).take k ++ (rlaid o).drop k)).2 = 0
  · have hx := rget_torn hr ho (by omega) k hk (x := (rget ((rlaid r).take k ++ (rlaid o).drop k)).1) (by rw [← hc])
    rcases hx with hx | hx
    · rw [if_pos ⟨hc, by rw [hx]; exact he, .inr (by rw [hx]; show m.ep < r.ep; omega)⟩]
      exact ⟨_, _, rfl, .inl hx⟩
    · rw [if_neg (by rw [hx]; rintro ⟨_, _, h | h⟩; (exact h ⟨rfl, by show m.ep % 2 = 1; omega⟩); (have : o.ep > m.ep := h; omega)), if_pos ⟨rfl, by show m.ep % 2 = 1; omega⟩]
      exact ⟨_, _, rfl, .inr rfl⟩
  · rw [if_neg (fun h => hc h.1), if_pos ⟨rfl, by show m.ep % 2 = 1; omega⟩]
    exact ⟨_, _, rfl, .inr rfl⟩
theorem torn_odd {r o m : RV} (hr : rcheck r = 0) (ho : rcheck o = 0) (hm : rcheck m = 0) (h1 : o.ep = r.ep - 2) (h2 : m.ep = r.ep - 1) (he : r.ep % 2 = 1) (k : Nat) (hk : k ≤ 256) :
    ∃ y n, rchoose (rlaid m) ((rlaid r).take k ++ (rlaid o).drop k) = (y, n, 0) ∧ (y = r ∨ y = m) := by
  unfold rchoose
  rw [rget_laid hm]
  by_cases hc : (rget ((rlaid r).take k ++ (rlaid o).drop k)).2 = 0
  · have hx := rget_torn hr ho (by omega) k hk (x := (rget ((rlaid r).take k ++ (rlaid o).drop k)).1) (by rw [← hc])
    rcases hx with hx | hx
    · rw [if_neg (by rw [hx]; rintro ⟨_, _, h | h⟩; (exact h ⟨hc, he⟩); (have : m.ep > r.ep := h; omega)), if_pos ⟨hc, by rw [hx]; exact he⟩]
      exact ⟨_, _, rfl, .inl hx⟩
    · rw [if_pos ⟨rfl, by show m.ep % 2 = 0; omega, .inr (by rw [hx]; show o.ep < m.ep; omega)⟩]
      exact ⟨_, _, rfl, .inr rfl⟩
  · rw [if_pos ⟨rfl, by show m.ep % 2 = 0; omega, .inl (fun h => hc h.1)⟩]
    exact ⟨_, _, rfl, .inr rfl⟩
/-- The loop over both tells the same. -/
theorem rchoose_loop (a b : List Int) : rchoose a b =
    (if (rget a).2 = 0 ∧ (rget a).1.ep % 2 = 0 then (if (rget b).2 = 0 ∧ (rget b).1.ep % 2 = 1 ∧ (rget b).1.ep > (rget a).1.ep then ((rget b).1, 1, 0) else ((rget a).1, 0, 0))
     else if (rget b).2 = 0 ∧ (rget b).1.ep % 2 = 1 then ((rget b).1, 1, 0) else (rzero, 0, 4)) := by
  unfold rchoose
  by_cases ha : (rget a).2 = 0 ∧ (rget a).1.ep % 2 = 0
  · rw [if_pos ha]
    by_cases hb : (rget b).2 = 0 ∧ (rget b).1.ep % 2 = 1
    · by_cases hgt : (rget b).1.ep > (rget a).1.ep
      · rw [if_neg (by rintro ⟨_, _, h | h⟩; (exact h hb); omega), if_pos hb, if_pos ⟨hb.1, hb.2, hgt⟩]
      · rw [if_pos ⟨ha.1, ha.2, .inr (by have := ha.2; have := hb.2; omega)⟩, if_neg (fun h => hgt h.2.2)]
    · rw [if_pos ⟨ha.1, ha.2, .inl hb⟩, if_neg (fun h => hb ⟨h.1, h.2.1⟩)]
  · rw [if_neg ha, if_neg (fun h => ha ⟨h.1, h.2.1⟩)]
end Go.Proofs.Ytgflafifemhmgaa.RootV
