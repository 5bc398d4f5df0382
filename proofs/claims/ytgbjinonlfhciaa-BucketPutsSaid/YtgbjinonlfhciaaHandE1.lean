/- The order of pairs, in plain terms; the contracts of IndexFunc, ContainsFunc, every and Clone over pairs. -/
import Derived.Test.YtgbjinonlfhciaaMBkx3
import Derived.Lib.SlBytesConst
import Derived.Lib.SmallJoins
namespace Go.Proofs.Ytgbjinonlfhciaa.BkV
open Go.RowKit Go.Proofs.Ytgbjinonlfhciaa.MBk Go.Proofs.YtgbjinonlfhciaaW.PrintWords Go.Proofs.YtgbjinonlfhciaaW.PrintLast
/-- Is a pair ahead of another one? -/
def lessT (a b : S27) : Bool := Op.bytesLess a.f0.toList b.f0.toList || (decide (a.f0.toList = b.f0.toList) && Op.bytesLess a.f1.toList b.f1.toList)
theorem pair_ext {a b : S27} (h0 : a.f0.toList = b.f0.toList) (h1 : a.f1.toList = b.f1.toList) : a = b := by
  have e : ∀ x y : ByteArray, x.toList = y.toList → x = y := by
    intro x y h
    rw [Lib.toList_data, Lib.toList_data] at h
    obtain ⟨x⟩ := x
    obtain ⟨y⟩ := y
    congr 1
    exact Array.toList_inj.mp h
  obtain ⟨a0, a1⟩ := a
  obtain ⟨b0, b1⟩ := b
  obtain rfl := e a0 b0 h0
  obtain rfl := e a1 b1 h1
  rfl
theorem less_iff {a b : S27} : lessT a b = true ↔ Op.bytesLess a.f0.toList b.f0.toList = true ∨ (a.f0.toList = b.f0.toList ∧ Op.bytesLess a.f1.toList b.f1.toList = true) := by
  unfold lessT
  rw [Bool.or_eq_true, Bool.and_eq_true, decide_eq_true_iff]
theorem less_irrefl (a : S27) : lessT a a = false := by
  unfold lessT
  rw [bl_irrefl, bl_irrefl]
  cases decide (a.f0.toList = a.f0.toList) <;> rfl
theorem less_trans {a b c : S27} (h1 : lessT a b = true) (h2 : lessT b c = true) : lessT a c = true := by
  rw [less_iff] at h1 h2 ⊢
  rcases h1 with h1 | ⟨e1, h1⟩
  · rcases h2 with h2 | ⟨e2, h2⟩
    · exact .inl (bl_trans _ _ _ h1 h2)
    · rw [← e2]
      exact .inl h1
  · rw [e1]
    rcases h2 with h2 | ⟨e2, h2⟩
    · exact .inl h2
    · exact .inr ⟨e2, bl_trans _ _ _ h1 h2⟩
theorem less_asymm {a b : S27} (h : lessT a b = true) : lessT b a = false := by
  cases h2 : lessT b a with
  | false => rfl
  | true => have := less_trans h h2; rw [less_irrefl] at this; cases this
theorem less_total {a b : S27} (h1 : lessT a b = false) (h2 : lessT b a = false) : a = b := by
  have n1 : ¬ (Op.bytesLess a.f0.toList b.f0.toList = true ∨ (a.f0.toList = b.f0.toList ∧ Op.bytesLess a.f1.toList b.f1.toList = true)) := fun h => by rw [less_iff.mpr h] at h1; cases h1
  have n2 : ¬ (Op.bytesLess b.f0.toList a.f0.toList = true ∨ (b.f0.toList = a.f0.toList ∧ Op.bytesLess b.f1.toList a.f1.toList = true)) := fun h => by rw [less_iff.mpr h] at h2; cases h2
  have e0 : a.f0.toList = b.f0.toList := bl_total _ _ (Bool.eq_false_iff.mpr fun h => n1 (.inl h)) (Bool.eq_false_iff.mpr fun h => n2 (.inl h))
  exact pair_ext e0 (bl_total _ _ (Bool.eq_false_iff.mpr fun h => n1 (.inr ⟨e0, h⟩)) (Bool.eq_false_iff.mpr fun h => n2 (.inr ⟨e0.symm, h⟩)))
/-- How two texts stand. -/
def cmpT (x y : List UInt8) : Int := if Op.bytesLess x y = true then -1 else if Op.bytesLess y x = true then 1 else 0
theorem cmp_is (a b : ByteArray) : cmp_Compare_string.f a b = some (cmpT a.toList b.toList) := by
  unfold cmp_Compare_string.f cmp_isNaN_string.f
  rw [Option.bind_some, Option.bind_some, bne_self_eq_false, bne_self_eq_false, if_neg (by decide), if_neg (by decide)]
  unfold cmpT
  split
  · rfl
  · split <;> rfl
theorem or_is (k : Nat) (a b : Int) : cmp_Or_int.f (k + 3) [a, b] = some (if a = 0 then b else a) := by
  have w1 : wrap64 (0 + 1) = 1 := by decide +kernel
  have w2 : wrap64 (1 + 1) = 2 := by decide +kernel
  have r0 : rd [a, b] 0 = a := rfl
  have r1 : rd [a, b] 1 = b := rfl
  have hl : (([a, b] : List Int).length : Int) = 2 := rfl
  unfold cmp_Or_int.f
  rw [cmp_Or_int.l0, if_pos (by rw [hl]; decide), if_pos (by decide), if_pos (by rw [hl]; decide), r0, w1]
  by_cases ha : a = 0
  · rw [if_pos ha, if_pos ha, cmp_Or_int.l0, if_pos (by rw [hl]; decide), if_pos (by decide), if_pos (by rw [hl]; decide), r1, w2]
    by_cases hb : b = 0
    · rw [if_pos hb, cmp_Or_int.l0, if_neg (by rw [hl]; decide), hb]
    · rw [if_neg hb]
  · rw [if_neg ha, if_neg ha]
theorem less_is (k : Nat) (a b : S27) : bucket_Less.f (k + 3) a.f0 a.f1 b.f0 b.f1 = some (lessT a b) := by
  unfold bucket_Less.f bucket_order.f
  rw [cmp_is, cmp_is, Option.bind_some, Option.bind_some, or_is, Option.bind_some, Option.bind_some]
  congr 1
  unfold lessT cmpT
  by_cases h1 : Op.bytesLess a.f0.toList b.f0.toList = true
  · rw [if_pos h1, h1]
    rfl
  · rw [if_neg h1, Bool.eq_false_iff.mpr h1]
    by_cases h2 : Op.bytesLess b.f0.toList a.f0.toList = true
    · rw [if_pos h2, show decide (a.f0.toList = b.f0.toList) = false from decide_eq_false (fun e => bl_ne h2 e.symm)]
      rfl
    · rw [if_neg h2, if_pos rfl, show decide (a.f0.toList = b.f0.toList) = true from decide_eq_true (bl_total _ _ (Bool.eq_false_iff.mpr h1) (Bool.eq_false_iff.mpr h2))]
      by_cases h3 : Op.bytesLess a.f1.toList b.f1.toList = true
      · rw [if_pos h3, h3]
        rfl
      · rw [if_neg h3, Bool.eq_false_iff.mpr h3]
        split <;> rfl
theorem rd27 (l : List S27) (j : Nat) (h : j < l.length) : rd_T27 l (j : Int) = l[j] := by
  unfold rd_T27
  rw [Int.toNat_natCast, List.getD_eq_getElem?_getD, List.getElem?_eq_getElem h]
  rfl
theorem add1 {j : Nat} (h : j ≤ 1000000000) : wrap64 ((j : Int) + 1) = ((j + 1 : Nat) : Int) := by unfold wrap64; omega
/-- The first place of which p tells true, from i on. -/
def ixT (p : S27 → Bool) : List S27 → Int → Int
  | [], _ => -1
  | c :: r, i => if p c = true then i else ixT p r (i + 1)
/-- Is a pair too long? -/
def longT (x : S27) : Bool := decide ((48 : Int) < (x.f0.size : Int)) || decide ((160 : Int) < (x.f1.size : Int))
/-- Does each pair stand ahead of the next one? -/
def risesT : List S27 → Bool
  | [] => true
  | [_] => true
  | a :: b :: r => lessT a b && risesT (b :: r)
end Go.Proofs.Ytgbjinonlfhciaa.BkV
namespace Go.Proofs.Ytgbjinonlfhciaa.MBk
open Go.RowKit Go.Proofs.Ytgbjinonlfhciaa.BkV Go.Proofs.YtgbjinonlfhciaaW.PrintWords Go.Proofs.YtgbjinonlfhciaaW.PrintLast Go.Proofs.YtgbjinonlfhciaaW.PrintMore
set_option linter.unusedVariables false
set_option linter.unusedSimpArgs false
theorem below_drawn {w w' : World} (h : Drawn0 w w') : Below w.heap.size w w' := by
  obtain ⟨nd, rfl⟩ := h
  exact pw_below_drewN (Below.refl _ _) _
set_option maxHeartbeats 4000000 in
set_option maxRecDepth 100000 in
theorem ahead_calls (x p : S27) (g : Nat) (w : World) (hx : w.heap[g]? = some (.cells #[.string p.f0, .string p.f1] 27 (0, 0))) :
    Calls Try.prog 29 #[.agg #[.string x.f0, .string x.f1], .pointer (some ⟨g, 0, none⟩)] w fun e w' => e = .returned (.bool (lessT p x)) ∧ Below w.heap.size w w' := by
  have HX := Aside0.mk hx
  clear hx
  go_enter Try.func29, Try.ntmps29
  go_upto_region 1 with fail
  have hW := below_alloc (Below.refl w.heap.size w) (Obj.cells #[Value.string x.f0, Value.string x.f1] 27)
  have hN := blk_new w (Obj.cells #[Value.string x.f0, Value.string x.f1] 27)
  obtain ⟨g2, hg⟩ : ∃ g, g = w.heap.size := ⟨_, rfl⟩
  rw [← hg] at hN ⊢
  generalize w.alloc (Obj.cells #[Value.string x.f0, Value.string x.f1] 27) = W1 at hW hN ⊢
  have k0 := blk_cell hN 0
  have k1 := blk_cell hN 1
  have q0 := blk_cell (blk_below HX.out hW) 0
  have q1 := blk_cell (blk_below HX.out hW) 1
  have HW := Aside0.mk hW
  clear hW hN hg
  go_wp2_with fail
  go_at_call 17
  refine (bucket_Less.calls 3 p.f0 p.f1 x.f0 x.f1 (lessT p x) W1 (less_is 0 p x)).mono ?_
  clear k0 k1 q0 q1
  rintro ex W2 ⟨rfl, hb⟩
  have HB := Aside0.mk (below_step HW.out hb)
  clear hb
  go_wp2_with fail
  go_ret
  exact ⟨rfl, HB.out⟩
set_option maxHeartbeats 4000000 in
set_option maxRecDepth 100000 in
theorem long_calls (x : S27) (w : World) :
    Calls Try.prog 34 #[.agg #[.string x.f0, .string x.f1]] w fun e w' => e = .returned (.bool (longT x)) ∧ Below w.heap.size w w' := by
  go_enter Try.func34, Try.ntmps34
  go_upto_region 1 with fail
  have hW := below_alloc (Below.refl w.heap.size w) (Obj.cells #[Value.string x.f0, Value.string x.f1] 27)
  have hN := blk_new w (Obj.cells #[Value.string x.f0, Value.string x.f1] 27)
  obtain ⟨g2, hg⟩ : ∃ g, g = w.heap.size := ⟨_, rfl⟩
  rw [← hg] at hN ⊢
  generalize w.alloc (Obj.cells #[Value.string x.f0, Value.string x.f1] 27) = W1 at hW hN ⊢
  have k0 := blk_cell hN 0
  have k1 := blk_cell hN 1
  have HW := Aside0.mk hW
  clear hW hN hg
  have hlong : longT x = (decide ((48 : Int) < (x.f0.size : Int)) || decide ((160 : Int) < (x.f1.size : Int))) := rfl
  by_cases h1 : (48 : Int) < (x.f0.size : Int)
  · have b1 : decide ((48 : Int) < (x.f0.size : Int)) = true := decide_eq_true h1
    rw [b1] at hlong
    have HLO := Aside0.mk hlong
    clear h1 hlong
    go_wp2_with fail
    go_ret
    exact ⟨by rw [HLO.out]; rfl, HW.out⟩
  · have b1 : decide ((48 : Int) < (x.f0.size : Int)) = false := decide_eq_false h1
    rw [b1, Bool.false_or] at hlong
    have HLO := Aside0.mk hlong
    clear h1 hlong
    go_wp2_with fail
    go_ret
    exact ⟨by rw [HLO.out]; rfl, HW.out⟩
set_option maxHeartbeats 4000000 in
set_option maxRecDepth 100000 in
theorem ixless_calls (l : List S27) (A0 : Option Addr) (c0 : Nat) (p : S27) (g : Nat) (w : World) (hC : Kd.C k27 w A0 l.length l) (hx : w.heap[g]? = some (.cells #[.string p.f0, .string p.f1] 27 (0, 0))) :
    Calls Try.prog 28 #[.slice A0 l.length c0, .func (Fn.func 29) #[] #[.pointer (some ⟨g, 0, none⟩)]] w fun e w' => e = .returned (.int .i64 (ixT (fun y => lessT p y) l 0)) ∧ Below w.heap.size w w' := by
  have HC := Aside0.mk hC
  have HX := Aside0.mk hx
  clear hx
  have HL := Aside0.mk (show l.length ≤ 9223372036854775807 from hC.2.1)
  clear hC
  go_enter Try.func28, Try.ntmps28
  go_wp2_with fail
  go_loopw [8] (fun i wr => ∃ (j : Nat), j ≤ l.length ∧ i = .int .i64 (j : Int) ∧ ixT (fun y => lessT p y) (l.drop j) (j : Int) = ixT (fun y => lessT p y) l 0 ∧ Below w.heap.size w wr)
    (fun i _ => l.length - (intOf i).toNat)
  case atStart => exact ⟨0, Nat.zero_le _, rfl, rfl, Below.refl _ _⟩
  case round =>
    obtain ⟨j, hj, rfl, hf, hb⟩ := hrel
    have HF := Aside0.mk hf
    have HB := Aside0.mk hb
    clear hf hb
    by_cases hlt : j < l.length
    · have b1 : decide ((j : Int) < (l.length : Int)) = true := decide_eq_true (by omega)
      have b1n : decide (j < l.length) = true := decide_eq_true hlt
      obtain ⟨ad, e1, hx0, hx1⟩ := at_T27 (Kd.C_below HC.out HB.out) (j : Int) (by omega) (by omega)
      subst e1
      rw [rd27 l j hlt] at hx0 hx1
      rw [Int.toNat_natCast] at hx0 hx1
      have hd := HF.out
      rw [List.drop_eq_getElem_cons hlt] at hd
      generalize l[j] = y at hx0 hx1 hd
      have p0 := eq_true (show 0 ≤ (j : Int) by omega)
      have p1 := eq_true (show (j : Int) < (l.length : Int) by omega)
      have HD := Aside0.mk hd
      have HLT := Aside0.mk hlt
      clear hd hlt
      go_wp2_with fail
      go_at_call 29
      refine (ahead_calls y p g _ (blk_below HX.out HB.out)).mono ?_
      rintro ex w1 ⟨rfl, hb⟩
      have HB1 := Aside0.mk (below_step HB.out hb)
      clear hb hx0 hx1
      by_cases he : ((fun y => lessT p y) y) = true
      · have hd := HD.out
        rw [ixT, if_pos he] at hd
        have he2 : lessT p y = true := he
        rw [he2]
        clear he he2
        go_wp2
        go_ret
        exact ⟨by rw [← hd]; rfl, HB1.out⟩
      · have hd := HD.out
        rw [ixT, if_neg he] at hd
        have he2 : lessT p y = false := Bool.eq_false_iff.mpr he
        rw [he2]
        have HD2 := Aside0.mk hd
        clear he hd he2
        go_wp2_with fail
        have h5 := HL.out
        have h6 := HLT.out
        have ew : wrap64 ((j : Int) + 1) = ((j + 1 : Nat) : Int) := by unfold wrap64; omega
        rw [ew]
        exact ⟨⟨j + 1, by omega, rfl, HD2.out, HB1.out⟩, by simp [intOf]; omega⟩
    · obtain rfl : j = l.length := by omega
      have b1 : decide ((l.length : Int) < (l.length : Int)) = false := decide_eq_false (by omega)
      have hd := HF.out
      rw [List.drop_length, ixT] at hd
      clear hlt
      go_wp2
      go_ret
      exact ⟨by rw [← hd]; rfl, HB.out⟩
set_option maxHeartbeats 4000000 in
set_option maxRecDepth 100000 in
theorem ixlong_calls (l : List S27) (A0 : Option Addr) (c0 : Nat) (w : World) (hC : Kd.C k27 w A0 l.length l) :
    Calls Try.prog 28 #[.slice A0 l.length c0, .func (Fn.func 34) #[] #[]] w fun e w' => e = .returned (.int .i64 (ixT longT l 0)) ∧ Below w.heap.size w w' := by
  have HC := Aside0.mk hC
  have HL := Aside0.mk (show l.length ≤ 9223372036854775807 from hC.2.1)
  clear hC
  go_enter Try.func28, Try.ntmps28
  go_wp2_with fail
  go_loopw [8] (fun i wr => ∃ (j : Nat), j ≤ l.length ∧ i = .int .i64 (j : Int) ∧ ixT longT (l.drop j) (j : Int) = ixT longT l 0 ∧ Below w.heap.size w wr)
    (fun i _ => l.length - (intOf i).toNat)
  case atStart => exact ⟨0, Nat.zero_le _, rfl, rfl, Below.refl _ _⟩
  case round =>
    obtain ⟨j, hj, rfl, hf, hb⟩ := hrel
    have HF := Aside0.mk hf
    have HB := Aside0.mk hb
    clear hf hb
    by_cases hlt : j < l.length
    · have b1 : decide ((j : Int) < (l.length : Int)) = true := decide_eq_true (by omega)
      have b1n : decide (j < l.length) = true := decide_eq_true hlt
      obtain ⟨ad, e1, hx0, hx1⟩ := at_T27 (Kd.C_below HC.out HB.out) (j : Int) (by omega) (by omega)
      subst e1
      rw [rd27 l j hlt] at hx0 hx1
      rw [Int.toNat_natCast] at hx0 hx1
      have hd := HF.out
      rw [List.drop_eq_getElem_cons hlt] at hd
      generalize l[j] = y at hx0 hx1 hd
      have p0 := eq_true (show 0 ≤ (j : Int) by omega)
      have p1 := eq_true (show (j : Int) < (l.length : Int) by omega)
      have HD := Aside0.mk hd
      have HLT := Aside0.mk hlt
      clear hd hlt
      go_wp2_with fail
      go_at_call 34
      refine (long_calls y _).mono ?_
      rintro ex w1 ⟨rfl, hb⟩
      have HB1 := Aside0.mk (below_step HB.out hb)
      clear hb hx0 hx1
      by_cases he : (longT y) = true
      · have hd := HD.out
        rw [ixT, if_pos he] at hd
        have he2 : longT y = true := he
        rw [he2]
        clear he he2
        go_wp2
        go_ret
        exact ⟨by rw [← hd]; rfl, HB1.out⟩
      · have hd := HD.out
        rw [ixT, if_neg he] at hd
        have he2 : longT y = false := Bool.eq_false_iff.mpr he
        rw [he2]
        have HD2 := Aside0.mk hd
        clear he hd he2
        go_wp2_with fail
        have h5 := HL.out
        have h6 := HLT.out
        have ew : wrap64 ((j : Int) + 1) = ((j + 1 : Nat) : Int) := by unfold wrap64; omega
        rw [ew]
        exact ⟨⟨j + 1, by omega, rfl, HD2.out, HB1.out⟩, by simp [intOf]; omega⟩
    · obtain rfl : j = l.length := by omega
      have b1 : decide ((l.length : Int) < (l.length : Int)) = false := decide_eq_false (by omega)
      have hd := HF.out
      rw [List.drop_length, ixT] at hd
      clear hlt
      go_wp2
      go_ret
      exact ⟨by rw [← hd]; rfl, HB.out⟩
theorem ix_ge (p : S27 → Bool) : ∀ (l : List S27) (i : Int), 0 ≤ i → decide (ixT p l i ≥ 0) = l.any p
  | [], i, h => rfl
  | c :: r, i, h => by
    rw [ixT, List.any_cons]
    by_cases hc : p c = true
    · rw [if_pos hc, hc, decide_eq_true h]
      rfl
    · rw [if_neg hc, Bool.eq_false_iff.mpr hc, ix_ge p r (i + 1) (by omega)]
      rfl
set_option maxHeartbeats 4000000 in
set_option maxRecDepth 100000 in
theorem anylong_calls (l : List S27) (A0 : Option Addr) (c0 : Nat) (w : World) (hC : Kd.C k27 w A0 l.length l) :
    Calls Try.prog 33 #[.slice A0 l.length c0, .func (Fn.func 34) #[] #[]] w fun e w' => e = .returned (.bool (l.any longT)) ∧ Below w.heap.size w w' := by
  go_enter Try.func33, Try.ntmps33
  go_wp2_with fail
  go_at_call 28
  refine (ixlong_calls l A0 c0 w hC).mono ?_
  rintro ex w1 ⟨rfl, hb⟩
  have HB := Aside0.mk hb
  have HI := Aside0.mk (ix_ge longT l 0 (Int.le_refl 0))
  clear hb hC
  go_wp2_with fail
  go_ret
  exact ⟨by rw [← HI.out]; rfl, HB.out⟩
end Go.Proofs.Ytgbjinonlfhciaa.MBk
