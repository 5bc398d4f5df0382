/- The contracts of dir.Check (a predicate handed to slices.ContainsFunc) and slices.Clone of numbers. -/
import Derived.Test.YtiapecjiedhaoaaProg
import Derived.WalkSpells
import Derived.Lib.SlBytesConst
import Derived.Lib.SmallJoins
import Derived.Deep.AppendLies
import Derived.OwnWalk
import Derived.Test.YtiapecjiedhaoaaWApart
import Derived.Laws.Tables
import Derived.Test.YtiapecjiedhaoaaWWords
import Derived.Test.YtiapecjiedhaoaaWLast
import Derived.Test.YtiapecjiedhaoaaWMore
import Derived.Deep.LoopGhost
import Derived.Laws.Rows
import Derived.KernelRfl
namespace Go.Proofs.Ytiapecjiedhaoaa.Hand
open Go.RowKit Go.Proofs.YtiapecjiedhaoaaW.PrintWords Go.Proofs.YtiapecjiedhaoaaW.PrintLast Go.Proofs.YtiapecjiedhaoaaW.PrintMore
set_option linter.unusedVariables false
/-- A slot that may not be. -/
def badN (x : Int) : Bool := !(decide (1 ≤ x) && decide (x ≤ 3000))
theorem slot_calls (x : Int) (w : World) : Calls Try.prog 35 #[.int .i64 x] w fun e w' => e = .returned (.bool (!badN x)) ∧ w' = w := by
  by_cases h1 : 1 ≤ x
  · have b1 : decide (1 ≤ x) = true := decide_eq_true h1
    clear h1
    go_enter Try.func35, Try.ntmps35
    go_wp2
    go_ret
    exact ⟨by simp [badN, b1], rfl⟩
  · have b1 : decide (1 ≤ x) = false := decide_eq_false h1
    clear h1
    go_enter Try.func35, Try.ntmps35
    go_wp2
    go_ret
    exact ⟨by simp [badN, b1], rfl⟩
theorem bad_calls (x : Int) (w : World) : Calls Try.prog 34 #[.int .i64 x] w fun e w' => e = .returned (.bool (badN x)) ∧ w' = w := by
  go_enter Try.func34, Try.ntmps34
  go_wp2_with (first | (go_at_call 35; refine (slot_calls x _).mono ?_; rintro e w' ⟨rfl, rfl⟩))
  go_ret
  exact ⟨by simp, rfl⟩
def first_bad.l0 : Nat → List Int → Int → Option Int
  | 0, _, _ => none
  | k + 1, l, i => if i < (l.length : Int) then (if 0 ≤ i then (if badN (rd l i) = true then some i else first_bad.l0 k l (wrap64 (i + 1))) else none) else some (-1)
set_option maxHeartbeats 4000000 in
set_option maxRecDepth 100000 in
theorem first_bad.calls (k : Nat) (A0 : Option Addr) (c0 : Nat) (l0 : List Int) (r : Int) (w : World) (hr0 : Kd.C (Kd.int .i64) w A0 l0.length l0) (h : first_bad.l0 k l0 0 = some r) :
    Calls Try.prog 48 #[.slice A0 l0.length c0, .func (.func 34) #[] #[]] w fun e w' => e = .returned (.int .i64 r) ∧ w' = w := by
  have HR0 := Aside0.mk hr0
  have H' := Aside0.mk h
  clear hr0 h
  go_enter Try.func48, Try.ntmps48
  go_wp2
  go_loopg [8] k (fun kq v8 w' => ∃ (x8_1 : Int), v8 = .int .i64 x8_1 ∧ Aside0 (first_bad.l0 kq l0 x8_1 = some r) ∧ Aside0 (kq ≤ k) ∧ w' = w)
  case atStart => exact ⟨0, rfl, H', ⟨Nat.le_refl _⟩, rfl⟩
  case round =>
    clear H'
    obtain ⟨x8_1, rfl, HA, HK1, rfl⟩ := hrel
    cases gk with
    | zero => exact absurd HA.out (by simp [first_bad.l0])
    | succ k1 =>
      have H := HA.out
      clear HA
      rw [first_bad.l0] at H
      by_cases c2 : x8_1 < (l0.length : Int)
      · rw [if_pos c2] at H
        have c2b0 : decide (x8_1 < (l0.length : Int)) = true := decide_eq_true c2
        by_cases c3 : 0 ≤ x8_1
        · rw [if_pos c3] at H
          have c3b0 : decide (0 ≤ x8_1) = true := decide_eq_true c3
          obtain ⟨ad, e1, hx⟩ := Kd.at_int HR0.out x8_1 c3 c2
          cases e1
          replace c2 := eq_true c2
          replace c3 := eq_true c3
          cases hb : badN (rd l0 x8_1) with
          | true =>
            rw [if_pos hb] at H
            obtain rfl := Option.some.inj H
            clear H
            go_wp2_with (first | (go_at_call 34; refine (bad_calls _ _).mono ?_; rintro e w' ⟨rfl, rfl⟩; rw [hb]))
            go_ret
            exact ⟨rfl, rfl⟩
          | false =>
            rw [if_neg (by rw [hb]; decide)] at H
            have H' := Aside0.mk H
            clear H
            go_wp2_with (first | (go_at_call 34; refine (bad_calls _ _).mono ?_; rintro e w' ⟨rfl, rfl⟩; rw [hb]))
            go_roundg k1
            case measure => have := HK1.out; omega
            case rel => exact ⟨(wrap64 (x8_1 + 1)), rfl, H', ⟨by have := HK1.out; omega⟩, rfl⟩
        · rw [if_neg c3] at H
          exact absurd H (by simp)
      · rw [if_neg c2] at H
        have c2b0 : decide (x8_1 < (l0.length : Int)) = false := decide_eq_false c2
        clear c2
        obtain rfl := Option.some.inj H
        go_wp2
        go_ret
        exact ⟨rfl, rfl⟩

theorem rd_lt (l : List Int) (i : Nat) (h : i < l.length) : rd l (i : Int) = l[i] := by
  unfold rd
  rw [Int.toNat_natCast, List.getD_eq_getElem?_getD, List.getElem?_eq_getElem h]
  rfl
/-- Some number comes of it, and it is none just where no slot is bad. -/
theorem first_bad_is (l : List Int) (hn : l.length ≤ 9223372036854775807) (d : Nat) : ∀ (k i : Nat), i + d = l.length → d < k → ∃ r : Int, first_bad.l0 k l (i : Int) = some r ∧ decide (r ≥ 0) = (l.drop i).any badN := by
  induction d with
  | zero =>
    intro k i hi hk
    obtain ⟨k, rfl⟩ : ∃ m, k = m + 1 := ⟨k - 1, by omega⟩
    refine ⟨-1, by rw [first_bad.l0, if_neg (by omega)], ?_⟩
    rw [List.drop_of_length_le (by omega)]
    rfl
  | succ d ih =>
    intro k i hi hk
    obtain ⟨k, rfl⟩ : ∃ m, k = m + 1 := ⟨k - 1, by omega⟩
    have hlt : i < l.length := by omega
    have ew : wrap64 ((i : Int) + 1) = ((i + 1 : Nat) : Int) := by unfold wrap64; omega
    rw [first_bad.l0, if_pos (by omega), if_pos (by omega), rd_lt l i hlt, List.drop_eq_getElem_cons hlt, List.any_cons]
    cases hb : badN l[i] with
    | true =>
      refine ⟨(i : Int), by rw [if_pos rfl], ?_⟩
      rw [Bool.true_or]
      exact decide_eq_true (by omega)
    | false =>
      obtain ⟨r, h1, h2⟩ := ih k (i + 1) (by omega) (by omega)
      refine ⟨r, by rw [if_neg (by decide), ew]; exact h1, ?_⟩
      rw [Bool.false_or]
      exact h2
set_option maxRecDepth 100000 in
theorem any_bad.calls (A0 : Option Addr) (c0 : Nat) (l0 : List Int) (w : World) (hr0 : Kd.C (Kd.int .i64) w A0 l0.length l0) :
    Calls Try.prog 33 #[.slice A0 l0.length c0, .func (.func 34) #[] #[]] w fun e w' => e = .returned (.bool (l0.any badN)) ∧ w' = w := by
  have hn : l0.length ≤ 9223372036854775807 := by
    exact hr0.2.1
  obtain ⟨r, h1, h2⟩ := first_bad_is l0 hn l0.length (l0.length + 1) 0 (by omega) (by omega)
  rw [List.drop_zero] at h2
  rw [← h2]
  have HR := Aside0.mk hr0
  have H1 := Aside0.mk h1
  clear hr0 h1 h2 hn
  go_enter Try.func33, Try.ntmps33
  go_wp2_with (first | (go_at_call 48; refine (first_bad.calls _ _ _ l0 r _ HR.out H1.out).mono ?_; rintro e w' ⟨rfl, rfl⟩))
  go_ret
  exact ⟨by simp, rfl⟩
/-- What dir.Check tells. -/
def dir_Check.f (d : Int) (l : List Int) : Option Int := some (if d < 0 then 12 else if 10 < d then 12 else if l.any badN = true then 12 else if (l.length : Int) = 2 ^ d.toNat then 0 else 4)
set_option maxHeartbeats 4000000 in
set_option maxRecDepth 100000 in
theorem dir_Check.calls (a0_0 : Int) (A0_1 : Option Addr) (c0_1 : Nat) (l0_1 : List Int) (r : Int) (w : World) (hr0_1 : Kd.C (Kd.int .i64) w A0_1 l0_1.length l0_1) (hc0_1 : l0_1.length ≤ c0_1) (h : dir_Check.f a0_0 l0_1 = some r) :
    Calls Try.prog 11 #[.agg #[.int .i64 a0_0, .slice A0_1 l0_1.length c0_1]] w fun e w' => e = .returned (.int .i64 r) ∧ Below w.heap.size w w' := by
  unfold dir_Check.f at h
  have h := Option.some.inj h
  have HR := Aside0.mk hr0_1
  clear hr0_1 hc0_1
  have HB := Aside0.mk (Below.refl w.heap.size w)
  by_cases h1 : a0_0 < 0
  · rw [if_pos h1] at h
    subst h
    have b1 : decide (a0_0 < 0) = true := decide_eq_true h1
    clear h1
    go_enter Try.func11, Try.ntmps11
    go_wp2_with (first | ((with_reducible refine gate_dst (N := 1) rfl ?_); refine box_event ?hg (N := 1) ?hd (cs := #[.int .i64 a0_0, .slice A0_1 l0_1.length c0_1]) (t := 26) ?hr ?_; (case hd => rfl); (case hg => rfl); (case hr => first | (go_simp; done) | (go_simp; rfl)); intro gb hg w3 hbox hb; have n0_ := Aside0.mk (below_step HB.out hb); have BK := Aside0.mk hbox; clear HB; have HB := n0_; clear n0_; have hcz0 : w3.cell? ⟨gb, 0, none⟩ = some (.int .i64 a0_0) := (blk_cell BK.out 0).trans rfl; have hcz1 : w3.cell? ⟨gb, 1, none⟩ = some (.slice A0_1 l0_1.length c0_1) := (blk_cell BK.out 1).trans rfl; have hfz0 := blk_frozen BK.out 0; have hfz1 := blk_frozen BK.out 1; clear hb hbox hg) | (go_at_call 33; refine (any_bad.calls _ _ l0_1 _ (Kd.C_below HR.out HB.out)).mono ?_; rintro e w4 ⟨rfl, rfl⟩; rw [b3]))
    go_ret
    exact ⟨rfl, HB.out⟩
  · rw [if_neg h1] at h
    have b1 : decide (a0_0 < 0) = false := decide_eq_false h1
    by_cases h2 : 10 < a0_0
    · rw [if_pos h2] at h
      subst h
      have b2 : decide (10 < a0_0) = true := decide_eq_true h2
      clear h1 h2
      go_enter Try.func11, Try.ntmps11
      go_wp2_with (first | ((with_reducible refine gate_dst (N := 1) rfl ?_); refine box_event ?hg (N := 1) ?hd (cs := #[.int .i64 a0_0, .slice A0_1 l0_1.length c0_1]) (t := 26) ?hr ?_; (case hd => rfl); (case hg => rfl); (case hr => first | (go_simp; done) | (go_simp; rfl)); intro gb hg w3 hbox hb; have n0_ := Aside0.mk (below_step HB.out hb); have BK := Aside0.mk hbox; clear HB; have HB := n0_; clear n0_; have hcz0 : w3.cell? ⟨gb, 0, none⟩ = some (.int .i64 a0_0) := (blk_cell BK.out 0).trans rfl; have hcz1 : w3.cell? ⟨gb, 1, none⟩ = some (.slice A0_1 l0_1.length c0_1) := (blk_cell BK.out 1).trans rfl; have hfz0 := blk_frozen BK.out 0; have hfz1 := blk_frozen BK.out 1; clear hb hbox hg) | (go_at_call 33; refine (any_bad.calls _ _ l0_1 _ (Kd.C_below HR.out HB.out)).mono ?_; rintro e w4 ⟨rfl, rfl⟩; rw [b3]))
      go_ret
      exact ⟨rfl, HB.out⟩
    · rw [if_neg h2] at h
      have b2 : decide (10 < a0_0) = false := decide_eq_false h2
      cases b3 : l0_1.any badN with
      | true =>
        rw [b3, if_pos rfl] at h
        subst h
        clear h1 h2
        go_enter Try.func11, Try.ntmps11
        go_wp2_with (first | ((with_reducible refine gate_dst (N := 1) rfl ?_); refine box_event ?hg (N := 1) ?hd (cs := #[.int .i64 a0_0, .slice A0_1 l0_1.length c0_1]) (t := 26) ?hr ?_; (case hd => rfl); (case hg => rfl); (case hr => first | (go_simp; done) | (go_simp; rfl)); intro gb hg w3 hbox hb; have n0_ := Aside0.mk (below_step HB.out hb); have BK := Aside0.mk hbox; clear HB; have HB := n0_; clear n0_; have hcz0 : w3.cell? ⟨gb, 0, none⟩ = some (.int .i64 a0_0) := (blk_cell BK.out 0).trans rfl; have hcz1 : w3.cell? ⟨gb, 1, none⟩ = some (.slice A0_1 l0_1.length c0_1) := (blk_cell BK.out 1).trans rfl; have hfz0 := blk_frozen BK.out 0; have hfz1 := blk_frozen BK.out 1; clear hb hbox hg) | (go_at_call 33; refine (any_bad.calls _ _ l0_1 _ (Kd.C_below HR.out HB.out)).mono ?_; rintro e w4 ⟨rfl, rfl⟩; rw [b3]))
        go_ret
        exact ⟨rfl, HB.out⟩
      | false =>
        rw [b3, if_neg (by decide)] at h
        have h64 : a0_0 ≤ 64 := by omega
        have h0 : 0 ≤ a0_0 := by omega
        have hm : min a0_0.toNat 64 = a0_0.toNat := by omega
        have hp : IntKind.i64.wrap (1 * 2 ^ a0_0.toNat) = 2 ^ a0_0.toNat := by
          rw [Int.one_mul, IntKind.wrap_i64]
          have hle : a0_0.toNat ≤ 10 := by omega
          have hlt : (2 : Int) ^ a0_0.toNat ≤ 2 ^ 10 := by
            have := Nat.pow_le_pow_right (show 0 < 2 by decide) hle
            exact_mod_cast this
          have h1 : (0 : Int) < 2 ^ a0_0.toNat := by
            have := Nat.pow_pos (n := a0_0.toNat) (show 0 < 2 by decide)
            exact_mod_cast this
          generalize (2 : Int) ^ a0_0.toNat = z at *
          omega
        obtain ⟨z, hz⟩ : ∃ z, (2 : Int) ^ a0_0.toNat = z := ⟨_, rfl⟩
        rw [hz] at hp
        have s1 : (IntKind.i64.wrap (1 * 2 ^ min a0_0.toNat 64)) = z := by rw [hm, hz]; exact hp
        have s2 : a0_0 ≤ 64 → (IntKind.i64.wrap (1 * 2 ^ a0_0.toNat)) = z := fun _ => by rw [hz]; exact hp
        have s3 : (IntKind.i64.wrap (2 ^ min a0_0.toNat 64)) = z := by rw [Int.one_mul] at s1; exact s1
        have s4 : a0_0 ≤ 64 → (IntKind.i64.wrap (2 ^ a0_0.toNat)) = z := fun h_ => by have := s2 h_; rw [Int.one_mul] at this; exact this
        have s5 : (wrap64 (1 * 2 ^ min a0_0.toNat 64)) = z := (i64_w _).symm.trans s1
        have s6 : a0_0 ≤ 64 → (wrap64 (1 * 2 ^ a0_0.toNat)) = z := fun h_ => (i64_w _).symm.trans (s2 h_)
        have h64b := eq_true h64
        have h0b := eq_true h0
        have h0c : decide (0 ≤ a0_0) = true := decide_eq_true h0
        rw [hz] at h
        clear hp hm h64 h0
        by_cases h4 : (l0_1.length : Int) = z
        · rw [if_pos h4] at h
          subst h
          have h4b : ((l0_1.length : Int) != z) = false := bne_eq_false_iff_eq.mpr h4
          clear h4 h1 h2 hz
          go_enter Try.func11, Try.ntmps11
          go_wp2_with (first | ((with_reducible refine gate_dst (N := 1) rfl ?_); refine box_event ?hg (N := 1) ?hd (cs := #[.int .i64 a0_0, .slice A0_1 l0_1.length c0_1]) (t := 26) ?hr ?_; (case hd => rfl); (case hg => rfl); (case hr => first | (go_simp; done) | (go_simp; rfl)); intro gb hg w3 hbox hb; have n0_ := Aside0.mk (below_step HB.out hb); have BK := Aside0.mk hbox; clear HB; have HB := n0_; clear n0_; have hcz0 : w3.cell? ⟨gb, 0, none⟩ = some (.int .i64 a0_0) := (blk_cell BK.out 0).trans rfl; have hcz1 : w3.cell? ⟨gb, 1, none⟩ = some (.slice A0_1 l0_1.length c0_1) := (blk_cell BK.out 1).trans rfl; have hfz0 := blk_frozen BK.out 0; have hfz1 := blk_frozen BK.out 1; clear hb hbox hg) | (go_at_call 33; refine (any_bad.calls _ _ l0_1 _ (Kd.C_below HR.out HB.out)).mono ?_; rintro e w4 ⟨rfl, rfl⟩; rw [b3]))
          repeat (go_quiet (fail); try go_wp2)
          go_ret
          exact ⟨rfl, by repeat (first | (with_reducible first | exact HB.out | apply below_alloc | apply pw_below_drewN | apply below_drew1) | exact HB.out)⟩
        · rw [if_neg h4] at h
          subst h
          have h4b : ((l0_1.length : Int) != z) = true := bne_iff_ne.mpr h4
          clear h4 h1 h2 hz
          go_enter Try.func11, Try.ntmps11
          go_wp2_with (first | ((with_reducible refine gate_dst (N := 1) rfl ?_); refine box_event ?hg (N := 1) ?hd (cs := #[.int .i64 a0_0, .slice A0_1 l0_1.length c0_1]) (t := 26) ?hr ?_; (case hd => rfl); (case hg => rfl); (case hr => first | (go_simp; done) | (go_simp; rfl)); intro gb hg w3 hbox hb; have n0_ := Aside0.mk (below_step HB.out hb); have BK := Aside0.mk hbox; clear HB; have HB := n0_; clear n0_; have hcz0 : w3.cell? ⟨gb, 0, none⟩ = some (.int .i64 a0_0) := (blk_cell BK.out 0).trans rfl; have hcz1 : w3.cell? ⟨gb, 1, none⟩ = some (.slice A0_1 l0_1.length c0_1) := (blk_cell BK.out 1).trans rfl; have hfz0 := blk_frozen BK.out 0; have hfz1 := blk_frozen BK.out 1; clear hb hbox hg) | (go_at_call 33; refine (any_bad.calls _ _ l0_1 _ (Kd.C_below HR.out HB.out)).mono ?_; rintro e w4 ⟨rfl, rfl⟩; rw [b3]))
          repeat (go_quiet (fail); try go_wp2)
          go_ret
          exact ⟨rfl, by repeat (first | (with_reducible first | exact HB.out | apply below_alloc | apply pw_below_drewN | apply below_drew1) | exact HB.out)⟩
theorem infoI64 : (Try.prog.info? 3).map (fun i => (i.zero, i.size, i.bytes)) = some (some (.int .i64 0), 1, 8) := by kernel_rfl
/-- What slices.Clone tells: the same numbers. -/
def slices_Clone_int_int.f (l0 : List Int) : Option (List Int) := if l0.length < 17592186044416 then some l0 else none
set_option maxHeartbeats 2000000 in
set_option maxRecDepth 100000 in
theorem slices_Clone_int_int.calls (A0 : Option Addr) (c0 : Nat) (l0 : List Int) (r : List Int) (w : World) (hr0 : Kd.C (Kd.int .i64) w A0 l0.length l0) (hc0 : l0.length ≤ c0) (h : slices_Clone_int_int.f l0 = some r) :
    Calls Try.prog 45 #[.slice A0 l0.length c0] w fun e w' => ∃ v0_ : Value, e = .returned (v0_) ∧ Kd.R (Kd.int .i64) 3 w' w.heap.size (fun _ => True) v0_ r ∧ Below w.heap.size w w' := by
  unfold slices_Clone_int_int.f at h
  by_cases hl : l0.length < 17592186044416
  · rw [if_pos hl] at h
    obtain rfl := Option.some.inj h
    clear h
    have HR0 := Aside0.mk hr0
    have HC0 := Aside0.mk hc0
    have HL := Aside0.mk hl
    clear hc0 hl
    cases A0 with
    | none =>
      have hn : l0 = [] := by
        rcases Nat.eq_zero_or_pos l0.length with h0 | h0
        · exact List.eq_nil_of_length_eq_zero h0
        · obtain ⟨ad, e, _⟩ := hr0.2.2 h0
          cases e
      subst hn
      clear hr0
      have q := fun (W : World) => Lib.run_eql_slice_nil (P := Try.prog) W 22 3 none ([] : List Int).length c0 0 0 Try.underlying22
      simp only [List.length_nil] at q ⊢
      go_enter Try.func45, Try.ntmps45
      go_wp2
      go_ret
      exact ⟨_, rfl, Kd.R_nil _ _ _ _ _, Below.refl _ _⟩
    | some ad =>
      clear hr0
      have q := fun (W : World) => Lib.run_eql_slice_nil (P := Try.prog) W 22 3 (some ad) l0.length c0 0 0 Try.underlying22
      have HB := Aside0.mk (Below.refl w.heap.size w)
      go_enter Try.func45, Try.ntmps45
      go_wp2_with (first | ((with_reducible refine gate_dst (N := 5) rfl ?_); refine Kd.R_lit (Kd.int .i64) _ 3 ?hg (N := 5) ?hd (xs := ([] : List Int)) (inner := []) (ok := fun _ => True) (okp := fun _ => True) ?hr ?hp (fun _ hk => hk) trivial (Below.refl _ _) (Nat.le_refl _) (by simp) ?_; (case hd => rfl); (case hg => rfl); (case hr => first | (go_simp; done) | (go_simp; rfl)); (case hp => exact (Reps.none _ _)); intro v112 w5 ho6 hb hg_ hnew_; clear hg_ hnew_; have HO := Aside0.mk (Kd.R_lower ho6 (below_size HB.out)); have n1_ := Aside0.mk (below_step HB.out hb); clear HB; have HB := n1_; clear n1_; clear hb ho6) | ((with_reducible refine gate_builtin (b := .append) (xs := #[.tmp 5, .tmp 6]) rfl ?_); at_builtin; refine Kd.R_append_rows (Kd.int .i64) (w0 := w) w.heap.size rfl (.tmp 5) (.tmp 6) 22 3 (.int .i64 0) 8 rfl Try.underlying22 infoI64 rfl (by decide) (by omega) v112 ([] : List Int) l0 _ _ _ (fun _ => True) (fun _ => False) rfl rfl ?aO ?aR (fun _ _ h => h) (fun _ h => h.elim) ?aF ?aB ?aS ?aL ?_; (case aR => exact (Kd.C_below HR0.out HB.out)); (case aB => exact HB.out); (case aF => exact (fun _ _ => trivial)); (case aO => exact HO.out); (case aS => exact (below_size HB.out)); (case aL => have := HL.out; simp only [List.length_nil]; omega); intro v115 w7 ho hb hg hat; have n0_ := Aside0.mk (hb); have n1_ := Aside0.mk (ho); clear HB; clear HO; have HB := n0_; have HO := n1_; clear n0_ n1_; clear ho hb hg hat))
      go_ret
      exact ⟨_, rfl, by have := HO.out; rwa [List.nil_append] at this, HB.out⟩
  · rw [if_neg hl] at h
    cases h
end Go.Proofs.Ytiapecjiedhaoaa.Hand
