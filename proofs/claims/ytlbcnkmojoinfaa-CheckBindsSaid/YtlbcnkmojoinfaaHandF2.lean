/- The contract of check.Find. -/
import Derived.Test.YtlbcnkmojoinfaaMCkx4
import Derived.Test.YtlbcnkmojoinfaaHandF1
import Derived.Lib.SlBytesConst
import Derived.Lib.SmallJoins
namespace Go.Proofs.Ytlbcnkmojoinfaa.MCk
open Go.RowKit Go.Proofs.Ytlbcnkmojoinfaa.Hand Go.Proofs.YtlbcnkmojoinfaaW.PrintWords Go.Proofs.YtlbcnkmojoinfaaW.PrintLast Go.Proofs.YtlbcnkmojoinfaaW.PrintMore
set_option linter.unusedVariables false
set_option linter.unusedSimpArgs false
set_option maxHeartbeats 4000000 in
set_option maxRecDepth 100000 in
theorem is_calls (n x : ByteArray) (A : Option Addr) (m c : Nat) (g : Nat) (w : World) (hx : w.heap[g]? = some (.cells #[.string x] 9 (0, 0))) :
    Calls Try.prog 23 #[.agg #[.string n, .slice A m c], .pointer (some ⟨g, 0, none⟩)] w fun e w' => e = .returned (.bool (n.toList == x.toList)) ∧ Below w.heap.size w w' := by
  have hc := blk_cell (blk_alloc hx (Obj.cells #[Value.string n, Value.slice A m c] 30)) 0
  go_enter Try.func23, Try.ntmps23
  go_wp2
  go_ret
  exact ⟨rfl, below_alloc (Below.refl _ _) _⟩
/-- The first place of a name, or none. -/
def findIx (x : ByteArray) : List S30 → Int → Int
  | [], _ => -1
  | c :: r, i => if c.f0.toList = x.toList then i else findIx x r (i + 1)
theorem rd30 (l : List S30) (j : Nat) (h : j < l.length) : rd_T30 l (j : Int) = l[j] := by
  unfold rd_T30
  rw [Int.toNat_natCast, List.getD_eq_getElem?_getD, List.getElem?_eq_getElem h]
  rfl
set_option maxHeartbeats 4000000 in
set_option maxRecDepth 100000 in
theorem idx_calls (l : List S30) (A0 : Option Addr) (c0 : Nat) (x : ByteArray) (g : Nat) (w : World) (hC : Kd.C k30 w A0 l.length l) (hx : w.heap[g]? = some (.cells #[.string x] 9 (0, 0))) :
    Calls Try.prog 22 #[.slice A0 l.length c0, .func (Fn.func 23) #[] #[.pointer (some ⟨g, 0, none⟩)]] w fun e w' => e = .returned (.int .i64 (findIx x l 0)) ∧ Below w.heap.size w w' := by
  have HC := Aside0.mk hC
  have HX := Aside0.mk hx
  have HL := Aside0.mk (show l.length ≤ 9223372036854775807 from hC.2.1)
  clear hC hx
  go_enter Try.func22, Try.ntmps22
  go_wp2_with fail
  go_loopw [8] (fun i wr => ∃ (j : Nat), j ≤ l.length ∧ i = .int .i64 (j : Int) ∧ findIx x (l.drop j) (j : Int) = findIx x l 0 ∧ Below w.heap.size w wr)
    (fun i _ => l.length - (intOf i).toNat)
  case atStart => exact ⟨0, Nat.zero_le _, rfl, rfl, Below.refl _ _⟩
  case round =>
    obtain ⟨j, hj, rfl, hf, hb⟩ := hrel
    have HF := Aside0.mk hf
    have HB := Aside0.mk hb
    clear hf hb
    by_cases hlt : j < l.length
    · have b1 : decide ((j : Int) < (l.length : Int)) = true := decide_eq_true (by omega)
      have b1n : decide (j < l.length) = true := decide_eq_true hlt
      obtain ⟨ad, A1, c1, e1, hx0, hx1, _, _⟩ := at_T30 (Kd.C_below HC.out HB.out) (j : Int) (by omega) (by omega)
      subst e1
      rw [rd30 l j hlt] at hx0 hx1
      rw [Int.toNat_natCast] at hx0 hx1
      have hd := HF.out
      rw [List.drop_eq_getElem_cons hlt] at hd
      generalize l[j] = y at hx0 hx1 hd
      have p0 := eq_true (show 0 ≤ (j : Int) by omega)
      have p1 := eq_true (show (j : Int) < (l.length : Int) by omega)
      have HD := Aside0.mk hd
      have HLT := Aside0.mk hlt
      clear hd hlt
      go_wp2_with fail
      go_at_call 23
      refine (is_calls _ x _ _ _ g _ (blk_below HX.out HB.out)).mono ?_
      rintro ex w1 ⟨rfl, hb⟩
      have HB1 := Aside0.mk (below_step HB.out hb)
      clear hb hx0 hx1
      by_cases he : y.f0.toList = x.toList
      · have b2 : (y.f0.toList == x.toList) = true := beq_iff_eq.mpr he
        have hd := HD.out
        rw [findIx, if_pos he] at hd
        clear he
        go_wp2
        go_ret
        exact ⟨by rw [← hd]; rfl, HB1.out⟩
      · have b2 : (y.f0.toList == x.toList) = false := beq_eq_false_iff_ne.mpr he
        have hd := HD.out
        rw [findIx, if_neg he] at hd
        have HD2 := Aside0.mk hd
        clear he hd
        go_wp2_with fail
        have h5 := HL.out
        have h6 := HLT.out
        have ew : wrap64 ((j : Int) + 1) = ((j + 1 : Nat) : Int) := by unfold wrap64; omega
        rw [ew]
        exact ⟨⟨j + 1, by omega, rfl, HD2.out, HB1.out⟩, by simp [intOf]; omega⟩
    · obtain rfl : j = l.length := by omega
      have b1 : decide ((l.length : Int) < (l.length : Int)) = false := decide_eq_false (by omega)
      have hd := HF.out
      rw [List.drop_length, findIx] at hd
      clear hlt
      go_wp2
      go_ret
      exact ⟨by rw [← hd]; rfl, HB.out⟩
/-- What the reference tells, by the first place. -/
theorem find_link (x : ByteArray) (l : List S30) (hl : l.length ≤ 9223372036854775807) (r1 : ByteArray) (r2 : List ByteArray) (r3 : Bool) (d : Nat) : ∀ (k j : Nat), j + d = l.length → intarsiaref17_Find.l0 k l x (j : Int) = some (r1, r2, r3) →
    (findIx x (l.drop j) (j : Int) = -1 ∧ r1 = ⟨#[]⟩ ∧ r2 = [] ∧ r3 = false) ∨ ∃ i : Nat, ∃ h : i < l.length, findIx x (l.drop j) (j : Int) = (i : Int) ∧ r1 = l[i].f0 ∧ r2 = l[i].f1 ∧ r3 = true := by
  induction d with
  | zero =>
    intro k j hj h
    cases k with
    | zero => simp [intarsiaref17_Find.l0] at h
    | succ k =>
      rw [intarsiaref17_Find.l0, if_neg (by omega)] at h
      simp only [Option.some.injEq, Prod.mk.injEq] at h
      obtain ⟨rfl, rfl, rfl⟩ := h
      exact .inl ⟨by rw [List.drop_of_length_le (by omega)]; rfl, rfl, rfl, rfl⟩
  | succ d ih =>
    intro k j hj h
    cases k with
    | zero => simp [intarsiaref17_Find.l0] at h
    | succ k =>
      have hlt : j < l.length := by omega
      have ew : wrap64 ((j : Int) + 1) = ((j + 1 : Nat) : Int) := by unfold wrap64; omega
      rw [intarsiaref17_Find.l0, if_pos (by omega), if_pos (by omega), rd30 l j hlt, ew] at h
      rw [List.drop_eq_getElem_cons hlt, findIx]
      by_cases he : l[j].f0.toList = x.toList
      · rw [if_pos he] at h ⊢
        simp only [Option.some.injEq, Prod.mk.injEq] at h
        obtain ⟨rfl, rfl, rfl⟩ := h
        exact .inr ⟨j, hlt, rfl, rfl, rfl, rfl⟩
      · rw [if_neg he] at h ⊢
        exact ih k (j + 1) (by omega) h
set_option maxHeartbeats 4000000 in
set_option maxRecDepth 100000 in
theorem check_Find.calls (k : Nat) (P0_ : Nat → Prop) (A0 : Option Addr) (c0 : Nat) (l0 : List (S30)) (a1 : ByteArray) (r1 : ByteArray) (r2 : List ByteArray) (r3 : Bool) (w : World) (hs0 : Kd.V k30 30 w w.heap.size (fun k_ => P0_ k_) (.slice A0 l0.length c0) l0) (h : intarsiaref17_Find.f k l0 a1 = some (r1, r2, r3)) :
    Calls Try.prog 9 #[.slice A0 l0.length c0, .string a1] w fun e w' => ∃ v1_ : Value, e = .returned (.tuple #[.agg #[.string r1, v1_], .bool r3]) ∧ Kd.V Kd.string 9 w' w.heap.size (fun k_ => (P0_ k_ ∨ w.heap.size ≤ k_)) v1_ r2 ∧ Below w.heap.size w w' := by
  have HV := Aside0.mk hs0
  have HH := Aside0.mk h
  clear hs0 h
  go_enter Try.func9, Try.ntmps9
  go_wp2_with fail
  go_at_call 22
  obtain ⟨g3, hg3⟩ : ∃ g, g = w.heap.size := ⟨_, rfl⟩
  have hsz1 : (w.alloc (Obj.cells #[Value.string a1] 9)).heap.size = w.heap.size + 1 := World.size_alloc _ _
  have hW := below_alloc (Below.refl w.heap.size w) (Obj.cells #[Value.string a1] 9)
  have hN := blk_new w (Obj.cells #[Value.string a1] 9)
  rw [← hg3] at hN hsz1 ⊢
  generalize w.alloc (Obj.cells #[Value.string a1] 9) = W1 at hW hN hsz1 ⊢
  obtain ⟨g4, hg4⟩ : ∃ g, g = W1.heap.size := ⟨_, rfl⟩
  rw [← hsz1]
  have hW2 := below_alloc (Below.refl W1.heap.size W1) (Obj.cells #[Value.string { data := #[] }, Value.slice none 0 0] 30)
  have hN2 := blk_new W1 (Obj.cells #[Value.string { data := #[] }, Value.slice none 0 0] 30)
  rw [← hg4] at hN2 ⊢
  generalize W1.alloc (Obj.cells #[Value.string { data := #[] }, Value.slice none 0 0] 30) = W2 at hW2 hN2 ⊢
  have HB2 := Aside0.mk (below_step hW hW2)
  have HN2 := Aside0.mk hN2
  have HX2 := Aside0.mk (blk_below hN hW2)
  have HG4 := Aside0.mk (show w.heap.size < g4 by omega)
  clear hW hN hsz1 hg3 hg4 hW2 hN2
  refine (idx_calls l0 A0 c0 a1 g3 W2 (Kd.C_below (Kd.V_reads' HV.out).2.2 HB2.out) HX2.out).mono ?_
  rintro ex W3 ⟨rfl, hb⟩
  have HB3 := Aside0.mk (below_step HB2.out hb)
  have HN3 := Aside0.mk (blk_below HN2.out hb)
  clear hb HB2 HN2 HX2
  have d0 := blk_cell HN3.out 0
  have d1 := blk_cell HN3.out 1
  have f0 := blk_frozen HN3.out 0
  have f1 := blk_frozen HN3.out 1
  have hln : l0.length ≤ 9223372036854775807 := (Kd.V_reads' HV.out).2.2.2.1
  rcases find_link a1 l0 hln r1 r2 r3 l0.length k 0 (by omega) HH.out with ⟨h1, rfl, rfl, rfl⟩ | ⟨i, hi, h1, er1, er2, rfl⟩
  · rw [List.drop_zero] at h1
    replace h1 : findIx a1 l0 0 = -1 := h1
    rw [h1]
    clear h1 hln
    go_wp2_with fail
    clear d0 d1 f0 f1
    refine bodyPost_ret (results_ct rfl _ _ g4 30 #[.string ⟨#[]⟩, .slice none 0 0] (0, 0) _ rfl (heap_setCell_same _ g4 1 _ 30 _ (heap_setCell_same _ g4 0 _ 30 _ HN3.out)) Try.underlying30 rfl (by kernel_rfl)) rfl ?_
    exact ⟨_, rfl, Kd.V_nil _ _ _ _ _, (HB3.out.setCell (p := ⟨g4, 0, none⟩) (Nat.le_of_lt HG4.out) _).setCell (p := ⟨g4, 1, none⟩) (Nat.le_of_lt HG4.out) _⟩
  · rw [List.drop_zero] at h1
    replace h1 : findIx a1 l0 0 = (i : Int) := h1
    rw [h1]
    have p0 := eq_true (show 0 ≤ (i : Int) by omega)
    have p1 := eq_true (show (i : Int) < (l0.length : Int) by omega)
    have pn := eq_true hi
    obtain ⟨ad, A1, c1, e1, _, _, _, _⟩ := at_T30 (Kd.V_reads' HV.out).2.2 (i : Int) (by omega) (by omega)
    subst e1
    obtain ⟨ce, hce, hM, hcc⟩ := Kd.V_get HV.out z30 (i : Int) (by omega) (by omega)
    obtain ⟨ua, uc, rfl, ul, ge⟩ := k30_openF hM
    have eg : l0.getD (i : Int).toNat z30 = l0[i] := rd30 l0 i hi
    rw [eg] at hcc hM ul ge
    have hx0 := HB3.out.cell (World.block_lt_of_cell? w _ (hcc 0 _ rfl)) |>.trans (hcc 0 _ rfl)
    have hx1 := HB3.out.cell (World.block_lt_of_cell? w _ (hcc 1 _ rfl)) |>.trans (hcc 1 _ rfl)
    rw [Int.toNat_natCast] at hx0 hx1
    replace hx0 : W3.cell? (ad.add (i * 2)) = some (.string l0[i].f0) := hx0
    rw [add_field _ _ 1 (by omega)] at hx1
    replace hx1 : W3.cell? ⟨(ad.add (i * 2)).block, (ad.add (i * 2)).off + 1, none⟩ = some (.slice ua l0[i].f1.length uc) := hx1
    have GE := Aside0.mk ge
    have UL := Aside0.mk ul
    clear hce hM hcc ul ge eg h1 hln
    generalize l0[i] = y at hx0 hx1 GE UL er1 er2
    have ER1 := Aside0.mk er1
    have ER2 := Aside0.mk er2
    clear er1 er2
    go_wp2_with fail
    clear d0 d1 f0 f1
    refine bodyPost_ret (results_ct rfl _ _ g4 30 #[.string y.f0, .slice ua y.f1.length uc] (0, 0) _ rfl (heap_setCell_same _ g4 1 _ 30 _ (heap_setCell_same _ g4 0 _ 30 _ HN3.out)) Try.underlying30 rfl (by kernel_rfl)) rfl ?_
    have hbel := (HB3.out.setCell (p := ⟨g4, 0, none⟩) (Nat.le_of_lt HG4.out) (.string y.f0)).setCell (p := ⟨g4, 1, none⟩) (Nat.le_of_lt HG4.out) (.slice ua y.f1.length uc)
    obtain rfl := ER1.out
    obtain rfl := ER2.out
    exact ⟨_, rfl, Kd.V_mk UL.out (Kd.F_mono (Kd.F_below GE.out hbel) (fun _ h => .inl h)), hbel⟩
/-- What slices.Clone tells of names. -/
def slices_Clone_string_string.f (l0 : List ByteArray) : Option (List ByteArray) := if l0.length < 8796093022208 then some l0 else none
set_option maxHeartbeats 2000000 in
set_option maxRecDepth 100000 in
theorem slices_Clone_string_string.calls (A0 : Option Addr) (c0 : Nat) (l0 : List ByteArray) (r : List ByteArray) (w : World) (hr0 : Kd.C Kd.string w A0 l0.length l0) (hc0 : l0.length ≤ c0) (h : slices_Clone_string_string.f l0 = some r) :
    Calls Try.prog 25 #[.slice A0 l0.length c0] w fun e w' => ∃ v0_ : Value, e = .returned (v0_) ∧ Kd.R Kd.string 9 w' w.heap.size (fun _ => True) v0_ r ∧ Below w.heap.size w w' := by
  unfold slices_Clone_string_string.f at h
  by_cases hl : l0.length < 8796093022208
  · rw [if_pos hl] at h
    obtain rfl := Option.some.inj h
    clear h
    have HR0 := Aside0.mk hr0
    have HC0 := Aside0.mk hc0
    have HL := Aside0.mk hl
    clear hc0 hl
    cases A0 with
    | none =>
      have hn : l0 = [] := by
        rcases Nat.eq_zero_or_pos l0.length with h0 | h0
        · exact List.eq_nil_of_length_eq_zero h0
        · obtain ⟨ad, e, _⟩ := hr0.2.2 h0
          cases e
      subst hn
      clear hr0
      have q := fun (W : World) => Lib.run_eql_slice_nil (P := Try.prog) W 26 9 none ([] : List ByteArray).length c0 0 0 Try.underlying26
      simp only [List.length_nil] at q ⊢
      go_enter Try.func25, Try.ntmps25
      go_wp2
      go_ret
      exact ⟨_, rfl, Kd.R_nil _ _ _ _ _, Below.refl _ _⟩
    | some ad =>
      clear hr0
      have q := fun (W : World) => Lib.run_eql_slice_nil (P := Try.prog) W 26 9 (some ad) l0.length c0 0 0 Try.underlying26
      have HB := Aside0.mk (Below.refl w.heap.size w)
      go_enter Try.func25, Try.ntmps25
      go_wp2_with (first | ((with_reducible refine gate_dst (N := 5) rfl ?_); refine Kd.R_lit Kd.string _ 9 ?hg (N := 5) ?hd (xs := ([] : List ByteArray)) (inner := []) (ok := fun _ => True) (okp := fun _ => True) ?hr ?hp (fun _ hk => hk) trivial (Below.refl _ _) (Nat.le_refl _) (by simp) ?_; (case hd => rfl); (case hg => rfl); (case hr => first | (go_simp; done) | (go_simp; rfl)); (case hp => exact (Reps.none _ _)); intro v112 w5 ho6 hb hg_ hnew_; clear hg_ hnew_; have HO := Aside0.mk (Kd.R_lower ho6 (below_size HB.out)); have n1_ := Aside0.mk (below_step HB.out hb); clear HB; have HB := n1_; clear n1_; clear hb ho6) | ((with_reducible refine gate_builtin (b := .append) (xs := #[.tmp 5, .tmp 6]) rfl ?_); at_builtin; refine Kd.R_append_rows Kd.string (w0 := w) w.heap.size rfl (.tmp 5) (.tmp 6) 26 9 (.string ⟨#[]⟩) 16 rfl Try.underlying26 info9 rfl (by decide) (by omega) v112 ([] : List ByteArray) l0 _ _ _ (fun _ => True) (fun _ => False) rfl rfl ?aO ?aR (fun _ _ h => h) (fun _ h => h.elim) ?aF ?aB ?aS ?aL ?_; (case aR => exact (Kd.C_below HR0.out HB.out)); (case aB => exact HB.out); (case aF => exact (fun _ _ => trivial)); (case aO => exact HO.out); (case aS => exact (below_size HB.out)); (case aL => have := HL.out; simp only [List.length_nil]; omega); intro v115 w7 ho hb hg hat; have n0_ := Aside0.mk (hb); have n1_ := Aside0.mk (ho); clear HB; clear HO; have HB := n0_; have HO := n1_; clear n0_ n1_; clear ho hb hg hat))
      go_ret
      exact ⟨_, rfl, by have := HO.out; rwa [List.nil_append] at this, HB.out⟩
  · rw [if_neg hl] at h
    cases h
end Go.Proofs.Ytlbcnkmojoinfaa.MCk
