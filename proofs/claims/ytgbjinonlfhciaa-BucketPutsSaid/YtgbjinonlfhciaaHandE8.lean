/- The contract of bucket.Put. -/
import Derived.Test.YtgbjinonlfhciaaHandE7
namespace Go.Proofs.Ytgbjinonlfhciaa.BkV
open Go.RowKit Go.Proofs.Ytgbjinonlfhciaa.MBk Go.Proofs.YtgbjinonlfhciaaW.PrintWords Go.Proofs.YtgbjinonlfhciaaW.PrintLast
/-- A text's bytes, its length ahead. -/
def textB (s : ByteArray) : List Int := [(s.size : Int) % 256] ++ bytesOf s
/-- The bytes of pairs. -/
def pairsB : List S27 → List Int
  | [] => []
  | x :: r => textB x.f0 ++ (textB x.f1 ++ pairsB r)
/-- A bucket's head. -/
def headB (d n : Int) (m : Nat) : List Int := [d % 256, (n / 256) % 256, n % 256, (m : Int) % 256]
/-- What Put tells. -/
def putT (d n : Int) (l : List S27) : List Int × Int := if checkT d n l = 0 then (headB d n l.length ++ pairsB l, 0) else ([], checkT d n l)
theorem text_is (s : ByteArray) (h : s.size ≤ 255) : num_Text.f s = some (textB s, 0) := by
  unfold num_Text.f
  rw [if_neg (by omega), Option.bind_some, if_pos (by show 1 + s.size < _; omega)]
  rfl
theorem check_ok {d n : Int} {l : List S27} (h : checkT d n l = 0) : (0 ≤ d ∧ d ≤ 10 ∧ 0 ≤ n ∧ n ≤ 3000) ∧ l.any longT = false ∧ sizeN l ≤ 246 ∧ risesT l = true := by
  unfold checkT at h
  split at h
  · exact absurd h (by decide)
  · rename_i h1
    split at h
    · exact absurd h (by decide)
    · rename_i h2
      split at h
      · exact absurd h (by decide)
      · rename_i h3
        split at h
        · rename_i h4
          exact ⟨by omega, Bool.eq_false_iff.mpr h2, by omega, h4⟩
        · exact absurd h (by decide)
theorem long_no {l : List S27} (h : l.any longT = false) : ∀ x ∈ l, x.f0.size ≤ 48 ∧ x.f1.size ≤ 160 := by
  intro x hx
  have := (List.any_eq_false.mp h) x hx
  unfold longT at this
  rw [Bool.or_eq_true, decide_eq_true_iff, decide_eq_true_iff] at this
  omega
theorem textB_len (s : ByteArray) : (textB s).length = s.size + 1 := by
  unfold textB
  rw [List.length_append, bytesOf_length]
  show 1 + s.size = _
  omega
theorem pairsB_len : ∀ l : List S27, (pairsB l).length + 4 = sizeN l
  | [] => rfl
  | x :: r => by
    rw [pairsB, List.length_append, List.length_append, textB_len, textB_len, sizeN, ← pairsB_len r]
    omega
theorem len_sizeN : ∀ l : List S27, 2 * l.length + 4 ≤ sizeN l
  | [] => Nat.le_refl _
  | x :: r => by
    have := len_sizeN r
    rw [sizeN, List.length_cons]
    omega
end Go.Proofs.Ytgbjinonlfhciaa.BkV
namespace Go.Proofs.Ytgbjinonlfhciaa.MBk
open Go.RowKit Go.Proofs.Ytgbjinonlfhciaa.BkV Go.Proofs.YtgbjinonlfhciaaW.PrintWords Go.Proofs.YtgbjinonlfhciaaW.PrintLast Go.Proofs.YtgbjinonlfhciaaW.PrintMore
set_option linter.unusedVariables false
set_option linter.unusedSimpArgs false
theorem size9 : (Try.prog.info? 9).map (·.size) = some 1 := by kernel_rfl
theorem index2_0 (x y : Value) (W : World) : (Instr.index 73 (.agg #[x, y]) (.int .i64 0)).run Try.prog W = .ok x W := by
  obtain ⟨i, hi, hs⟩ := Option.map_eq_some_iff.mp size9
  simp [Instr.index, asIntOf, part, sizeOf, typeInfo, hi, hs, go_sem]
theorem index2_1 (x y : Value) (W : World) : (Instr.index 73 (.agg #[x, y]) (.int .i64 1)).run Try.prog W = .ok y W := by
  obtain ⟨i, hi, hs⟩ := Option.map_eq_some_iff.mp size9
  simp [Instr.index, asIntOf, part, sizeOf, typeInfo, hi, hs, go_sem]
set_option maxHeartbeats 8000000 in
set_option maxRecDepth 100000 in
theorem bucket_Put (d n : Int) (l : List S27) (A : Option Addr) (c : Nat) (w : World) (hC : Kd.C k27 w A l.length l) (hc : l.length ≤ c) (hl : FewP l) :
    Calls Try.prog 20 #[.agg #[.int .i64 d, .int .i64 n, .slice A l.length c]] w fun e w' => ∃ v, e = .returned (.tuple #[v, .int .i64 (putT d n l).2]) ∧ Kd.R (Kd.int .u8) 5 w' w.heap.size (fun _ => True) v (putT d n l).1 ∧ Below w.heap.size w w' := by
  have HC := Aside0.mk hC
  have HCc := Aside0.mk hc
  have HL := Aside0.mk hl
  clear hC hc hl
  go_enter Try.func20, Try.ntmps20
  go_upto_region 1 with fail
  have hW := below_alloc (Below.refl w.heap.size w) (Obj.cells #[Value.int IntKind.i64 d, Value.int IntKind.i64 n, Value.slice A l.length c] 25)
  have hN := blk_new w (Obj.cells #[Value.int IntKind.i64 d, Value.int IntKind.i64 n, Value.slice A l.length c] 25)
  obtain ⟨g, hg⟩ : ∃ g, g = w.heap.size := ⟨_, rfl⟩
  rw [← hg] at hN ⊢
  generalize w.alloc (Obj.cells #[Value.int IntKind.i64 d, Value.int IntKind.i64 n, Value.slice A l.length c] 25) = W1 at hW hN ⊢
  have HB := Aside0.mk hW
  have HK := Aside0.mk hN
  clear hW hN hg
  have k0 := blk_cell HK.out 0
  have k1 := blk_cell HK.out 1
  have k2 := blk_cell HK.out 2
  go_wp2_with fail
  go_at_call 10
  refine (bucket_Check d n l A c W1 (Kd.C_below HC.out HB.out) HCc.out HL.out).mono ?_
  clear k0 k1 k2
  rintro ex W2 ⟨rfl, hb⟩
  have nB := Aside0.mk (below_step HB.out hb)
  have nK := Aside0.mk (blk_below HK.out hb)
  clear hb HB HK
  have HB := nB
  have HK := nK
  clear nB nK
  by_cases hz : checkT d n l = 0
  · have HP := Aside0.mk (show putT d n l = (headB d n l.length ++ pairsB l, 0) from if_pos hz)
    have HOK := Aside0.mk (check_ok hz)
    rw [hz]
    clear hz
    have k0 := blk_cell HK.out 0
    have k1 := blk_cell HK.out 1
    have k2 := blk_cell HK.out 2
    go_upto_region 5 with fail
    have hW := below_alloc (Below.refl W2.heap.size W2) (Obj.cells #[Value.int IntKind.u8 (d % 256), Value.int IntKind.u8 (n / 256 % 256), Value.int IntKind.u8 (n % 256), Value.int IntKind.u8 ((l.length : Int) % 256)] 5)
    have hN := blk_new W2 (Obj.cells #[Value.int IntKind.u8 (d % 256), Value.int IntKind.u8 (n / 256 % 256), Value.int IntKind.u8 (n % 256), Value.int IntKind.u8 ((l.length : Int) % 256)] 5)
    have hown : Kd.R (Kd.int .u8) 5 (W2.alloc (Obj.cells #[Value.int IntKind.u8 (d % 256), Value.int IntKind.u8 (n / 256 % 256), Value.int IntKind.u8 (n % 256), Value.int IntKind.u8 ((l.length : Int) % 256)] 5)) W2.heap.size (fun _ => True) (.slice (some ⟨W2.heap.size, 0, none⟩) 4 4) (headB d n l.length) :=
      Kd.R_of_own (h1 := fun _ => rfl) ⟨rfl, .inr ⟨W2.heap.size, 4, _, rfl, Nat.le_refl _, hN, Nat.le_refl _, by decide, rfl, rfl⟩⟩ (fun _ _ => trivial)
    generalize W2.alloc (Obj.cells #[Value.int IntKind.u8 (d % 256), Value.int IntKind.u8 (n / 256 % 256), Value.int IntKind.u8 (n % 256), Value.int IntKind.u8 ((l.length : Int) % 256)] 5) = W3 at hW hN hown ⊢
    generalize (Value.slice (some ⟨W2.heap.size, 0, none⟩) 4 4) = v5 at hown ⊢
    have HR := Aside0.mk hown
    have HL0 := Aside0.mk hW
    have HC2 := Aside0.mk (Kd.C_below HC.out HB.out)
    clear hW hN hown k0 k1 k2
    have k2 := blk_cell (blk_below HK.out HL0.out) 2
    go_wp2_with fail
    clear k2
    go_loopw [5, 35] (fun v i wr => ∃ (j : Nat) (bs : List Int), j ≤ l.length ∧ i = .int .i64 (j : Int) ∧ bs.length ≤ 4 + 2002 * j ∧ bs ++ pairsB (l.drop j) = headB d n l.length ++ pairsB l ∧ Kd.R (Kd.int .u8) 5 wr W2.heap.size (fun _ => True) v bs ∧ Below W2.heap.size W2 wr)
      (fun _ i _ => l.length - (intOf i).toNat)
    case atStart => exact ⟨0, headB d n l.length, Nat.zero_le _, rfl, by show 4 ≤ _; omega, rfl, HR.out, HL0.out⟩
    case round =>
      clear HR HL0
      obtain ⟨j, bs, hj, rfl, hbs, htot, hR, hb⟩ := hrel
      have HBS := Aside0.mk hbs
      have HTOT := Aside0.mk htot
      have HR := Aside0.mk hR
      have HL := Aside0.mk hb
      clear hbs htot hR hb
      by_cases hlt : j < l.length
      · have b1 : decide ((j : Int) < (l.length : Int)) = true := decide_eq_true (by omega)
        have b1n : decide (j < l.length) = true := decide_eq_true hlt
        obtain ⟨ad, e1, hx0, hx1⟩ := at_T27 HC2.out (j : Int) (by omega) (by omega)
        subst e1
        rw [rd27 l j hlt] at hx0 hx1
        rw [Int.toNat_natCast] at hx0 hx1
        replace hx0 := (HL.out.cell (World.block_lt_of_cell? _ _ hx0)).trans hx0
        replace hx1 := (HL.out.cell (World.block_lt_of_cell? _ _ hx1)).trans hx1
        have htot := HTOT.out
        rw [List.drop_eq_getElem_cons hlt, pairsB] at htot
        have hfy := long_no HOK.out.2.1 _ (List.getElem_mem hlt)
        generalize l[j] = y at hx0 hx1 htot hfy
        have p0 := eq_true (show 0 ≤ (j : Int) by omega)
        have p1 := eq_true (show (j : Int) < (l.length : Int) by omega)
        clear HTOT
        have HTOT := Aside0.mk htot
        have HFY := Aside0.mk hfy
        have HLT := Aside0.mk hlt
        clear htot hfy hlt
        go_upto_region 8 with fail
        have hW := below_alloc (Below.refl wr.heap.size wr) (Obj.cells #[Value.string y.f0, Value.string y.f1] 27)
        have hN := blk_new wr (Obj.cells #[Value.string y.f0, Value.string y.f1] 27)
        obtain ⟨g7, hg7⟩ : ∃ g, g = wr.heap.size := ⟨_, rfl⟩
        rw [← hg7] at hN ⊢
        generalize wr.alloc (Obj.cells #[Value.string y.f0, Value.string y.f1] 27) = Va at hW hN ⊢
        have nL := Aside0.mk (below_step HL.out hW)
        have nR := Aside0.mk (Kd.R_below HR.out hW)
        have HK7 := Aside0.mk hN
        clear hW hN hg7 HL HR hx0 hx1 b1 b1n p0 p1
        have HL := nL
        have HR := nR
        clear nL nR
        have k0 := blk_cell HK7.out 0
        have k1 := blk_cell HK7.out 1
        go_wp2_with fail
        clear k0 k1 HK7
        have HLJ := Aside0.mk HBS.out
        go_loopw [5, 44] (fun v i wr => ∃ (q : Nat) (bs : List Int), q ≤ 2 ∧ i = .int .i64 (q : Int) ∧ bs.length ≤ 4 + 2002 * j + 256 * q ∧ bs ++ ((if q = 0 then textB y.f0 ++ textB y.f1 else if q = 1 then textB y.f1 else []) ++ pairsB (l.drop (j + 1))) = headB d n l.length ++ pairsB l ∧ Kd.R (Kd.int .u8) 5 wr W2.heap.size (fun _ => True) v bs ∧ Below W2.heap.size W2 wr)
          (fun _ i _ => 2 - (intOf i).toNat)
        case atStart => exact ⟨0, bs, Nat.zero_le _, rfl, HLJ.out, by rw [if_pos rfl, List.append_assoc]; exact HTOT.out, HR.out, HL.out⟩
        case round =>
          clear HR HL HBS HTOT HLJ
          obtain ⟨q, bs, hq, rfl, hbs, htot, hR, hb⟩ := hrel
          have HBS := Aside0.mk hbs
          have HLJ := Aside0.mk hbs
          have HR := Aside0.mk hR
          have HL := Aside0.mk hb
          have hlim := HL
          clear hbs hR hb hlim
          have HJ1000 := Aside0.mk (show j ≤ 1000 by have := HLT.out; have := len_sizeN l; have := HOK.out.2.2.1; omega)
          rcases (show q = 0 ∨ q = 1 ∨ q = 2 by omega) with rfl | rfl | rfl
          · rw [if_pos rfl] at htot
            have HTOT := Aside0.mk htot
            clear htot hq
            have hix := index2_0 (.string y.f0) (.string y.f1)
            have b1 : decide ((0 : Int) < 2) = true := by decide
            obtain ⟨T, cT, rfl⟩ := Kd.R_slice HR.out
            go_wp2_with fail
            go_at_call 44
            refine (num_Text.calls y.f0 (textB y.f0) 0 wr (text_is y.f0 (by have := HFY.out; omega))).mono ?_
            clear hix b1
            rintro ex V1 ⟨vt, rfl, hvt, hb⟩
            obtain ⟨T2, c2, rfl⟩ := Kd.R_slice hvt
            have HVT := Aside0.mk (Kd.R_reads' hvt).2.2
            have nL := Aside0.mk (below_step HL.out hb)
            have nR := Aside0.mk (Kd.R_below HR.out hb)
            clear hvt hb HL HR
            have HL := nL
            have HR := nR
            clear nL nR
            have HTL := Aside0.mk (textB_len y.f0)
            go_wp2_with (first | ((with_reducible refine gate_builtin (b := .append) (xs := #[.tmp 55, .tmp 56]) rfl ?_); at_builtin; refine Kd.R_append_rows (Kd.int .u8) (w0 := W2) W2.heap.size rfl (.tmp 55) (.tmp 56) 43 5 (.int .u8 0) 1 rfl Try.underlying43 info5 rfl (by decide) (by omega) (.slice T bs.length cT) bs (textB y.f0) T2 (textB y.f0).length c2 (fun _ => True) (fun _ => False) rfl rfl HR.out HVT.out (fun _ _ h => h) (fun _ hk => hk.elim) (fun _ _ => trivial) HL.out HL.out.size (by have := HBS.out; have := HTL.out; have := HFY.out; have := HJ1000.out; omega) ?_; intro v1 w1 ho hb hg hat; have HR1 := Aside0.mk ho; have HL1 := Aside0.mk hb; clear ho hb hg hat HR HL) | fail)
            exact ⟨⟨0 + 1, bs ++ textB y.f0, by omega, rfl, by rw [List.length_append, HTL.out]; have := HBS.out; have := HFY.out; have := HLJ.out; omega, by have := HTOT.out; rw [if_neg (by decide), if_pos rfl, List.append_assoc]; rw [List.append_assoc] at this; exact this, HR1.out, HL1.out⟩, by simp [intOf]⟩
          · rw [if_neg (by decide), if_pos rfl] at htot
            have HTOT := Aside0.mk htot
            clear htot hq
            have hix := index2_1 (.string y.f0) (.string y.f1)
            have b1 : decide ((1 : Int) < 2) = true := by decide
            obtain ⟨T, cT, rfl⟩ := Kd.R_slice HR.out
            go_wp2_with fail
            go_at_call 44
            refine (num_Text.calls y.f1 (textB y.f1) 0 wr (text_is y.f1 (by have := HFY.out; omega))).mono ?_
            clear hix b1
            rintro ex V1 ⟨vt, rfl, hvt, hb⟩
            obtain ⟨T2, c2, rfl⟩ := Kd.R_slice hvt
            have HVT := Aside0.mk (Kd.R_reads' hvt).2.2
            have nL := Aside0.mk (below_step HL.out hb)
            have nR := Aside0.mk (Kd.R_below HR.out hb)
            clear hvt hb HL HR
            have HL := nL
            have HR := nR
            clear nL nR
            have HTL := Aside0.mk (textB_len y.f1)
            go_wp2_with (first | ((with_reducible refine gate_builtin (b := .append) (xs := #[.tmp 55, .tmp 56]) rfl ?_); at_builtin; refine Kd.R_append_rows (Kd.int .u8) (w0 := W2) W2.heap.size rfl (.tmp 55) (.tmp 56) 43 5 (.int .u8 0) 1 rfl Try.underlying43 info5 rfl (by decide) (by omega) (.slice T bs.length cT) bs (textB y.f1) T2 (textB y.f1).length c2 (fun _ => True) (fun _ => False) rfl rfl HR.out HVT.out (fun _ _ h => h) (fun _ hk => hk.elim) (fun _ _ => trivial) HL.out HL.out.size (by have := HBS.out; have := HTL.out; have := HFY.out; have := HJ1000.out; omega) ?_; intro v1 w1 ho hb hg hat; have HR1 := Aside0.mk ho; have HL1 := Aside0.mk hb; clear ho hb hg hat HR HL) | fail)
            exact ⟨⟨1 + 1, bs ++ textB y.f1, by omega, rfl, by rw [List.length_append, HTL.out]; have := HBS.out; have := HFY.out; have := HLJ.out; omega, by have := HTOT.out; rw [if_neg (by decide), if_neg (by decide), List.nil_append, List.append_assoc]; exact this, HR1.out, HL1.out⟩, by simp [intOf]⟩
          · rw [if_neg (by decide), if_neg (by decide), List.nil_append] at htot
            have HTOT := Aside0.mk htot
            clear htot hq
            have b1 : decide ((2 : Int) < 2) = false := by decide
            go_wp2_with fail
            have hj1 := HJ1000.out
            have hlt := HLT.out
            have hbs := HBS.out
            rw [add1 (by omega)]
            exact ⟨⟨j + 1, bs, by omega, rfl, by omega, HTOT.out, HR.out, HL.out⟩, by simp [intOf]; omega⟩
      · obtain rfl : j = l.length := by omega
        have b1 : decide ((l.length : Int) < (l.length : Int)) = false := decide_eq_false (by omega)
        have b1n : decide (l.length < l.length) = false := decide_eq_false (by omega)
        have htot := HTOT.out
        rw [List.drop_length, pairsB, List.append_nil] at htot
        have HTT := Aside0.mk htot
        clear htot hlt
        go_wp2_with fail
        go_ret2
        rw [HP.out]
        refine ⟨_, rfl, ?_, below_step HB.out HL.out⟩
        rw [← HTT.out]
        exact Kd.R_lower HR.out HB.out.size
  · have HP := Aside0.mk (show putT d n l = ([], checkT d n l) from if_neg hz)
    have hzz : (checkT d n l != 0) = true := bne_iff_ne.mpr hz
    clear hz
    go_wp2_with fail
    go_ret2
    rw [HP.out]
    exact ⟨_, rfl, Kd.R_nil _ _ _ _ _, HB.out⟩
end Go.Proofs.Ytgbjinonlfhciaa.MBk
