/- The contract of bucket.Get. -/
import Derived.Test.YtgbjinonlfhciaaHandE10
namespace Go.Proofs.Ytgbjinonlfhciaa.BkV
open Go.RowKit Go.Proofs.Ytgbjinonlfhciaa.MBk Go.Proofs.YtgbjinonlfhciaaW.PrintWords Go.Proofs.YtgbjinonlfhciaaW.PrintLast
/-- So many pairs, read. -/
def readP : Nat → St → List S27 × St
  | 0, s => ([], s)
  | m + 1, s => (⟨(textR s).1, (textR (textR s).2).1⟩ :: (readP m (textR (textR s).2).2).1, (readP m (textR (textR s).2).2).2)
/-- What Get tells. -/
def getT (body : List Int) : (Int × Int × List S27) × Int :=
  if doneR (readP (numR 1 (numR 2 (numR 1 (body, 0)).2).2).1.toNat (numR 1 (numR 2 (numR 1 (body, 0)).2).2).2).2 = 0 ∧ checkT (numR 1 (body, 0)).1 (numR 2 (numR 1 (body, 0)).2).1 (readP (numR 1 (numR 2 (numR 1 (body, 0)).2).2).1.toNat (numR 1 (numR 2 (numR 1 (body, 0)).2).2).2).1 = 0 then
    (((numR 1 (body, 0)).1, (numR 2 (numR 1 (body, 0)).2).1, (readP (numR 1 (numR 2 (numR 1 (body, 0)).2).2).1.toNat (numR 1 (numR 2 (numR 1 (body, 0)).2).2).2).1), 0)
  else ((0, 0, []), 4)
/-- What is left is bytes, and not more than n of them. -/
def StOk (n : Nat) (s : St) : Prop := (∀ x ∈ s.1, Byte x) ∧ s.1.length ≤ n
theorem num_ok {n : Nat} {s : St} (h : StOk n s) (m : Nat) : StOk n (numR m s).2 := by
  unfold numR
  split
  · exact h
  · split
    · exact h
    · exact ⟨drop_byte h.1 _, by show (s.1.drop m).length ≤ n; rw [List.length_drop]; have := h.2; omega⟩
theorem text_ok {n : Nat} {s : St} (h : StOk n s) : StOk n (textR s).2 := by
  unfold textR
  split
  · exact h
  · split
    · exact h
    · exact ⟨drop_byte h.1 _, by show (s.1.drop _).length ≤ n; rw [List.length_drop]; have := h.2; omega⟩
theorem num1_range {n : Nat} {s : St} (h : StOk n s) : 0 ≤ (numR 1 s).1 ∧ (numR 1 s).1 ≤ 255 := by
  unfold numR
  split
  · exact (show (0 : Int) ≤ 0 ∧ (0 : Int) ≤ 255 by decide)
  · split
    · exact (show (0 : Int) ≤ 0 ∧ (0 : Int) ≤ 255 by decide)
    · show 0 ≤ numV 1 s.1 ∧ numV 1 s.1 ≤ 255
      unfold numV
      rw [if_pos rfl]
      exact rd_byte s.1 h.1 0
theorem text_size {n : Nat} {s : St} (h : StOk n s) : (textR s).1.size ≤ 255 := by
  unfold textR
  split
  · exact (show (0 : Nat) ≤ 255 by decide)
  · split
    · exact (show (0 : Nat) ≤ 255 by decide)
    · show (strOfNums _).size ≤ 255
      rw [strOfNums_size, List.length_take]
      have := (rd_byte s.1 h.1 0).2
      omega
end Go.Proofs.Ytgbjinonlfhciaa.BkV
namespace Go.Proofs.Ytgbjinonlfhciaa.MBk
open Go.RowKit Go.Proofs.Ytgbjinonlfhciaa.BkV Go.Proofs.YtgbjinonlfhciaaW.PrintWords Go.Proofs.YtgbjinonlfhciaaW.PrintLast Go.Proofs.YtgbjinonlfhciaaW.PrintMore
set_option linter.unusedVariables false
set_option linter.unusedSimpArgs false
theorem one_reads {w : World} {gv : Nat} {x : S27} (hv : w.heap[gv]? = some (.cells #[.string x.f0, .string x.f1] 27 (0, 0))) : ReadsRow (fun (p : S27) cs => cs = [.string p.f0, .string p.f1]) 2 w (some ⟨gv, 0, none⟩) 1 [x] := by
  refine ⟨rfl, by decide, fun _ => ⟨_, rfl, fun j p hj => ?_⟩⟩
  have hj0 : j = 0 := by
    rcases j with _ | j
    · rfl
    · simp at hj
  subst hj0
  obtain rfl : x = p := by simpa using hj
  refine ⟨[.string x.f0, .string x.f1], rfl, rfl, fun i u hu => ?_⟩
  have := blk_cell hv i
  rw [Addr.add_lit, show 0 + (0 * 2 + i) = i by omega, this, List.getElem?_toArray]
  exact hu
def Get.T5 : Bool × List (List Nat × List Nat) := (true, [([], []), ([0], [0]), ([], []), ([2], [2]), ([], []), ([4, 3], [4]), ([3, 5], [3, 5]), ([6], [6]), ([1, 7, 5], [1, 7]), ([0, 1, 2, 3, 4, 5, 6, 7, 8], []), ([9, 8, 8, 0, 1, 2, 3, 4, 5, 6, 7, 8], [8, 9])])
def Get.B5 : List Nat := [0, 1, 0, 4, 0, 28, 60, 124, 255, 511, 1023]
theorem Get.tab5 : rtab .any (opsOf Try.f22 5) = Get.T5 := by kernel_rfl
theorem Get.bits5 : waitsOk Get.T5.2 Get.B5 = true := by kernel_rfl
set_option maxHeartbeats 8000000 in
set_option maxRecDepth 100000 in
theorem bucket_Get (body : List Int) (A : Option Addr) (c : Nat) (w : World) (hC : Kd.C (Kd.int .u8) w A body.length body) (hc : body.length ≤ c) (hby : ∀ x ∈ body, Byte x) (hl : body.length ≤ 100000) :
    Calls Try.prog 22 #[.slice A body.length c] w fun e w' => ∃ v, e = .returned (.tuple #[.agg #[.int .i64 (getT body).1.1, .int .i64 (getT body).1.2.1, v], .int .i64 (getT body).2]) ∧ Kd.R k27 27 w' w.heap.size (fun _ => True) v (getT body).1.2.2 ∧ Below w.heap.size w w' := by
  have HC := Aside0.mk hC
  have HCc := Aside0.mk hc
  have HBL := Aside0.mk hl
  have HOKA := Aside0.mk (show StOk body.length (body, 0) from ⟨hby, Nat.le_refl _⟩)
  have HGT := Aside0.mk (show getT body = _ from rfl)
  obtain ⟨res, hres⟩ : ∃ r, getT body = r := ⟨_, rfl⟩
  rw [hres]
  unfold getT at hres
  have HRES := Aside0.mk hres
  clear hC hc hby hl hres HGT
  go_enter Try.func22, Try.ntmps22
  go_upto_region 1 with fail
  have hW := below_alloc (Below.refl w.heap.size w) (Obj.cells #[Value.int IntKind.i64 0, Value.int IntKind.i64 0, Value.slice none 0 0] 25)
  have hN := blk_new w (Obj.cells #[Value.int IntKind.i64 0, Value.int IntKind.i64 0, Value.slice none 0 0] 25)
  have hS : (w.alloc (Obj.cells #[Value.int IntKind.i64 0, Value.int IntKind.i64 0, Value.slice none 0 0] 25)).heap.size = w.heap.size + 1 := World.size_alloc _ _
  obtain ⟨g2, hg2⟩ : ∃ g, g = w.heap.size := ⟨_, rfl⟩
  rw [← hg2] at hN hS ⊢
  generalize w.alloc (Obj.cells #[Value.int IntKind.i64 0, Value.int IntKind.i64 0, Value.slice none 0 0] 25) = W1 at hW hN hS ⊢
  have HB := Aside0.mk hW
  have K2 := Aside0.mk hN
  have HG2 := Aside0.mk (show w.heap.size ≤ g2 ∧ g2 < W1.heap.size by omega)
  clear hW hN hS hg2
  go_wp2_with fail
  go_at_call 47
  refine (num_New A c body W1 (Kd.C_below HC.out HB.out) HCc.out (by have := HBL.out; omega)).mono ?_
  rintro ex W2 ⟨gr, hgr, rfl, hrd, hb⟩
  have nB := Aside0.mk (below_step HB.out hb)
  have n2 := Aside0.mk (blk_below K2.out hb)
  have HRD := Aside0.mk hrd
  have HGR := Aside0.mk (show g2 < gr by have := HG2.out; omega)
  clear hrd hb hgr HB K2
  have HB := nB
  have K2 := n2
  clear nB n2
  go_wp2_with fail
  go_at_call 48
  refine (num_Num gr (body, 0) 1 (by omega) W2 HRD.out HOKA.out.1).mono ?_
  rintro ex W3 ⟨rfl, hrd, hk⟩
  have nB := Aside0.mk (HB.out.trans (hk.below.mono (by have := HGR.out; have := HG2.out; omega)))
  have n2 := Aside0.mk ((hk.block g2 (blk_lt K2.out) (by have := HGR.out; omega)).trans K2.out)
  have nd := Aside0.mk hrd
  have HOKB := Aside0.mk (num_ok HOKA.out 1)
  clear hrd hk HB K2 HRD
  have HB := nB
  have K2 := n2
  have HRD := nd
  clear nB n2 nd
  go_wp2_with fail
  go_at_call 48
  refine (num_Num gr (numR 1 (body, 0)).2 2 (by omega) W3 HRD.out HOKB.out.1).mono ?_
  rintro ex W4 ⟨rfl, hrd, hk⟩
  have nB := Aside0.mk (HB.out.trans (hk.below.mono (by have := HGR.out; have := HG2.out; omega)))
  have n2 := Aside0.mk ((hk.block g2 (blk_lt K2.out) (by have := HGR.out; omega)).trans K2.out)
  have nd := Aside0.mk hrd
  have HOKC := Aside0.mk (num_ok HOKB.out 2)
  clear hrd hk HB K2 HRD
  have HB := nB
  have K2 := n2
  have HRD := nd
  clear nB n2 nd
  obtain ⟨d, hd⟩ : ∃ d, (numR 1 (body, 0)).1 = d := ⟨_, rfl⟩
  obtain ⟨n, hn⟩ : ∃ n, (numR 2 (numR 1 (body, 0)).2).1 = n := ⟨_, rfl⟩
  rw [hd, hn] at HRES
  rw [hd, hn]
  obtain ⟨s2, hs2⟩ : ∃ s, (numR 2 (numR 1 (body, 0)).2).2 = s := ⟨_, rfl⟩
  rw [hs2] at HRES HOKC HRD
  clear hd hn hs2 HOKA HOKB
  go_upto_region 3 with fail
  have hW := below_alloc (Below.refl W4.heap.size W4) (Obj.cells #[Value.int IntKind.i64 d, Value.int IntKind.i64 n, Value.slice none 0 0] 25)
  have hN := blk_new W4 (Obj.cells #[Value.int IntKind.i64 d, Value.int IntKind.i64 n, Value.slice none 0 0] 25)
  have hS : (W4.alloc (Obj.cells #[Value.int IntKind.i64 d, Value.int IntKind.i64 n, Value.slice none 0 0] 25)).heap.size = W4.heap.size + 1 := World.size_alloc _ _
  obtain ⟨g5, hg5⟩ : ∃ g, g = W4.heap.size := ⟨_, rfl⟩
  rw [← hg5] at hN hS ⊢
  generalize W4.alloc (Obj.cells #[Value.int IntKind.i64 d, Value.int IntKind.i64 n, Value.slice none 0 0] 25) = W5 at hW hN hS ⊢
  have nB := Aside0.mk (below_step HB.out hW)
  have n2 := Aside0.mk (blk_below K2.out hW)
  have nd := Aside0.mk (HRD.out.step (fun q hq => hW.block q (Nat.lt_of_le_of_lt hq HRD.out.lt)))
  have K5 := Aside0.mk hN
  obtain ⟨b5, hb5⟩ : ∃ b, b = W5.heap.size := ⟨_, rfl⟩
  have HGG := Aside0.mk (show g2 < gr ∧ gr < g5 ∧ g5 < b5 ∧ w.heap.size ≤ gr by have := HRD.out.lt; have := HGR.out; have := HG2.out; omega)
  have HB5 := Aside0.mk (show b5 ≤ W5.heap.size by omega)
  have HWG := Aside0.mk (show w.heap.size ≤ g2 from HG2.out.1)
  clear hW hN hS hg5 hb5 HB K2 HRD HGR HG2
  have HB := nB
  have K2 := n2
  have HRD := nd
  clear nB n2 nd
  go_wp2_with fail
  go_at_call 48
  refine (num_Num gr s2 1 (by omega) W5 HRD.out HOKC.out.1).mono ?_
  rintro ex W6 ⟨rfl, hrd, hk⟩
  have nB := Aside0.mk (HB.out.trans (hk.below.mono HGG.out.2.2.2))
  have n2 := Aside0.mk ((hk.block g2 (blk_lt K2.out) (by have := HGG.out; omega)).trans K2.out)
  have nd := Aside0.mk hrd
  have HOKD := Aside0.mk (num_ok HOKC.out 1)
  have n5 := Aside0.mk ((hk.block g5 (blk_lt K5.out) (by have := HGG.out; omega)).trans K5.out)
  have HZ := Aside0.mk (Nat.le_trans HB5.out hk.size)
  clear K5
  have K5 := n5
  clear n5
  clear hrd hk HB K2 HRD
  have HB := nB
  have K2 := n2
  have HRD := nd
  clear nB n2 nd
  have hrg := num1_range HOKC.out
  obtain ⟨cnt, hcnt⟩ : ∃ m : Nat, (numR 1 s2).1 = (m : Int) := ⟨(numR 1 s2).1.toNat, by omega⟩
  rw [hcnt] at hrg HRES
  rw [hcnt]
  rw [Int.toNat_natCast] at HRES
  have HCN := Aside0.mk (show cnt ≤ 255 by omega)
  obtain ⟨s3, hs3⟩ : ∃ s, (numR 1 s2).2 = s := ⟨_, rfl⟩
  rw [hs3] at HRES HRD HOKD
  clear hrg hcnt hs3 HOKC
  go_wp2_with fail
  go_loopw [15] (fun i wr => ∃ (j : Nat) (acc : List S27) (s : St) (T : Option Addr) (cT : Nat), j ≤ cnt ∧ i = .int .i64 (j : Int) ∧ acc.length = j ∧ (acc ++ (readP (cnt - j) s).1 = (readP cnt s3).1 ∧ (readP (cnt - j) s).2 = (readP cnt s3).2) ∧ (∀ y ∈ acc, y.f0.size ≤ 255 ∧ y.f1.size ≤ 255) ∧ StOk body.length s ∧ RdrG wr gr s ∧ wr.heap[g5]? = some (.cells #[.int .i64 d, .int .i64 n, .slice T acc.length cT] 25 (0, 0)) ∧ wr.heap[g2]? = some (.cells #[Value.int IntKind.i64 0, Value.int IntKind.i64 0, Value.slice none 0 0] 25 (0, 0)) ∧ Kd.R k27 27 wr b5 (fun k => b5 ≤ k) (.slice T acc.length cT) acc ∧ Below w.heap.size w wr ∧ b5 ≤ wr.heap.size)
    (fun i _ => cnt - (intOf i).toNat)
  case atStart => exact ⟨0, [], s3, none, 0, Nat.zero_le _, rfl, rfl, ⟨rfl, rfl⟩, (fun y hy => by cases hy), HOKD.out, HRD.out, K5.out, K2.out, Kd.R_nil _ _ _ _ _, HB.out, HZ.out⟩
  case round =>
    clear HOKD HRD K5 K2 HB HZ
    obtain ⟨j, acc, s, T, cT, hj, rfl, hal, htot, hfp, hok, hrd, h5, h2, hv, hb, hz⟩ := hrel
    have HAL2 := Aside0.mk hal
    have HTOT := Aside0.mk htot
    have HFP := Aside0.mk hfp
    have HOK0 := Aside0.mk hok
    have HRD := Aside0.mk hrd
    have K5 := Aside0.mk h5
    have K2 := Aside0.mk h2
    have HV := Aside0.mk hv
    have HB := Aside0.mk hb
    have HZ := Aside0.mk hz
    have HAL := Aside0.mk (show acc.length ≤ 255 by have := HCN.out; omega)
    clear hal htot hfp hok hrd h5 h2 hv hb hz
    by_cases hlt : j < cnt
    · have b1 : decide ((j : Int) < (cnt : Int)) = true := decide_eq_true (by omega)
      have b1n : decide (j < cnt) = true := decide_eq_true hlt
      have HLT := Aside0.mk hlt
      clear hlt
      go_upto_region 5 with fail
      clear b1 b1n
      have hD := below_drew1 (Below.refl wr.heap.size wr)
      have n5 := Aside0.mk (blk_below K5.out hD)
      have n2 := Aside0.mk (blk_below K2.out hD)
      have nv := Aside0.mk (Kd.R_below HV.out hD)
      have nB := Aside0.mk (HB.out.trans (hD.mono HB.out.size))
      have nd := Aside0.mk (HRD.out.step (fun q hq => hD.block q (Nat.lt_of_le_of_lt hq HRD.out.lt)))
      have nZ := Aside0.mk (Nat.le_trans HZ.out hD.size)
      clear hD
      refine start_ (n := 11) (S := fun w' => w'.cell? ⟨g5, 2, none⟩ = some (.slice T acc.length cT)) (ds := [10]) #[false, false, false, false, false, false, false, false, false, false, false] (by kernel_rfl) rfl rfl ((blk_cell n5.out 2).trans rfl) (fun hHeld => ?_); refine with_tabW Get.tab5 Get.bits5 (fun HT_ HW_ => ?_)
      generalize wr.drew = U0 at n5 n2 nv nB nd nZ hHeld ⊢
      clear K5 K2 HV HB HRD HZ
      have K5 := n5
      have K2 := n2
      have HV := nv
      have HB := nB
      have HRD := nd
      have HZ := nZ
      clear n5 n2 nv nB nd nZ
      refine pure_ (i := 0) (N := some 17) (v := ?_) (a' := ?_) #[true, false, false, false, false, false, false, false, false, false, false] rfl rfl (any_of HT_.out (by kernel_rfl)) (fun _ _ _ h => h) (Or.inl ⟨by rfl, ?_⟩) ?_ ?_
      rotate_left
      · intro w'
        go_simp
        with_reducible rfl
      rotate_left
      · simp only [Act.put, List.setIfInBounds_toArray, List.set_cons_zero, List.set_cons_succ, i64_w, i32_w]
        rfl
      refine take_ (i := 1) (N := some 18) (v := ?_) (a' := ?_) #[true, true, false, false, false, false, false, false, false, false, false] rfl rfl (take_ofW HT_.out HW_.out (by kernel_rfl)) (fun _ _ _ h => h) (Or.inl ⟨by rfl, ?_⟩) hHeld ?_ ?_
      rotate_left
      · intro w' s0
        go_simp
        with_reducible rfl
      rotate_left
      · simp only [Act.put, List.setIfInBounds_toArray, List.set_cons_zero, List.set_cons_succ, i64_w, i32_w]
        rfl
      refine pure_ (i := 2) (N := some 19) (v := ?_) (a' := ?_) #[true, true, true, false, false, false, false, false, false, false, false] rfl rfl (any_of HT_.out (by kernel_rfl)) (fun _ _ _ h => h) (Or.inl ⟨by rfl, ?_⟩) ?_ ?_
      rotate_left
      · intro w'
        go_simp
        with_reducible rfl
      rotate_left
      · simp only [Act.put, List.setIfInBounds_toArray, List.set_cons_zero, List.set_cons_succ, i64_w, i32_w]
        rfl
      refine pure_ (i := 4) (N := some 21) (v := ?_) (a' := ?_) #[true, true, true, false, true, false, false, false, false, false, false] rfl rfl (any_of HT_.out (by kernel_rfl)) (fun _ _ _ h => h) (Or.inl ⟨by rfl, ?_⟩) ?_ ?_
      rotate_left
      · intro w'
        go_simp
        with_reducible rfl
      rotate_left
      · simp only [Act.put, List.setIfInBounds_toArray, List.set_cons_zero, List.set_cons_succ, i64_w, i32_w]
        rfl
      refine one_ (i := 3) (N := some 20) #[true, true, true, true, true, false, false, false, false, false, false] rfl rfl (one_of HT_.out (by kernel_rfl)) (by decide) (fun K hK => ?_)
      refine goes_ Try.func49 (by kernel_rfl) rfl #[.pointer (some ⟨gr, 0, none⟩)] (by rfl) rfl rfl (by (try simp only [List.map_toArray, List.map_cons, List.map_nil]); first | done | rfl) ?_
      refine (num_Text gr s U0 HRD.out HOK0.out.1 (by have := HOK0.out.2; have := HBL.out; omega)).mono ?_
      rintro ex U1 ⟨rfl, hrd, hk⟩
      refine ⟨_, rfl, ?_⟩
      have n5 := Aside0.mk ((hk.block g5 (blk_lt K5.out) (by have := HGG.out.2.1; omega)).trans K5.out)
      have n2 := Aside0.mk ((hk.block g2 (blk_lt K2.out) (by have := HGG.out.1; omega)).trans K2.out)
      have nv := Aside0.mk (Kd.R_step HV.out (fun k hk1 hk2 => hk.block k hk2 (by have := hk1; have := HGG.out.2; omega)))
      have nB := Aside0.mk (HB.out.trans (hk.below.mono HGG.out.2.2.2))
      have nd := Aside0.mk hrd
      have HOK1 := Aside0.mk (text_ok HOK0.out)
      have nZ := Aside0.mk (Nat.le_trans HZ.out hk.size)
      clear hrd hk K5 K2 HV HB HRD HZ
      have K5 := n5
      have K2 := n2
      have HV := nv
      have HB := nB
      have HRD := nd
      have HZ := nZ
      clear n5 n2 nv nB nd nZ
      refine hK.out _ _ ((blk_cell K5.out 2).trans rfl) (fun hHeld => ?_)
      clear hK K
      refine norm_ (a' := ?_) ?_ ?_
      rotate_left
      · show Act.put _ (some 20) _ = _
        simp only [Act.put, List.setIfInBounds_toArray, List.set_cons_zero, List.set_cons_succ, i64_w, i32_w]
        rfl
      refine one_ (i := 5) (N := some 22) #[true, true, true, true, true, true, false, false, false, false, false] rfl rfl (one_of HT_.out (by kernel_rfl)) (by decide) (fun K hK => ?_)
      refine goes_ Try.func49 (by kernel_rfl) rfl #[.pointer (some ⟨gr, 0, none⟩)] (by rfl) rfl rfl (by (try simp only [List.map_toArray, List.map_cons, List.map_nil]); first | done | rfl) ?_
      refine (num_Text gr (textR s).2 U1 HRD.out HOK1.out.1 (by have := HOK1.out.2; have := HBL.out; omega)).mono ?_
      rintro ex U2 ⟨rfl, hrd, hk⟩
      refine ⟨_, rfl, ?_⟩
      have n5 := Aside0.mk ((hk.block g5 (blk_lt K5.out) (by have := HGG.out.2.1; omega)).trans K5.out)
      have n2 := Aside0.mk ((hk.block g2 (blk_lt K2.out) (by have := HGG.out.1; omega)).trans K2.out)
      have nv := Aside0.mk (Kd.R_step HV.out (fun k hk1 hk2 => hk.block k hk2 (by have := hk1; have := HGG.out.2; omega)))
      have nB := Aside0.mk (HB.out.trans (hk.below.mono HGG.out.2.2.2))
      have nd := Aside0.mk hrd
      have HOK2 := Aside0.mk (text_ok HOK1.out)
      have nZ := Aside0.mk (Nat.le_trans HZ.out hk.size)
      clear hrd hk K5 K2 HV HB HRD HZ
      have K5 := n5
      have K2 := n2
      have HV := nv
      have HB := nB
      have HRD := nd
      have HZ := nZ
      clear n5 n2 nv nB nd nZ
      refine hK.out _ _ ((blk_cell K5.out 2).trans rfl) (fun hHeld => ?_)
      clear hK K
      refine norm_ (a' := ?_) ?_ ?_
      rotate_left
      · show Act.put _ (some 22) _ = _
        simp only [Act.put, List.setIfInBounds_toArray, List.set_cons_zero, List.set_cons_succ, i64_w, i32_w]
        rfl
      obtain ⟨x, hx⟩ : ∃ x : S27, x = ⟨(textR s).1, (textR (textR s).2).1⟩ := ⟨_, rfl⟩
      have hx0 : (textR s).1 = x.f0 := by rw [hx]
      have hx1 : (textR (textR s).2).1 = x.f1 := by rw [hx]
      rw [hx0, hx1]
      have HX := Aside0.mk hx
      clear hx hx0 hx1
      refine pure_ (i := 6) (N := some 23) (v := ?_) (a' := ?_) #[true, true, true, true, true, true, true, false, false, false, false] rfl rfl (any_of HT_.out (by kernel_rfl)) (fun _ _ _ h => h) (Or.inl ⟨by rfl, ?_⟩) ?_ ?_
      rotate_left
      · intro w'
        go_simp
        with_reducible rfl
      rotate_left
      · simp only [Act.put, List.setIfInBounds_toArray, List.set_cons_zero, List.set_cons_succ, i64_w, i32_w]
        rfl
      refine one_ (i := 7) (N := some 24) #[true, true, true, true, true, true, true, true, false, false, false] rfl rfl (one_of HT_.out (by kernel_rfl)) (by decide) (fun K hK => ?_)
      refine event_step (W := U2) (w1 := U2.alloc (Obj.cells #[Value.string x.f0, Value.string x.f1] 27)) (v := .slice (some ⟨U2.heap.size, 0, none⟩) 1 1) (by rfl) (by first | (go_simp; done) | (go_simp; rfl)) ?_
      have hW := below_alloc (Below.refl U2.heap.size U2) (Obj.cells #[Value.string x.f0, Value.string x.f1] 27)
      have hN := blk_new U2 (Obj.cells #[Value.string x.f0, Value.string x.f1] 27)
      have hS : (U2.alloc (Obj.cells #[Value.string x.f0, Value.string x.f1] 27)).heap.size = U2.heap.size + 1 := World.size_alloc _ _
      obtain ⟨gv, hgv⟩ : ∃ g, g = U2.heap.size := ⟨_, rfl⟩
      rw [← hgv] at hN hS ⊢
      generalize U2.alloc (Obj.cells #[Value.string x.f0, Value.string x.f1] 27) = U3 at hW hN hS ⊢
      have n5 := Aside0.mk (blk_below K5.out hW)
      have n2 := Aside0.mk (blk_below K2.out hW)
      have nv := Aside0.mk (Kd.R_below HV.out hW)
      have nB := Aside0.mk (HB.out.trans (hW.mono HB.out.size))
      have nd := Aside0.mk (HRD.out.step (fun q hq => hW.block q (Nat.lt_of_le_of_lt hq HRD.out.lt)))
      have nZ := Aside0.mk (Nat.le_trans HZ.out hW.size)
      have HRR := Aside0.mk (one_reads hN)
      clear hW hN hS hgv K5 K2 HV HB HRD HZ
      have K5 := n5
      have K2 := n2
      have HV := nv
      have HB := nB
      have HRD := nd
      have HZ := nZ
      clear n5 n2 nv nB nd nZ
      refine hK.out _ _ ((blk_cell K5.out 2).trans rfl) (fun hHeld => ?_)
      clear hK K
      refine norm_ (a' := ?_) ?_ ?_
      rotate_left
      · show Act.put _ (some 24) _ = _
        simp only [Act.put, List.setIfInBounds_toArray, List.set_cons_zero, List.set_cons_succ, i64_w, i32_w]
        rfl
      refine one_ (i := 8) (N := some 25) #[true, true, true, true, true, true, true, true, true, false, false] rfl rfl (one_of HT_.out (by kernel_rfl)) (by decide) (fun K hK => ?_)
      refine Kd.R_append_rows_step k27 (w0 := U3) b5 (by rfl) (.tmp 18) (.tmp 24) 22 27 (.agg #[.string ⟨#[]⟩, .string ⟨#[]⟩]) 32 rfl Try.underlying22 info27 rfl (by decide) (by omega) (.slice T acc.length cT) acc [x] (some ⟨gv, 0, none⟩) 1 1 (fun k => b5 ≤ k) (fun _ => False) rfl rfl HV.out HRR.out (fun p cs hp => by rw [hp]; exact k27_mkM _ _ _ _) (fun _ hk => hk.elim) (fun k hk => Nat.le_trans HZ.out hk) (Below.refl _ _) HZ.out (by have := HAL.out; omega) ?_
      intro v1 U4 ho hb hg hat
      obtain ⟨T1, c1, rfl⟩ := Kd.R_slice ho
      have n5 := Aside0.mk ((hb.block g5 HGG.out.2.2.1).trans K5.out)
      have n2 := Aside0.mk ((hb.block g2 (by have := HGG.out; omega)).trans K2.out)
      have nv := Aside0.mk ho
      have nB := Aside0.mk (HB.out.trans (hb.mono (by have := HGG.out; omega)))
      have nd := Aside0.mk (HRD.out.step (fun q hq => hb.block q (by have := HGG.out; omega)))
      have nZ := Aside0.mk (Nat.le_trans HZ.out hb.size)
      clear ho hb hg hat HRR K5 K2 HV HB HRD HZ
      have K5 := n5
      have K2 := n2
      have HV := nv
      have HB := nB
      have HRD := nd
      have HZ := nZ
      clear n5 n2 nv nB nd nZ
      refine hK.out _ _ ((blk_cell K5.out 2).trans rfl) (fun hHeld => ?_)
      clear hK K
      refine norm_ (a' := ?_) ?_ ?_
      rotate_left
      · show Act.put _ (some 25) _ = _
        simp only [Act.put, List.setIfInBounds_toArray, List.set_cons_zero, List.set_cons_succ, i64_w, i32_w]
        rfl
      refine pure_ (i := 9) (N := some 26) (v := ?_) (a' := ?_) #[true, true, true, true, true, true, true, true, true, true, false] rfl rfl (any_of HT_.out (by kernel_rfl)) (fun _ _ _ h => h) (Or.inl ⟨by rfl, ?_⟩) ?_ ?_
      rotate_left
      · intro w'
        go_simp
        with_reducible rfl
      rotate_left
      · simp only [Act.put, List.setIfInBounds_toArray, List.set_cons_zero, List.set_cons_succ, i64_w, i32_w]
        rfl
      refine last_ (i := 10) (N := none) #[true, true, true, true, true, true, true, true, true, true, true] rfl rfl (one_of HT_.out (by kernel_rfl)) (by decide) (fun K hK => ?_)
      have k2 := blk_cell K5.out 2
      have f2 := blk_frozen K5.out 2
      obtain ⟨m1, hm1⟩ : ∃ m, m = (acc ++ [x]).length := ⟨_, rfl⟩
      rw [← hm1]
      refine skip_step (w1 := U4.setCell ⟨g5, 2, none⟩ (Value.slice T1 m1 c1)) (by rfl) rfl (by first | (go_simp; done) | (go_simp; rfl)) ?_
      rw [hm1]
      clear hm1 m1 k2 f2
      refine hK.out _ _ ?_
      clear hK K
      refine done_ (done_of HT_.out (by kernel_rfl)) ?_
      clear hHeld HT_ HW_
      have hn5 := heap_setCell_same U4 g5 2 _ 25 (Value.slice T1 (acc ++ [x]).length c1) K5.out
      have hn2 := (heap_setCell_other U4 ⟨g5, 2, none⟩ g2 (Value.slice T1 (acc ++ [x]).length c1) (by show g2 ≠ g5; have := HGG.out; omega)).trans K2.out
      have hnv := Kd.R_far (p := ⟨g5, 2, none⟩) HV.out (fun k hk => by have := HGG.out; show k ≠ g5; omega) (Value.slice T1 (acc ++ [x]).length c1)
      have hnb := HB.out.setCell (p := ⟨g5, 2, none⟩) (show w.heap.size ≤ g5 by have := HGG.out; omega) (Value.slice T1 (acc ++ [x]).length c1)
      have hnd := HRD.out.step (w1 := U4.setCell ⟨g5, 2, none⟩ (Value.slice T1 (acc ++ [x]).length c1)) (fun q hq => heap_setCell_other U4 ⟨g5, 2, none⟩ q _ (by show q ≠ g5; have := HGG.out; omega))
      have hnz := ((Below.refl 0 U4).setCell (p := ⟨g5, 2, none⟩) (Nat.zero_le _) (Value.slice T1 (acc ++ [x]).length c1)).size
      clear K5 K2
      generalize U4.setCell ⟨g5, 2, none⟩ (Value.slice T1 (acc ++ [x]).length c1) = U5 at hn5 hn2 hnv hnb hnd hnz ⊢
      have F5 := Aside0.mk hn5
      have F2 := Aside0.mk hn2
      have FV := Aside0.mk hnv
      have FB := Aside0.mk hnb
      have FD := Aside0.mk hnd
      have FZ := Aside0.mk (Nat.le_trans HZ.out hnz)
      clear hn5 hn2 hnv hnb hnd hnz HV HB HRD HZ
      go_wp2_with fail
      have hlt := HLT.out
      have hcn := HCN.out
      have htot := HTOT.out
      rw [show cnt - j = (cnt - (j + 1)) + 1 by omega, readP] at htot
      rw [add1 (by omega)]
      refine ⟨⟨j + 1, acc ++ [x], (textR (textR s).2).2, T1, c1, by omega, rfl, by rw [List.length_append, HAL2.out]; rfl, ?_, ?_, HOK2.out, FD.out, F5.out, F2.out, FV.out, FB.out, FZ.out⟩, by simp [intOf]; omega⟩
      · rw [List.append_assoc, ← htot.1, HX.out]
        exact ⟨rfl, htot.2⟩
      · intro y hy
        rcases List.mem_append.mp hy with hy | hy
        · exact HFP.out y hy
        · obtain rfl := List.mem_singleton.mp hy
          rw [HX.out]
          exact ⟨text_size HOK0.out, text_size HOK1.out⟩
    · obtain rfl : j = cnt := by omega
      have b1 : decide ((j : Int) < (j : Int)) = false := decide_eq_false (by omega)
      have b1n : decide (j < j) = false := decide_eq_false (by omega)
      have htot := HTOT.out
      rw [Nat.sub_self, readP, List.append_nil] at htot
      have hres := HRES.out
      rw [← htot.1, ← htot.2] at hres
      clear HRES HTOT hlt
      have HRES := Aside0.mk hres
      have HFA := Aside0.mk (show FewP acc from ⟨by have := HAL.out; omega, fun y hy => by have := HFP.out y hy; omega⟩)
      clear htot hres
      go_wp2_with fail
      go_at_call 50
      refine (num_Done gr s wr HRD.out).mono ?_
      rintro ex W7 ⟨rfl, rfl⟩
      clear b1 b1n
      by_cases hd0 : doneR s = 0
      · rw [hd0]
        have k0 := blk_cell K5.out 0
        have k1 := blk_cell K5.out 1
        have k2 := blk_cell K5.out 2
        have HD0 := Aside0.mk hd0
        clear hd0
        go_wp2_with fail
        go_at_call 10
        refine (bucket_Check d n acc T cT W7 (Kd.R_reads' HV.out).2.2 (Kd.R_reads' HV.out).2.1 HFA.out).mono ?_
        clear k0 k1 k2
        rintro ex W8 ⟨rfl, hb⟩
        have n5 := Aside0.mk (blk_below K5.out hb)
        have n2 := Aside0.mk (blk_below K2.out hb)
        have nv := Aside0.mk (Kd.R_below HV.out hb)
        have nB := Aside0.mk (below_step HB.out hb)
        clear hb K5 K2 HV HB
        have K5 := n5
        have K2 := n2
        have HV := nv
        have HB := nB
        clear n5 n2 nv nB
        have c0 := blk_cell K2.out 0
        have c1 := blk_cell K2.out 1
        have c2 := blk_cell K2.out 2
        have f0 := blk_frozen K2.out 0
        have f1 := blk_frozen K2.out 1
        have f2 := blk_frozen K2.out 2
        by_cases hck : checkT d n acc = 0
        · rw [hck]
          have hres := HRES.out
          rw [if_pos ⟨HD0.out, hck⟩] at hres
          have HRES2 := Aside0.mk hres
          clear hres hck
          have k0 := blk_cell K5.out 0
          have k1 := blk_cell K5.out 1
          have k2 := blk_cell K5.out 2
          go_wp2_with fail
          clear k0 k1 k2 c0 c1 c2 f0 f1 f2
          refine bodyPost_ret (results_ct rfl _ _ g2 25 #[.int .i64 d, .int .i64 n, .slice T acc.length cT] (0, 0) _ rfl (put3_heap K2.out _ _ _) Try.underlying25 rfl (by kernel_rfl)) rfl ?_
          rw [← HRES2.out]
          refine ⟨_, rfl, ?_, put3_below HB.out HWG.out _ _ _⟩
          exact Kd.R_mono (Kd.R_lower (Kd.R_step HV.out (fun k hk _ => put3_far _ _ _ _ _ (by have := HGG.out; omega))) (by have := HGG.out; omega)) (fun _ _ => trivial)
        · have hres := HRES.out
          rw [if_neg (fun h => hck h.2)] at hres
          have HRES2 := Aside0.mk hres
          have hcc : (checkT d n acc != 0) = true := bne_iff_ne.mpr hck
          clear hres hck
          go_wp2_with fail
          clear c0 c1 c2 f0 f1 f2
          refine bodyPost_ret (results_ct rfl _ _ g2 25 #[.int .i64 0, .int .i64 0, .slice none 0 0] (0, 0) _ rfl (put3_heap K2.out _ _ _) Try.underlying25 rfl (by kernel_rfl)) rfl ?_
          rw [← HRES2.out]
          exact ⟨_, rfl, Kd.R_nil _ _ _ _ _, put3_below HB.out HWG.out _ _ _⟩
      · have hres := HRES.out
        rw [if_neg (fun h => hd0 h.1)] at hres
        have HRES2 := Aside0.mk hres
        have hcc : (doneR s != 0) = true := bne_iff_ne.mpr hd0
        have c0 := blk_cell K2.out 0
        have c1 := blk_cell K2.out 1
        have c2 := blk_cell K2.out 2
        have f0 := blk_frozen K2.out 0
        have f1 := blk_frozen K2.out 1
        have f2 := blk_frozen K2.out 2
        clear hres hd0
        go_wp2_with fail
        clear c0 c1 c2 f0 f1 f2
        refine bodyPost_ret (results_ct rfl _ _ g2 25 #[.int .i64 0, .int .i64 0, .slice none 0 0] (0, 0) _ rfl (put3_heap K2.out _ _ _) Try.underlying25 rfl (by kernel_rfl)) rfl ?_
        rw [← HRES2.out]
        exact ⟨_, rfl, Kd.R_nil _ _ _ _ _, put3_below HB.out HWG.out _ _ _⟩
end Go.Proofs.Ytgbjinonlfhciaa.MBk
