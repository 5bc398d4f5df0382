/- The contracts of num.New, num.Reader.Num and root.blocks, with what they keep. -/
import Derived.Test.YtgflafifemhmgaaRSums
import Derived.Test.YtgflafifemhmgaaWKept
namespace Go.Proofs.Ytgflafifemhmgaa.MRt
open Go.RowKit Go.Proofs.Ytgflafifemhmgaa.Hand Go.Proofs.Ytgflafifemhmgaa.Crc Go.Proofs.Ytgflafifemhmgaa.RootV Go.Proofs.Ytgflafifemhmgaa.RSums Go.Proofs.YtgflafifemhmgaaW.PrintWords Go.Proofs.YtgflafifemhmgaaW.PrintLast Go.Proofs.YtgflafifemhmgaaW.PrintMore
set_option linter.unusedVariables false
set_option linter.unusedSimpArgs false
/-- A reader at a block, its bytes in elder blocks. -/
def RdrG (w : World) (g : Nat) (l : List Int) : Prop := ∃ A c, l.length ≤ c ∧ w.heap[g]? = some (.cells #[.slice A l.length c, .int .i64 0] 93 (0, 0)) ∧ Kd.F (Kd.int .u8) w (fun k => k < g) A l.length l
theorem RdrG.step {w w1 : World} {g : Nat} {l : List Int} (h : RdrG w g l) (hg : ∀ q, q ≤ g → w1.heap[q]? = w.heap[q]?) : RdrG w1 g l := by
  obtain ⟨A, c, hc, hb, hF⟩ := h
  exact ⟨A, c, hc, (hg g (Nat.le_refl _)).trans hb, Kd.F_step hF (fun k hk _ => hg k (Nat.le_of_lt hk))⟩
theorem RdrG.lt {w : World} {g : Nat} {l : List Int} (h : RdrG w g l) : g < w.heap.size := by
  obtain ⟨A, c, hc, hb, hF⟩ := h
  exact blk_lt hb
/-- What a reader's step keeps. -/
structure Rk (w W : World) (g : Nat) : Prop where
  size : w.heap.size ≤ W.heap.size
  block : ∀ q, q < w.heap.size → q ≠ g → W.heap[q]? = w.heap[q]?
  below : Below g w W
theorem Rk.refl (w : World) (g : Nat) : Rk w w g := ⟨Nat.le_refl _, fun _ _ _ => rfl, Below.refl _ _⟩
theorem Rk.trans {w W W2 : World} {g : Nat} (h : Rk w W g) (h2 : Rk W W2 g) : Rk w W2 g :=
  ⟨Nat.le_trans h.size h2.size, fun q hq hg => (h2.block q (Nat.lt_of_lt_of_le hq h.size) hg).trans (h.block q hq hg), h.below.trans h2.below⟩
theorem Rk.of_below {w W : World} {g : Nat} (h : Below w.heap.size w W) (hg : g ≤ w.heap.size) : Rk w W g := ⟨h.size, fun q hq _ => h.block q hq, h.mono hg⟩
set_option maxHeartbeats 2000000 in
set_option maxRecDepth 100000 in
theorem num_tookG (g : Nat) (l : List Int) (n : Int) (used : Nat) (w : World) (h : RdrG w g l) (hu : used ≤ l.length) :
    Calls Try.prog 59 #[.pointer (some ⟨g, 0, none⟩), .int .i64 n, .int .i64 used, .int .i64 0] w fun ex w' => ex = .returned (.int .i64 n) ∧ RdrG w' g (l.drop used) ∧ Rk w w' g := by
  obtain ⟨A, c, hc, hg, hF⟩ := h
  have c0 : w.cell? ⟨g, 0, none⟩ = some (.slice A l.length c) := by rw [Lib.cell_of_heap hg]; rfl
  have f0 : w.frozen? ⟨g, 0, none⟩ = false := Lib.frozen_of_heap hg 0
  obtain ⟨i0, hi0, _, hsz, _⟩ := info_parts infoU8
  have q1 : (used : Int) ≤ (l.length : Int) := by omega
  have q0 : (0 : Int) ≤ (used : Int) := by omega
  have hcut := cut_from (P := Try.prog) 22 5 .i64 Try.underlying22 hi0 1 hsz A l.length c (used : Int) q0 q1
  have hr := Kd.F_cut (m := used) (c := c) hF hu hc
  rw [Int.toNat_natCast] at hcut
  obtain ⟨A2, hA2⟩ : ∃ A1, A1 = (if c = used then A else (A : Option Addr).map (·.add (used * 1))) := ⟨_, rfl⟩
  replace hr : Kd.F (Kd.int .u8) w (fun k => k < g) A2 (l.drop used).length (l.drop used) := by rw [hA2]; exact hr
  rw [← hA2] at hcut
  have HG := Aside0.mk hg
  have HR := Aside0.mk hr
  have HC := Aside0.mk hc
  have HU := Aside0.mk hu
  clear hg hr hF hc hu hA2 hsz hi0
  go_enter Try.func59, Try.ntmps59
  go_wp2
  go_ret
  have hb := (Below.refl g w).setCell (p := ⟨g, 0, none⟩) (Nat.le_refl g) (.slice A2 (l.length - used) (c - used))
  refine ⟨rfl, ⟨A2, c - used, ?_, ?_, ?_⟩, hb.size, fun q hq hqg => Below.heap_setCell _ ⟨g, 0, none⟩ _ q hqg, hb⟩
  · rw [List.length_drop]; have := HC.out; have := HU.out; omega
  · rw [heap_setCell_same _ g 0 _ 93 _ HG.out, List.length_drop]; rfl
  · exact Kd.F_far HR.out (p := ⟨g, 0, none⟩) (fun k hk => Nat.ne_of_lt hk) _
theorem num_NewG (A0 : Option Addr) (c0 : Nat) (l0 : List Int) (w : World) (hr0 : Kd.C (Kd.int .u8) w A0 l0.length l0) (hc0 : l0.length ≤ c0) (hl : l0.length < 140737488355328) :
    Calls Try.prog 38 #[.slice A0 l0.length c0] w fun e w' => ∃ g, w.heap.size ≤ g ∧ e = .returned (.pointer (some ⟨g, 0, none⟩)) ∧ RdrG w' g l0 ∧ Below w.heap.size w w' := by
  have HR0 := Aside0.mk hr0
  have HC0 := Aside0.mk hc0
  clear hr0 hc0
  go_enter Try.func38, Try.ntmps38
  go_wp2_with fail
  go_at_call 40
  refine (bytes_Clone.calls A0 c0 l0 l0 _ HR0.out HC0.out (by unfold bytes_Clone.f; rw [if_pos hl])).mono ?_
  rintro e w1 ⟨v, rfl, hr, hb⟩
  obtain ⟨A, c, rfl⟩ := Kd.R_slice hr
  have hF := Kd.R_F (Kd.R_bound hr)
  have HF := Aside0.mk hF
  have HL := Aside0.mk (Kd.R_reads' hr).2.1
  have HB := Aside0.mk hb
  clear hF hr hb
  go_wp2
  go_ret
  refine ⟨w1.heap.size, HB.out.size, rfl, ⟨A, c, HL.out, ?_, ?_⟩, HB.out.alloc HB.out.size _⟩
  · exact heap_alloc_new w1 _
  · exact Kd.F_mono (Kd.F_alloc HF.out _) (fun k hk => hk.2.2.1)
set_option maxHeartbeats 4000000 in
set_option maxRecDepth 100000 in
theorem num_NumG (k : Nat) (g : Nat) (l : List Int) (n : Int) (width : Nat) (w : World) (h : RdrG w g l) (hG : num_Get.f k l (width : Int) = some (n, 0)) (hu : width ≤ l.length) :
    Calls Try.prog 39 #[.pointer (some ⟨g, 0, none⟩), .int .i64 (width : Int)] w fun ex w' => ex = .returned (.int .i64 n) ∧ RdrG w' g (l.drop width) ∧ Rk w w' g := by
  have HS := Aside0.mk h
  have HGet := Aside0.mk hG
  have HU := Aside0.mk hu
  obtain ⟨A, c, hc, hg, hF⟩ := h
  have c0 : w.cell? ⟨g, 0, none⟩ = some (.slice A l.length c) := by rw [Lib.cell_of_heap hg]; rfl
  have HGG := Aside0.mk hg
  have HF := Aside0.mk hF
  have HC := Aside0.mk hc
  clear hc hg hF hG hu
  go_enter Try.func39, Try.ntmps39
  go_wp2_with fail
  go_at_call 57
  refine (num_Err g _ 0 _ HGG.out).mono ?_
  rintro e w1 ⟨rfl, rfl⟩
  go_wp2_with fail
  go_at_call 58
  refine (num_Get.calls k A c l (width : Int) n 0 _ (Kd.F_now HF.out) HC.out HGet.out).mono ?_
  rintro e w2 ⟨rfl, ⟨nd, rfl⟩⟩
  go_wp2_with fail
  go_at_call 59
  have hb0 := pw_below_drewN (Below.refl w1.heap.size w1) nd
  refine (num_tookG g l n width _ (HS.out.step (fun q hq => hb0.block q (Nat.lt_of_le_of_lt hq HS.out.lt))) HU.out).mono ?_
  rintro e w3 ⟨rfl, hs, hb⟩
  have H3 := Aside0.mk hs
  have HB3 := Aside0.mk ((Rk.of_below hb0 (Nat.le_of_lt HS.out.lt)).trans hb)
  clear hs hb hb0
  go_wp2
  go_ret
  exact ⟨rfl, H3.out, HB3.out⟩
theorem nums2_drop (l : List Int) (a : Nat) : ∀ (n i : Nat), nums2 (l.drop a) i n = nums2 l (a + i) n
  | 0, _ => rfl
  | n + 1, i => by
    show gn2 _ i :: _ = gn2 _ (a + i) :: _
    rw [nums2_drop l a n (i + 2)]
    unfold gn2
    rw [rd_drop, rd_drop]
    rfl
set_option maxHeartbeats 4000000 in
set_option maxRecDepth 100000 in
theorem root_blocks (g : Nat) (l : List Int) (n : Nat) (w : World) (h : RdrG w g l) (hn : 2 * n ≤ l.length) (h26 : n ≤ 1000) (hb : ∀ x ∈ l, Byte x) :
    Calls Try.prog 63 #[.pointer (some ⟨g, 0, none⟩), .int .i64 (n : Int)] w fun ex w' => ∃ v, ex = .returned v ∧ Kd.R (Kd.int .i64) 3 w' w.heap.size (fun _ => True) v (nums2 l 0 n) ∧ RdrG w' g (l.drop (2 * n)) ∧ Rk w w' g := by
  have HS := Aside0.mk h
  have HN := Aside0.mk hn
  have HX := Aside0.mk h26
  have HBY := Aside0.mk hb
  clear h hn h26 hb
  go_enter Try.func63, Try.ntmps63
  go_wp2_with fail
  go_loopw [5, 7] (fun o i wr => ∃ (j : Nat) (oj : Value), oj = o ∧ i = .int .i64 (j : Int) ∧ j ≤ n ∧ Kd.R (Kd.int .i64) 3 wr w.heap.size (fun _ => True) oj (nums2 l 0 j) ∧ RdrG wr g (l.drop (2 * j)) ∧ Rk w wr g)
    (fun _ i _ => n - (intOf i).toNat)
  case atStart => exact ⟨0, _, rfl, rfl, Nat.zero_le _, Kd.R_nil _ _ _ _ _, HS.out, Rk.refl _ _⟩
  case round =>
    obtain ⟨j, oj, rfl, rfl, hj, hR, hsj, hkj⟩ := hrel
    by_cases hlt : j < n
    · have b1 : decide ((j : Int) < (n : Int)) = true := decide_eq_true (by omega)
      have b1n : decide (j < n) = true := decide_eq_true hlt
      have HR := Aside0.mk hR
      have HSJ := Aside0.mk hsj
      have HK := Aside0.mk hkj
      have HLT := Aside0.mk hlt
      clear hR hsj hkj hlt
      go_wp2_with fail
      go_at_call 39
      have hlen : 2 ≤ (l.drop (2 * j)).length := by rw [List.length_drop]; have := HN.out; have := HLT.out; omega
      obtain ⟨x, hx⟩ : ∃ x, x = gn2 l (2 * j) := ⟨_, rfl⟩
      have hG : num_Get.f 3 (l.drop (2 * j)) ((2 : Nat) : Int) = some (x, 0) := by
        have := get2 0 _ (fun x hx => HBY.out x (List.mem_of_mem_drop hx)) hlen
        refine this.trans ?_
        rw [hx, show rd (l.drop (2 * j)) 0 = rd l ((2 * j + 0 : Nat) : Int) from rd_drop l (2 * j) 0, show rd (l.drop (2 * j)) 1 = rd l ((2 * j + 1 : Nat) : Int) from rd_drop l (2 * j) 1]
        unfold gn2
        rw [Nat.add_zero, show 256 * 0 + rd l ((2 * j : Nat) : Int) = rd l ((2 * j : Nat) : Int) by omega]
      refine (num_NumG 3 g _ _ 2 _ HSJ.out hG hlen).mono ?_
      have HXE := Aside0.mk hx
      clear hG hx
      rintro e w1 ⟨rfl, hs, hk⟩
      have HS1 := Aside0.mk hs
      have HK1 := Aside0.mk (HK.out.trans hk)
      have HR1 := Aside0.mk (Kd.R_step (Kd.R_bound HR.out) (fun q hq hlt => hk.block q hlt (by have := HS.out.lt; have := hq.2.1; omega)))
      clear hs hk hlen HSJ
      go_wp2_with (first
        | (at_builtin; go_loud (refine Kd.R_append (Kd.int .i64) (w0 := w1) w.heap.size rfl (.tmp 9) (.tmp 12) 35 3 (.int .i64 0) 8 rfl Try.underlying35 infoI64 rfl (by decide) (by omega) oj (nums2 l 0 j) x [.int .i64 x] (fun _ => True) (fun _ => False) rfl rfl ?aP (fun _ hk => hk.elim) ?aF ?aO ?aB ?aS ?aL ?_; (case aP => exact rfl); (case aF => exact fun _ _ => trivial); (case aO => exact Kd.R_mono HR1.out (fun _ _ => trivial)); (case aB => exact Below.refl _ _); (case aS => exact HK1.out.size); (case aL => have := HX.out; have := HLT.out; rw [nums2_len]; omega); intro v2 w2 ho hb hg hat; obtain ⟨A2, c2, rfl⟩ := Kd.R_slice ho; have HO := Aside0.mk ho; have HG := Aside0.mk hg; have HB := Aside0.mk hb; clear ho hb hg hat))
        | fail)
      have hne : ∀ q, q < w.heap.size → some q ≠ oj.ownBlock := fun q hq e => by have := Kd.R_base HR1.out q e.symm; omega
      have hgl := HS.out.lt
      have h3 : ∀ q, q < w.heap.size → w2.heap[q]? = w1.heap[q]? := fun q hq => HG.out.block q (Nat.lt_of_lt_of_le hq HK1.out.size) (hne q hq)
      have h2 := HN.out
      have h4 := HLT.out
      have h5 := HX.out
      have ew : wrap64 ((j : Int) + 1) = ((j + 1 : Nat) : Int) := by unfold wrap64; omega
      rw [ew]
      refine ⟨⟨j + 1, _, rfl, rfl, by omega, ?_, ?_, ?_⟩, by simp [intOf]; omega⟩
      · rw [nums2_snoc]
        rw [Nat.zero_add, ← HXE.out]
        have h6 := HO.out
        rw [List.length_append] at h6
        exact h6
      · have := HS1.out.step (w1 := w2) (fun q hq => h3 q (by omega))
        rw [List.drop_drop] at this
        exact this
      · exact ⟨Nat.le_trans HK1.out.size HB.out.size, fun q hq hqg => (h3 q hq).trans (HK1.out.block q hq hqg), HK1.out.below.trans ⟨HB.out.os, HB.out.tape, HB.out.output, HB.out.size, fun q hq => h3 q (by omega)⟩⟩
    · obtain rfl : j = n := by omega
      have b1 : decide ((j : Int) < (j : Int)) = false := decide_eq_false (by omega)
      go_wp2
      go_ret
      exact ⟨_, rfl, hR, hsj, hkj⟩
end Go.Proofs.Ytgflafifemhmgaa.MRt
