/- The contracts of num.Reader over pairs of what is left and an error. -/
import Derived.Test.YtgbjinonlfhciaaHandE8
import Derived.Test.YtgbjinonlfhciaaMBkx4
import Derived.LaidEqlPtr
import Derived.Lib.Builder
namespace Go.Proofs.Ytgbjinonlfhciaa.BkV
open Go.RowKit Go.Proofs.Ytgbjinonlfhciaa.MBk Go.Proofs.YtgbjinonlfhciaaW.PrintWords Go.Proofs.YtgbjinonlfhciaaW.PrintLast
def Byte (x : Int) : Prop := 0 ≤ x ∧ x ≤ 255
/-- What a reader has left, and its error. -/
abbrev St := List Int × Int
def numV (m : Nat) (l : List Int) : Int := if m = 1 then rd l 0 else 256 * rd l 0 + rd l 1
def numR (m : Nat) (s : St) : Int × St := if s.2 ≠ 0 then (0, s) else if s.1.length < m then (0, (s.1, 3)) else (numV m s.1, (s.1.drop m, 0))
def textR (s : St) : ByteArray × St :=
  if s.2 ≠ 0 then (⟨#[]⟩, s) else if s.1.length = 0 ∨ (s.1.length : Int) - 1 < rd s.1 0 then (⟨#[]⟩, (s.1, 3)) else (strOfNums ((s.1.drop 1).take (rd s.1 0).toNat), (s.1.drop (1 + (rd s.1 0).toNat), 0))
def doneR (s : St) : Int := if s.2 ≠ 0 then s.2 else if s.1.length > 0 then 4 else 0
theorem wrap_id {x : Int} (h0 : -9223372036854775808 ≤ x) (h1 : x ≤ 9223372036854775807) : wrap64 x = x := by unfold wrap64; omega
theorem or_add (n x : Int) (h0 : 0 ≤ n) (h1 : n < 1099511627776) (hx : Byte x) : Go.bits .or .i64 (n * 256) x = 256 * n + x := by
  obtain ⟨hx, hx1⟩ := hx
  obtain ⟨a, rfl⟩ := Int.eq_ofNat_of_zero_le h0
  obtain ⟨b, rfl⟩ := Int.eq_ofNat_of_zero_le hx
  have := (Go.bits_nat .i64 63 (by decide +kernel) (fun m h0 h1 => by rw [IntKind.wrap_i64]; omega) (2 ^ 8 * a) b (by omega) (by omega)).2
  rw [show ((a : Nat) : Int) * 256 = ((2 ^ 8 * a : Nat) : Int) by omega, this, ← Nat.two_pow_add_eq_or_of_lt (by omega : b < 2 ^ 8) a]
  omega
theorem rd_byte (l : List Int) (hl : ∀ x ∈ l, Byte x) (i : Int) : Byte (rd l i) := by
  unfold rd
  rw [List.getD_eq_getElem?_getD]
  cases h : l[i.toNat]? with
  | none => exact ⟨by decide, by decide⟩
  | some x => exact hl x (List.mem_of_getElem? h)
theorem get_step (k : Nat) (l : List Int) (hl : ∀ x ∈ l, Byte x) (w n i : Int) (h0 : 0 ≤ n) (h1 : n < 1099511627776) (hi0 : 0 ≤ i) (hi : i < w) (hw : w ≤ l.length) (hw6 : w ≤ 6) : num_Get.l0 (k + 1) l n w i = num_Get.l0 k l (256 * n + rd l i) w (i + 1) := by
  have hb := rd_byte l hl i
  have hb' := hb
  obtain ⟨hb0, hb1⟩ := hb'
  rw [num_Get.l0, if_pos (by omega), if_pos (by omega), if_pos (by omega), wrap_id (x := n * 256) (by omega) (by omega), wrap_id (x := rd l i) (by omega) (by omega), or_add n _ h0 h1 hb, wrap_id (x := i + 1) (by omega) (by omega)]
theorem get_is (m : Nat) (hm : m = 1 ∨ m = 2) (l : List Int) (hl : ∀ x ∈ l, Byte x) : num_Get.f 5 l (m : Int) = some (if l.length < m then (0, 3) else (numV m l, 0)) := by
  have b0 := rd_byte l hl 0
  have b1 := rd_byte l hl 1
  unfold Byte at b0 b1
  unfold num_Get.f
  rcases hm with rfl | rfl
  · rw [show num_may.f ((1 : Nat) : Int) = some true from rfl, Option.bind_some, if_pos rfl]
    by_cases h : l.length < 1
    · rw [if_pos (by omega), if_pos h]
    · rw [if_neg (by omega), if_neg h, get_step 4 l hl _ 0 0 (by omega) (by omega) (by omega) (by omega) (by omega) (by omega), num_Get.l0, if_neg (by omega)]
      congr 2
      unfold numV
      rw [if_pos rfl]
      omega
  · rw [show num_may.f ((2 : Nat) : Int) = some true from rfl, Option.bind_some, if_pos rfl]
    by_cases h : l.length < 2
    · rw [if_pos (by omega), if_pos h]
    · rw [if_neg (by omega), if_neg h, get_step 4 l hl _ 0 0 (by omega) (by omega) (by omega) (by omega) (by omega) (by omega), get_step 3 l hl _ _ _ (by omega) (by omega) (by omega) (by omega) (by omega) (by omega), num_Get.l0, if_neg (by omega)]
      congr 2
      unfold numV
      rw [if_neg (by decide)]
      show 256 * (256 * 0 + rd l 0) + rd l 1 = _
      omega
theorem drop_byte {l : List Int} (h : ∀ x ∈ l, Byte x) (n : Nat) : ∀ x ∈ l.drop n, Byte x := fun x hx => h x (List.mem_of_mem_drop hx)
end Go.Proofs.Ytgbjinonlfhciaa.BkV
namespace Go.Proofs.Ytgbjinonlfhciaa.MBk
open Go.RowKit Go.Proofs.Ytgbjinonlfhciaa.BkV Go.Proofs.YtgbjinonlfhciaaW.PrintWords Go.Proofs.YtgbjinonlfhciaaW.PrintLast Go.Proofs.YtgbjinonlfhciaaW.PrintMore
set_option linter.unusedVariables false
set_option linter.unusedSimpArgs false
/-- What bytes.Clone tells of bytes. -/
def bytes_Clone.f (l0 : List Int) : Option (List Int) := if l0.length < 140737488355328 then some l0 else none
set_option maxHeartbeats 2000000 in
set_option maxRecDepth 100000 in
theorem bytes_Clone.calls (A0 : Option Addr) (c0 : Nat) (l0 : List Int) (r : List Int) (w : World) (hr0 : Kd.C (Kd.int .u8) w A0 l0.length l0) (hc0 : l0.length ≤ c0) (h : bytes_Clone.f l0 = some r) :
    Calls Try.prog 58 #[.slice A0 l0.length c0] w fun e w' => ∃ v0_ : Value, e = .returned (v0_) ∧ Kd.R (Kd.int .u8) 5 w' w.heap.size (fun _ => True) v0_ r ∧ Below w.heap.size w w' := by
  unfold bytes_Clone.f at h
  by_cases hl : l0.length < 140737488355328
  · rw [if_pos hl] at h
    obtain rfl := Option.some.inj h
    clear h
    have HR0 := Aside0.mk hr0
    have HC0 := Aside0.mk hc0
    have HL := Aside0.mk hl
    clear hc0 hl
    cases A0 with
    | none =>
      have hn : l0 = [] := by
        rcases Nat.eq_zero_or_pos l0.length with h0 | h0
        · exact List.eq_nil_of_length_eq_zero h0
        · obtain ⟨ad, e, _⟩ := hr0.2.2 h0
          cases e
      subst hn
      clear hr0
      have q := fun (W : World) => Lib.run_eql_slice_nil (P := Try.prog) W 43 5 none ([] : List Int).length c0 0 0 Try.underlying43
      simp only [List.length_nil] at q ⊢
      go_enter Try.func58, Try.ntmps58
      go_wp2
      go_ret
      exact ⟨_, rfl, Kd.R_nil _ _ _ _ _, Below.refl _ _⟩
    | some ad =>
      clear hr0
      have q := fun (W : World) => Lib.run_eql_slice_nil (P := Try.prog) W 43 5 (some ad) l0.length c0 0 0 Try.underlying43
      have HB := Aside0.mk (Below.refl w.heap.size w)
      go_enter Try.func58, Try.ntmps58
      go_wp2_with (first | ((with_reducible refine gate_dst (N := 5) rfl ?_); refine Kd.R_lit (Kd.int .u8) _ 5 ?hg (N := 5) ?hd (xs := ([] : List Int)) (inner := []) (ok := fun _ => True) (okp := fun _ => True) ?hr ?hp (fun _ hk => hk) trivial (Below.refl _ _) (Nat.le_refl _) (by simp) ?_; (case hd => rfl); (case hg => rfl); (case hr => first | (go_simp; done) | (go_simp; rfl)); (case hp => exact (Reps.none _ _)); intro v112 w5 ho6 hb hg_ hnew_; clear hg_ hnew_; have HO := Aside0.mk (Kd.R_lower ho6 (below_size HB.out)); have n1_ := Aside0.mk (below_step HB.out hb); clear HB; have HB := n1_; clear n1_; clear hb ho6) | ((with_reducible refine gate_builtin (b := .append) (xs := #[.tmp 5, .tmp 6]) rfl ?_); at_builtin; refine Kd.R_append_rows (Kd.int .u8) (w0 := w) w.heap.size rfl (.tmp 5) (.tmp 6) 43 5 (.int .u8 0) 1 rfl Try.underlying43 info5 rfl (by decide) (by omega) v112 ([] : List Int) l0 _ _ _ (fun _ => True) (fun _ => False) rfl rfl ?aO ?aR (fun _ _ h => h) (fun _ h => h.elim) ?aF ?aB ?aS ?aL ?_; (case aR => exact (Kd.C_below HR0.out HB.out)); (case aB => exact HB.out); (case aF => exact (fun _ _ => trivial)); (case aO => exact HO.out); (case aS => exact (below_size HB.out)); (case aL => have := HL.out; simp only [List.length_nil]; omega); intro v115 w7 ho hb hg hat; have n0_ := Aside0.mk (hb); have n1_ := Aside0.mk (ho); clear HB; clear HO; have HB := n0_; have HO := n1_; clear n0_ n1_; clear ho hb hg hat))
      go_ret
      exact ⟨_, rfl, by have := HO.out; rwa [List.nil_append] at this, HB.out⟩
  · rw [if_neg hl] at h
    cases h
/-- A reader at a block, its bytes in elder blocks. -/
def RdrG (w : World) (g : Nat) (s : St) : Prop := ∃ A c, s.1.length ≤ c ∧ w.heap[g]? = some (.cells #[.slice A s.1.length c, .int .i64 s.2] 95 (0, 0)) ∧ Kd.F (Kd.int .u8) w (fun k => k < g) A s.1.length s.1
theorem RdrG.step {w w1 : World} {g : Nat} {s : St} (h : RdrG w g s) (hg : ∀ q, q ≤ g → w1.heap[q]? = w.heap[q]?) : RdrG w1 g s := by
  obtain ⟨A, c, hc, hb, hF⟩ := h
  exact ⟨A, c, hc, (hg g (Nat.le_refl _)).trans hb, Kd.F_step hF (fun k hk _ => hg k (Nat.le_of_lt hk))⟩
theorem RdrG.lt {w : World} {g : Nat} {s : St} (h : RdrG w g s) : g < w.heap.size := by
  obtain ⟨A, c, hc, hb, hF⟩ := h
  exact blk_lt hb
/-- What a reader's step keeps. -/
structure Rk (w W : World) (g : Nat) : Prop where
  size : w.heap.size ≤ W.heap.size
  block : ∀ q, q < w.heap.size → q ≠ g → W.heap[q]? = w.heap[q]?
  below : Below g w W
theorem Rk.refl (w : World) (g : Nat) : Rk w w g := ⟨Nat.le_refl _, fun _ _ _ => rfl, Below.refl _ _⟩
theorem Rk.trans {w W W2 : World} {g : Nat} (h : Rk w W g) (h2 : Rk W W2 g) : Rk w W2 g :=
  ⟨Nat.le_trans h.size h2.size, fun q hq hg => (h2.block q (Nat.lt_of_lt_of_le hq h.size) hg).trans (h.block q hq hg), h.below.trans h2.below⟩
theorem Rk.of_below {w W : World} {g : Nat} (h : Below w.heap.size w W) (hg : g ≤ w.heap.size) : Rk w W g := ⟨h.size, fun q hq _ => h.block q hq, h.mono hg⟩
theorem Rk.of_cell (w : World) (g i : Nat) (u : Value) : Rk w (w.setCell ⟨g, i, none⟩ u) g :=
  have hb := (Below.refl g w).setCell (p := ⟨g, i, none⟩) (Nat.le_refl g) u
  ⟨hb.size, fun q _ hqg => Below.heap_setCell _ ⟨g, i, none⟩ _ q hqg, hb⟩
set_option maxHeartbeats 8000000 in
set_option maxRecDepth 100000 in
theorem num_Err (g : Nat) (v : Value) (e : Int) (w : World) (h : w.heap[g]? = some (.cells #[v, .int .i64 e] 95 (0, 0))) :
    Calls Try.prog 59 #[.pointer (some ⟨g, 0, none⟩)] w fun ex w' => ex = .returned (.int .i64 e) ∧ w' = w := by
  have c1 : w.cell? ⟨g, 1, none⟩ = some (.int .i64 e) := by rw [Lib.cell_of_heap h]; rfl
  go_enter Try.func59, Try.ntmps59
  go_wp2
  go_ret
  exact ⟨rfl, rfl⟩
set_option maxHeartbeats 8000000 in
set_option maxRecDepth 100000 in
theorem num_took (g : Nat) (l : List Int) (n : Int) (used : Nat) (w : World) (h : RdrG w g (l, 0)) (hu : used ≤ l.length) :
    Calls Try.prog 61 #[.pointer (some ⟨g, 0, none⟩), .int .i64 n, .int .i64 used, .int .i64 0] w fun ex w' => ex = .returned (.int .i64 n) ∧ RdrG w' g (l.drop used, 0) ∧ Rk w w' g := by
  obtain ⟨A, c, hc, hg, hF⟩ := h
  replace hc : l.length ≤ c := hc
  replace hg : w.heap[g]? = some (.cells #[.slice A l.length c, .int .i64 0] 95 (0, 0)) := hg
  replace hF : Kd.F (Kd.int .u8) w (fun k => k < g) A l.length l := hF
  have c0 : w.cell? ⟨g, 0, none⟩ = some (.slice A l.length c) := by rw [Lib.cell_of_heap hg]; rfl
  have f0 : w.frozen? ⟨g, 0, none⟩ = false := Lib.frozen_of_heap hg 0
  obtain ⟨i0, hi0, _, hsz, _⟩ := info_parts info5
  have q1 : (used : Int) ≤ (l.length : Int) := by omega
  have q0 : (0 : Int) ≤ (used : Int) := by omega
  have hcut := cut_from (P := Try.prog) 43 5 .i64 Try.underlying43 hi0 1 hsz A l.length c (used : Int) q0 q1
  have hr := Kd.F_cut (m := used) (c := c) hF hu hc
  rw [Int.toNat_natCast] at hcut
  obtain ⟨A2, hA2⟩ : ∃ A1, A1 = (if c = used then A else (A : Option Addr).map (·.add (used * 1))) := ⟨_, rfl⟩
  replace hr : Kd.F (Kd.int .u8) w (fun k => k < g) A2 (l.drop used).length (l.drop used) := by rw [hA2]; exact hr
  rw [← hA2] at hcut
  have HG := Aside0.mk hg
  have HR := Aside0.mk hr
  have HC := Aside0.mk hc
  have HU := Aside0.mk hu
  clear hg hr hF hc hu hA2 hsz hi0
  go_enter Try.func61, Try.ntmps61
  go_wp2
  go_ret
  refine ⟨rfl, ⟨A2, c - used, ?_, ?_, ?_⟩, Rk.of_cell _ _ _ _⟩
  · show (l.drop used).length ≤ _
    rw [List.length_drop]; have := HC.out; have := HU.out; omega
  · show _ = some (Obj.cells #[.slice A2 (l.drop used).length (c - used), .int .i64 0] 95 (0, 0))
    rw [heap_setCell_same _ g 0 _ 95 _ HG.out, List.length_drop]; rfl
  · exact Kd.F_far HR.out (p := ⟨g, 0, none⟩) (fun k hk => Nat.ne_of_lt hk) _
set_option maxHeartbeats 8000000 in
set_option maxRecDepth 100000 in
theorem num_lost (g : Nat) (l : List Int) (n : Int) (used : Nat) (e : Int) (he : (e != 0) = true) (w : World) (h : RdrG w g (l, 0)) :
    Calls Try.prog 61 #[.pointer (some ⟨g, 0, none⟩), .int .i64 n, .int .i64 used, .int .i64 e] w fun ex w' => ex = .returned (.int .i64 0) ∧ RdrG w' g (l, e) ∧ Rk w w' g := by
  obtain ⟨A, c, hc, hg, hF⟩ := h
  replace hg : w.heap[g]? = some (.cells #[.slice A l.length c, .int .i64 0] 95 (0, 0)) := hg
  have c1 : w.cell? ⟨g, 1, none⟩ = some (.int .i64 0) := by rw [Lib.cell_of_heap hg]; rfl
  have f1 : w.frozen? ⟨g, 1, none⟩ = false := Lib.frozen_of_heap hg 1
  have HG := Aside0.mk hg
  have HF := Aside0.mk hF
  have HC := Aside0.mk hc
  clear hg hF hc
  go_enter Try.func61, Try.ntmps61
  go_wp2
  go_ret
  refine ⟨rfl, ⟨A, c, HC.out, ?_, ?_⟩, Rk.of_cell _ _ _ _⟩
  · exact heap_setCell_same _ g 1 _ 95 _ HG.out
  · exact Kd.F_far HF.out (p := ⟨g, 1, none⟩) (fun k hk => Nat.ne_of_lt hk) _
set_option maxHeartbeats 8000000 in
set_option maxRecDepth 100000 in
theorem num_New (A0 : Option Addr) (c0 : Nat) (l0 : List Int) (w : World) (hr0 : Kd.C (Kd.int .u8) w A0 l0.length l0) (hc0 : l0.length ≤ c0) (hl : l0.length < 140737488355328) :
    Calls Try.prog 47 #[.slice A0 l0.length c0] w fun e w' => ∃ g, w.heap.size ≤ g ∧ e = .returned (.pointer (some ⟨g, 0, none⟩)) ∧ RdrG w' g (l0, 0) ∧ Below w.heap.size w w' := by
  have HR0 := Aside0.mk hr0
  have HC0 := Aside0.mk hc0
  clear hr0 hc0
  go_enter Try.func47, Try.ntmps47
  go_wp2_with fail
  go_at_call 58
  refine (bytes_Clone.calls A0 c0 l0 l0 _ HR0.out HC0.out (by unfold bytes_Clone.f; rw [if_pos hl])).mono ?_
  rintro e w1 ⟨v, rfl, hr, hb⟩
  obtain ⟨A, c, rfl⟩ := Kd.R_slice hr
  have hF := Kd.R_F (Kd.R_bound hr)
  have HF := Aside0.mk hF
  have HL := Aside0.mk (Kd.R_reads' hr).2.1
  have HB := Aside0.mk hb
  clear hF hr hb
  go_wp2
  go_ret
  refine ⟨w1.heap.size, HB.out.size, rfl, ⟨A, c, HL.out, ?_, ?_⟩, HB.out.alloc HB.out.size _⟩
  · exact heap_alloc_new w1 _
  · exact Kd.F_mono (Kd.F_alloc HF.out _) (fun k hk => hk.2.2.1)
set_option maxHeartbeats 8000000 in
set_option maxRecDepth 100000 in
theorem num_Num (g : Nat) (s : St) (m : Nat) (hm : m = 1 ∨ m = 2) (w : World) (h : RdrG w g s) (hb : ∀ x ∈ s.1, Byte x) :
    Calls Try.prog 48 #[.pointer (some ⟨g, 0, none⟩), .int .i64 (m : Int)] w fun ex w' => ex = .returned (.int .i64 (numR m s).1) ∧ RdrG w' g (numR m s).2 ∧ Rk w w' g := by
  obtain ⟨l, e⟩ := s
  replace hb : ∀ x ∈ l, Byte x := hb
  have HS := Aside0.mk h
  have hgt := get_is m hm l hb
  have HBY := Aside0.mk hb
  obtain ⟨A, c, hc, hg, hF⟩ := h
  replace hc : l.length ≤ c := hc
  replace hg : w.heap[g]? = some (.cells #[.slice A l.length c, .int .i64 e] 95 (0, 0)) := hg
  replace hF : Kd.F (Kd.int .u8) w (fun k => k < g) A l.length l := hF
  have c0 : w.cell? ⟨g, 0, none⟩ = some (.slice A l.length c) := by rw [Lib.cell_of_heap hg]; rfl
  have HGG := Aside0.mk hg
  have HF := Aside0.mk hF
  have HC := Aside0.mk hc
  have HGT := Aside0.mk hgt
  clear hc hg hF hb hgt hm
  go_enter Try.func48, Try.ntmps48
  go_wp2_with fail
  go_at_call 59
  refine (num_Err g _ e _ HGG.out).mono ?_
  rintro ex w1 ⟨rfl, rfl⟩
  by_cases he : e = 0
  · subst he
    go_wp2_with fail
    go_at_call 60
    by_cases hl : l.length < m
    · have HN := Aside0.mk (show numR m (l, 0) = (0, (l, 3)) by unfold numR; rw [if_neg (fun h => h rfl), if_pos hl])
      have hgt := HGT.out
      rw [if_pos hl] at hgt
      refine (num_Get.calls 5 A c l (m : Int) 0 3 _ (Kd.F_now HF.out) HC.out hgt).mono ?_
      clear hgt hl
      rintro ex w2 ⟨rfl, ⟨nd, rfl⟩⟩
      go_wp2_with fail
      go_at_call 61
      have hb0 := pw_below_drewN (Below.refl w1.heap.size w1) nd
      refine (num_lost g l 0 m 3 rfl _ (HS.out.step (fun q hq => hb0.block q (Nat.lt_of_le_of_lt hq HS.out.lt)))).mono ?_
      rintro ex w3 ⟨rfl, hs, hb⟩
      have H3 := Aside0.mk hs
      have HB3 := Aside0.mk ((Rk.of_below hb0 (Nat.le_of_lt HS.out.lt)).trans hb)
      clear hs hb hb0
      go_wp2
      go_ret
      rw [HN.out]
      exact ⟨rfl, H3.out, HB3.out⟩
    · have HN := Aside0.mk (show numR m (l, 0) = (numV m l, (l.drop m, 0)) by unfold numR; rw [if_neg (fun h => h rfl), if_neg hl])
      have HLM := Aside0.mk (show m ≤ l.length by omega)
      have hgt := HGT.out
      rw [if_neg hl] at hgt
      refine (num_Get.calls 5 A c l (m : Int) (numV m l) 0 _ (Kd.F_now HF.out) HC.out hgt).mono ?_
      clear hgt hl
      rintro ex w2 ⟨rfl, ⟨nd, rfl⟩⟩
      go_wp2_with fail
      go_at_call 61
      have hb0 := pw_below_drewN (Below.refl w1.heap.size w1) nd
      refine (num_took g l (numV m l) m _ (HS.out.step (fun q hq => hb0.block q (Nat.lt_of_le_of_lt hq HS.out.lt))) HLM.out).mono ?_
      rintro ex w3 ⟨rfl, hs, hb⟩
      have H3 := Aside0.mk hs
      have HB3 := Aside0.mk ((Rk.of_below hb0 (Nat.le_of_lt HS.out.lt)).trans hb)
      clear hs hb hb0
      go_wp2
      go_ret
      rw [HN.out]
      exact ⟨rfl, H3.out, HB3.out⟩
  · have HN := Aside0.mk (show numR m (l, e) = (0, (l, e)) from if_pos he)
    have hee : (e != 0) = true := bne_iff_ne.mpr he
    clear he
    go_wp2
    go_ret
    rw [HN.out]
    exact ⟨rfl, HS.out, Rk.refl _ _⟩
set_option maxHeartbeats 8000000 in
set_option maxRecDepth 100000 in
theorem num_Done (g : Nat) (s : St) (w : World) (h : RdrG w g s) :
    Calls Try.prog 50 #[.pointer (some ⟨g, 0, none⟩)] w fun ex w' => ex = .returned (.int .i64 (doneR s)) ∧ w' = w := by
  obtain ⟨l, e⟩ := s
  obtain ⟨A, c, hc, hg, hF⟩ := h
  replace hg : w.heap[g]? = some (.cells #[.slice A l.length c, .int .i64 e] 95 (0, 0)) := hg
  have c0 : w.cell? ⟨g, 0, none⟩ = some (.slice A l.length c) := by rw [Lib.cell_of_heap hg]; rfl
  have HGG := Aside0.mk hg
  clear hg hF hc
  go_enter Try.func50, Try.ntmps50
  go_wp2_with fail
  go_at_call 59
  refine (num_Err g _ e _ HGG.out).mono ?_
  rintro ex w1 ⟨rfl, rfl⟩
  by_cases he : e = 0
  · subst he
    by_cases hl : l.length > 0
    · have HN := Aside0.mk (show doneR (l, 0) = 4 by unfold doneR; rw [if_neg (fun h => h rfl), if_pos hl])
      have b1 : decide ((0 : Int) < (l.length : Int)) = true := decide_eq_true (by omega)
      have b2 : decide (0 < l.length) = true := decide_eq_true hl
      clear hl
      go_wp2
      go_ret
      rw [HN.out]
      exact ⟨rfl, rfl⟩
    · have HN := Aside0.mk (show doneR (l, 0) = 0 by unfold doneR; rw [if_neg (fun h => h rfl), if_neg hl])
      have b1 : decide ((0 : Int) < (l.length : Int)) = false := decide_eq_false (by omega)
      have b2 : decide (0 < l.length) = false := decide_eq_false hl
      clear hl
      go_wp2
      go_ret
      rw [HN.out]
      exact ⟨rfl, rfl⟩
  · have HN := Aside0.mk (show doneR (l, e) = e from if_pos he)
    have hee : (e != 0) = true := bne_iff_ne.mpr he
    clear he
    go_wp2
    go_ret
    rw [HN.out]
    exact ⟨rfl, rfl⟩
end Go.Proofs.Ytgbjinonlfhciaa.MBk
