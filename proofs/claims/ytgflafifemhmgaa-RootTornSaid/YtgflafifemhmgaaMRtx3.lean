/- Written by a program of this session (wip/tools/myprint.py), over the kit's print: the functions that Rt reaches, and their contracts. -/
import Derived.Test.YtgflafifemhmgaaMRtx0
import Derived.Test.YtgflafifemhmgaaMRtx1
import Derived.Test.YtgflafifemhmgaaMRtx2
namespace Go.Proofs.Ytgflafifemhmgaa.MRt
open Go.RowKit Go.Proofs.Ytgflafifemhmgaa.Hand Go.Proofs.YtgflafifemhmgaaW.PrintWords Go.Proofs.YtgflafifemhmgaaW.PrintLast Go.Proofs.YtgflafifemhmgaaW.PrintMore
attribute [local go_sem] max2_int min2_int max_two min_two max_three min_three max_four min_four   -- for this text's walks alone
set_option linter.unusedVariables false
set_option linter.unusedSimpArgs false

/-! ### root_Put: function 25: this session's own text -/
/-- What root.Put's closure lays behind bytes: numbers of a width. -/
def layF (k : Nat) (width : Int) : List Int → List Int → Option (List Int)
  | b, [] => some b
  | b, x :: r => (num_Put.f k x width).bind fun p => if b.length + p.1.length < 140737488355328 then layF k width (b ++ p.1) r else none
/-- A box with a row of bytes of one's own. -/
structure LayS (W : World) (g : Nat) (v : Value) (b : List Int) (B : Nat) : Prop where
  box : W.heap[g]? = some (.cells #[v] 22 (0, 0))
  row : Kd.R (Kd.int .u8) 5 W B (fun q => q ≠ g) v b
theorem lay_rd (l : List Int) (i : Nat) (h : i < l.length) : rd l (i : Int) = l[i] := by
  unfold rd
  rw [Int.toNat_natCast, List.getD_eq_getElem?_getD, List.getElem?_eq_getElem h]
  rfl
/-- What laying keeps. -/
structure KeepL (w W : World) (g : Nat) (v v' : Value) : Prop where
  block : ∀ k, k < w.heap.size → k ≠ g → some k ≠ v.ownBlock → W.heap[k]? = w.heap[k]?
  own : v'.ownBlock = v.ownBlock ∨ ∃ b, v'.ownBlock = some b ∧ w.heap.size ≤ b
theorem KeepL.refl (w : World) (g : Nat) (v : Value) : KeepL w w g v v := ⟨fun _ _ _ _ => rfl, .inl rfl⟩
theorem KeepL.trans {w W W2 : World} {g : Nat} {v v' v2 : Value} (h : KeepL w W g v v') (h2 : KeepL W W2 g v' v2) (hs : w.heap.size ≤ W.heap.size) : KeepL w W2 g v v2 := by
  refine ⟨fun k hk hg hv => ?_, ?_⟩
  · rw [h2.block k (Nat.lt_of_lt_of_le hk hs) hg (fun e => ?_), h.block k hk hg hv]
    rcases h.own with ho | ⟨b, ho, hb⟩
    · exact hv (by rw [e, ho])
    · rw [ho] at e
      injection e with e
      omega
  · rcases h2.own with ho | ⟨b, ho, hb⟩
    · rcases h.own with h1 | ⟨b, h1, hb⟩
      · exact .inl (ho.trans h1)
      · exact .inr ⟨b, ho.trans h1, hb⟩
    · exact .inr ⟨b, ho, Nat.le_trans hs hb⟩
theorem LayS.below {W W' : World} {g B : Nat} {v : Value} {b : List Int} (h : LayS W g v b B) (hb : Below W.heap.size W W') : LayS W' g v b B := ⟨blk_below h.box hb, Kd.R_below h.row hb⟩
theorem KeepL.below {W W' : World} {g : Nat} {v : Value} (hb : Below W.heap.size W W') : KeepL W W' g v v := ⟨fun k hk _ _ => hb.block k hk, .inl rfl⟩
/-- A row that grew is put back into its box. -/
theorem lay_step {W W1 : World} {g B : Nat} {v v1 : Value} {b b1 : List Int} (h : LayS W g v b B) (hr : Kd.R (Kd.int .u8) 5 W1 B (fun q => q ≠ g) v1 b1) (hg : W.grownBy W1 v.ownBlock) (hat : v1.ownBlock = v.ownBlock ∨ ∃ q, v1.ownBlock = some q ∧ W.heap.size ≤ q) :
    LayS (W1.setCell ⟨g, 0, none⟩ v1) g v1 b1 B ∧ KeepL W (W1.setCell ⟨g, 0, none⟩ v1) g v v1 ∧ W1.heap[g]? = some (.cells #[v] 22 (0, 0)) := by
  have hne : some g ≠ v.ownBlock := fun e => (h.row.1 g e.symm) rfl
  have hb : W1.heap[g]? = some (.cells #[v] 22 (0, 0)) := by rw [hg.block g (blk_lt h.box) hne]; exact h.box
  refine ⟨⟨?_, Kd.R_far hr (p := ⟨g, 0, none⟩) (fun _ hk => hk) _⟩, ⟨fun k hk hkg hkv => ?_, hat⟩, hb⟩
  · rw [heap_setCell_same _ g 0 _ 22 _ hb]; rfl
  · rw [Below.heap_setCell W1 ⟨g, 0, none⟩ v1 k hkg]
    exact hg.block k hk hkv
set_option maxHeartbeats 4000000 in
set_option maxRecDepth 100000 in
theorem lay_calls (k g B : Nat) (width : Int) (A : Option Addr) (c : Nat) (l b out : List Int) (v : Value) (w : World) (hs : LayS w g v b B) (hB : B ≤ g) (hl : Kd.F (Kd.int .i64) w (fun q => q ≠ g ∧ some q ≠ v.ownBlock) A l.length l) (hlen : l.length ≤ 1000000) (h : layF k width b l = some out) :
    Calls Try.prog 44 #[.int .i64 width, .slice A l.length c, .pointer (some ⟨g, 0, none⟩)] w fun e w' => e = .returned (.tuple #[]) ∧ ∃ v', LayS w' g v' out B ∧ Below B w w' ∧ KeepL w w' g v v' := by
  have HS := Aside0.mk hs
  have HL := Aside0.mk hl
  have HN := Aside0.mk hlen
  have H := Aside0.mk h
  have HBB := Aside0.mk hB
  clear hs hl hlen h hB
  go_enter Try.func44, Try.ntmps44
  go_wp2_with fail
  go_loopw [11] (fun i wr => ∃ (j : Nat) (bj : List Int) (vj : Value), j ≤ l.length ∧ i = .int .i64 j ∧ LayS wr g vj bj B ∧ layF k width bj (l.drop j) = some out ∧ Below B w wr ∧ KeepL w wr g v vj)
    (fun i _ => l.length - (intOf i).toNat)
  case atStart => exact ⟨0, b, v, Nat.zero_le _, rfl, HS.out, by rw [List.drop_zero]; exact H.out, Below.refl _ _, KeepL.refl _ _ _⟩
  case round =>
    obtain ⟨j, bj, vj, hj, rfl, hsj, hfj, hbj, hkj⟩ := hrel
    by_cases hlt : j < l.length
    · have hFj := Kd.F_step HL.out (fun q hok hq => hkj.block q hq hok.1 hok.2)
      obtain ⟨ad, e1, hx⟩ := Kd.at_int (Kd.F_now hFj) (j : Int) (by omega) (by omega)
      cases e1
      rw [Int.toNat_natCast, lay_rd l j hlt] at hx
      rw [List.drop_eq_getElem_cons hlt, layF] at hfj
      generalize l[j] = x at hx hfj
      obtain ⟨⟨px, pe⟩, hp, hfj⟩ := Option.bind_eq_some_iff.mp hfj
      by_cases hlim : bj.length + px.length < 140737488355328
      · rw [if_pos hlim] at hfj
        have b1 : decide ((j : Int) < (l.length : Int)) = true := decide_eq_true (by omega)
        have hN := HN.out
        have p0 := eq_true (show 0 ≤ (j : Int) by omega)
        have p1 := eq_true (show (j : Int) < (l.length : Int) by omega)
        have HSJ := Aside0.mk hsj
        have HFJ := Aside0.mk hfj
        have HP := Aside0.mk hp
        have HBJ := Aside0.mk hbj
        have HKJ := Aside0.mk hkj
        have HLIM := Aside0.mk hlim
        clear hsj hfj hp hbj hkj hlim hFj
        go_wp2_with fail
        go_at_call 45
        refine (num_Put.calls k x width px pe _ HP.out).mono ?_
        rintro e w1 ⟨vx, rfl, hrx, hbx⟩
        obtain ⟨Ax, cx, rfl⟩ := Kd.R_slice hrx
        have HX := Aside0.mk hrx
        have HSJ1 := Aside0.mk (HSJ.out.below hbx)
        have HKJ1 := Aside0.mk (HKJ.out.trans (KeepL.below hbx) HBJ.out.size)
        have HBJ1 := Aside0.mk (HBJ.out.trans (hbx.mono (Nat.le_trans HBB.out (Nat.le_of_lt (blk_lt HSJ.out.box)))))
        clear hrx hbx HSJ HKJ HBJ hx
        have hcz := blk_cell HSJ1.out.box 0
        have hfz := blk_frozen HSJ1.out.box 0
        go_wp2_with (first
          | (at_builtin; go_loud (refine Kd.R_append_rows (Kd.int .u8) (w0 := w) B rfl (.tmp 21) (.tmp 22) 22 5 (.int .u8 0) 1 rfl Try.underlying22 infoU8 rfl (by decide) (by omega) vj bj px _ _ _ (fun q => q ≠ g) (fun _ => False) rfl rfl HSJ1.out.row ?aR (fun _ _ h => h) (fun _ h => h.elim) ?aF HBJ1.out ?aS ?aL ?_; (case aR => exact (Kd.R_reads' HX.out).2.2); (case aF => exact fun q hq => by have := blk_lt HSJ1.out.box; omega); (case aS => exact Nat.le_trans HBB.out (Nat.le_of_lt (blk_lt HSJ1.out.box))); (case aL => have := HLIM.out; omega); intro v2 w2 ho hb hg hat; obtain ⟨A2, c2, rfl⟩ := Kd.R_slice ho; have hL := lay_step HSJ1.out ho hg hat; have HL2 := Aside0.mk hL; have HB2 := Aside0.mk hb; have hcz2 := blk_cell hL.2.2 0; have hfz2 := blk_frozen hL.2.2 0; clear ho hb hg hat hL hcz hfz))
          | fail)
        have e2 : (bj ++ px).length = bj.length + px.length := List.length_append
        obtain ⟨h1, h2, _⟩ := HL2.out
        rw [e2] at h1 h2
        refine ⟨⟨j + 1, bj ++ px, _, by omega, rfl, h1, HFJ.out, HB2.out.setCell (p := ⟨g, 0, none⟩) HBB.out _, HKJ1.out.trans h2 HBJ1.out.size⟩, by simp [intOf]; omega⟩
      · rw [if_neg hlim] at hfj
        cases hfj
    · obtain rfl : j = l.length := by omega
      have b1 : decide ((l.length : Int) < (l.length : Int)) = false := decide_eq_false (by omega)
      rw [List.drop_length, layF] at hfj
      obtain rfl := Option.some.inj hfj
      go_wp2
      go_end0
      exact ⟨rfl, vj, hsj, hbj, hkj⟩
theorem lay_app {W : World} {B : Nat} {v : Value} {px : List Int} (h : W.ownsRow B 5 1 v (4 + px.length) ([.int .u8 114, .int .u8 111, .int .u8 111, .int .u8 116] ++ px.map (Value.int .u8))) : W.ownsRow B 5 1 v (([114, 111, 111, 116] : List Int) ++ px).length ((([114, 111, 111, 116] : List Int) ++ px).map (Value.int .u8)) := by
  rw [List.length_append, List.map_append]
  exact h
theorem lay_q {W : World} {q : Nat} {C : Array Value} {t : TypeId} {fr : Nat × Nat} (h : W.heap[q]? = some (.cells C t fr)) (j : Nat) {u : Value} (hu : C[j]? = some u) : W.cell? ((⟨q, 0, none⟩ : Addr).add j) = some u := by
  have e : (⟨q, 0, none⟩ : Addr).add j = ⟨q, j, none⟩ := by unfold Addr.add; split <;> simp_all
  rw [e]
  simp [World.cell?, h, hu]
set_option maxHeartbeats 4000000 in
set_option maxRecDepth 100000 in
/-- The first laying: behind the constant's bytes, a marked row that is full. -/
theorem lay_first (k g q B : Nat) (width x : Int) (A : Option Addr) (c : Nat) (out : List Int) (w : World) (hbox : w.heap[g]? = some (.cells #[.slice (some ⟨q, 0, none⟩) 4 4] 22 (0, 0))) (hq : w.heap[q]? = some (.cells #[.int .u8 114, .int .u8 111, .int .u8 111, .int .u8 116] 5 (4, 5))) (hB : B ≤ g) (hgq : g ≠ q) (hl : Kd.F (Kd.int .i64) w (fun p => p ≠ g) A 1 [x]) (h : layF k width [114, 111, 111, 116] [x] = some out) (hne : out ≠ [114, 111, 111, 116]) :
    Calls Try.prog 44 #[.int .i64 width, .slice A 1 c, .pointer (some ⟨g, 0, none⟩)] w fun e w' => e = .returned (.tuple #[]) ∧ ∃ v', LayS w' g v' out B ∧ Below B w w' ∧ (∀ p, p < w.heap.size → p ≠ g → w'.heap[p]? = w.heap[p]?) ∧ (∀ p, v'.ownBlock = some p → w.heap.size ≤ p) := by
  rw [layF] at h
  obtain ⟨⟨px, pe⟩, hp, h⟩ := Option.bind_eq_some_iff.mp h
  by_cases hlim : ([114, 111, 111, 116] : List Int).length + px.length < 140737488355328
  · rw [if_pos hlim, layF] at h
    have ho := Option.some.inj h
    have HBOX := Aside0.mk hbox
    have HQ := Aside0.mk hq
    have HL := Aside0.mk hl
    have HP := Aside0.mk hp
    have HBB := Aside0.mk hB
    have HLIM := Aside0.mk hlim
    have HO := Aside0.mk ho
    have HNE := Aside0.mk hne
    have HGQ := Aside0.mk hgq
    obtain ⟨ad, e1, hx⟩ := Kd.at_int (Kd.F_now hl) 0 (by decide) (by decide)
    cases e1
    replace hx : w.cell? (ad.add 0) = some (.int .i64 x) := hx
    replace hx : w.cell? ad = some (.int .i64 x) := by simpa [Addr.add] using hx
    clear hbox hq hl hp hB hlim h ho hne hgq
    obtain ⟨i0, hi, hz0, hz1, hz2⟩ := info_parts infoU8
    go_enter Try.func44, Try.ntmps44
    go_wp2_with fail
    go_loopw [11] (fun i wr => (i = .int .i64 0 ∧ wr = w) ∨ (i = .int .i64 1 ∧ ∃ v', LayS wr g v' out B ∧ Below B w wr ∧ (∀ p, p < w.heap.size → p ≠ g → wr.heap[p]? = w.heap[p]?) ∧ (∀ p, v'.ownBlock = some p → w.heap.size ≤ p)))
      (fun i _ => 1 - (intOf i).toNat)
    case atStart => exact .inl ⟨rfl, rfl⟩
    case round =>
      rcases hrel with ⟨rfl, rfl⟩ | ⟨rfl, v', hv⟩
      · go_wp2_with fail
        go_at_call 45
        refine (num_Put.calls k x width px pe _ HP.out).mono ?_
        rintro e w1 ⟨vx, rfl, hrx, hbx⟩
        obtain ⟨Ax, cx, rfl⟩ := Kd.R_slice hrx
        have hxne : px ≠ [] := fun e => HNE.out (by rw [← HO.out, e]; rfl)
        have HX := Aside0.mk hrx
        obtain ⟨bx, eb, _⟩ := Kd.at_int (Kd.R_reads' HX.out).2.2 0 (by decide) (by have := List.length_pos_iff.mpr hxne; omega)
        cases eb
        have HXC : ∀ (j : Nat) (u : Value), (px.map (Value.int .u8))[j]? = some u → w1.cell? (bx.add j) = some u := fun j u hu => by
          have hj : j < px.length := by
            rcases Nat.lt_or_ge j px.length with h | h
            · exact h
            · rw [List.getElem?_eq_none (by simpa using h)] at hu; cases hu
          obtain ⟨b2, e2, hc⟩ := Kd.at_int (Kd.R_reads' HX.out).2.2 (j : Int) (by omega) (by omega)
          cases e2
          rw [Int.toNat_natCast, lay_rd px j hj] at hc
          rw [List.getElem?_map, List.getElem?_eq_getElem hj] at hu
          rw [hc]; exact hu
        have HXC := Aside0.mk HXC
        have HB1 := Aside0.mk hbx
        have HBOX1 := Aside0.mk (blk_below HBOX.out hbx)
        have HQ1 := Aside0.mk ((hbx.block q (blk_lt HQ.out)).trans HQ.out)
        clear hrx hbx hx hxne
        have hcz := blk_cell HBOX1.out 0
        have hfz := blk_frozen HBOX1.out 0
        go_wp2_with (first
          | (at_builtin; go_loud (refine wpList_append_grows _ rfl (.tmp 21) (.tmp 22) 22 rfl 5 i0 (.int .u8 0) 1 1 Try.underlying22 hi hz0 hz1 hz2 rfl (by decide) (some ⟨q, 0, none⟩) 4 4 [.int .u8 114, .int .u8 111, .int .u8 111, .int .u8 116] rfl (fun h => by cases h) rfl ?ho bx px.length cx (px.map (Value.int .u8)) rfl (by simp) HXC.out (by simp [Value.oneCell']) ?hf ?b1 ?b2 ?_; (case ho => exact fun b hb j u hu => by cases hb; exact lay_q HQ1.out j (by simpa using hu)); (case hf => have := List.length_pos_iff.mpr (fun e => HNE.out (by rw [← HO.out, e]; rfl) : px ≠ []); omega); (case b1 => have := HLIM.out; simp at this; unfold maxLen; omega); (case b2 => have := HLIM.out; simp at this; omega); intro v2 w2 hown hgr; have hown' : w2.ownsRow w1.heap.size 5 1 v2 out.length (out.map (Value.int .u8)) := (HO.out ▸ lay_app hown); have hR : Kd.R (Kd.int .u8) 5 w2 w1.heap.size (fun _ => True) v2 out := Kd.R_of_own hown' (fun _ _ => trivial); clear hown'; obtain ⟨A2, c2, rfl⟩ := Kd.R_slice hR; have HR2 := Aside0.mk hR; have HBX2 := Aside0.mk ((hgr.block g (blk_lt HBOX1.out) (by simp)).trans HBOX1.out); have HGR := Aside0.mk hgr; have hcz2 := blk_cell HBX2.out 0; have hfz2 := blk_frozen HBX2.out 0; clear hown hgr hR hcz hfz))
          | fail)
        have hR := HR2.out
        have hsz := HB1.out.size
        have hgl := blk_lt HBOX.out
        have hgl1 := blk_lt HBOX1.out
        refine ⟨.inr ⟨rfl, .slice A2 out.length c2, ⟨?_, ?_⟩, ?_, ?_, ?_⟩, by simp [intOf]⟩
        · rw [heap_setCell_same _ g 0 _ 22 _ HBX2.out]; rfl
        · refine Kd.R_far (p := ⟨g, 0, none⟩) (Kd.R_mono (Kd.R_lower (Kd.R_bound hR) (Nat.le_trans HBB.out (Nat.le_of_lt hgl1))) (fun p hp => ?_)) (fun _ hk => hk) _
          have := hp.2.1
          show p ≠ g
          omega
        · exact ((HB1.out.mono (Nat.le_trans HBB.out (Nat.le_of_lt hgl))).grown HGR.out (Nat.le_trans HBB.out (Nat.le_of_lt hgl1)) (fun k hk => by cases hk)).setCell (p := ⟨g, 0, none⟩) HBB.out _
        · intro p hp hpg
          rw [Below.heap_setCell _ ⟨g, 0, none⟩ _ p hpg, HGR.out.block p (by omega) (by simp), HB1.out.block p hp]
        · intro p hp
          exact Nat.le_trans hsz (Kd.R_base HR2.out p hp)
      · go_wp2
        go_end0
        exact ⟨rfl, v', hv⟩
  · rw [if_neg hlim] at h
    cases h
/-- Where root.Put stands between two layings. -/
structure PutS (w W : World) (gr g : Nat) (cs : Array Value) (v : Value) (b : List Int) : Prop where
  lay : LayS W g v b w.heap.size
  below : Below w.heap.size w W
  hg : w.heap.size ≤ g
  box : W.heap[gr]? = some (.cells cs 55 (0, 0))
  ne : gr ≠ g
  nv : some gr ≠ v.ownBlock
theorem PutS.move {w W W' : World} {gr g : Nat} {cs : Array Value} {v : Value} {b : List Int} (h : PutS w W gr g cs v b) (hb : Below W.heap.size W W') : PutS w W' gr g cs v b :=
  ⟨h.lay.below hb, below_step h.below hb, h.hg, blk_below h.box hb, h.ne, h.nv⟩
theorem PutS.step {w W W' : World} {gr g : Nat} {cs : Array Value} {v v' : Value} {b b' : List Int} (h : PutS w W gr g cs v b) (hs : LayS W' g v' b' w.heap.size) (hb : Below w.heap.size W W') (hk : KeepL W W' g v v') : PutS w W' gr g cs v' b' := by
  refine ⟨hs, h.below.trans hb, h.hg, ?_, h.ne, ?_⟩
  · rw [hk.block gr (blk_lt h.box) h.ne h.nv]; exact h.box
  · rcases hk.own with ho | ⟨q, ho, hq⟩
    · rw [ho]; exact h.nv
    · rw [ho]; intro e; injection e with e; have := blk_lt h.box; omega
/-- Numbers just made, as laying reads them. -/
theorem PutS.fresh {w W W' : World} {gr g : Nat} {cs : Array Value} {v : Value} {b : List Int} (h : PutS w W gr g cs v b) {A : Option Addr} {n c : Nat} {l : List Int} (hr : Kd.R (Kd.int .i64) 3 W' W.heap.size (fun _ => True) (.slice A n c) l) : Kd.F (Kd.int .i64) W' (fun q => q ≠ g ∧ some q ≠ v.ownBlock) A n l :=
  Kd.F_mono (Kd.R_F (Kd.R_bound hr)) (fun q hq => ⟨by have := blk_lt h.lay.box; have := hq.2.1; omega, fun e => by have := Kd.R_lt h.lay.row q e.symm; have := hq.2.1; omega⟩)
/-- Numbers that came in, as laying reads them. -/
theorem PutS.came {w W : World} {gr g : Nat} {cs : Array Value} {v : Value} {b : List Int} (h : PutS w W gr g cs v b) {A : Option Addr} {n : Nat} {l : List Int} (hr : Kd.C (Kd.int .i64) w A n l) : Kd.F (Kd.int .i64) W (fun q => q ≠ g ∧ some q ≠ v.ownBlock) A n l :=
  Kd.F_mono (Kd.F_step (Kd.C_F (Kd.heap_int _) hr) (fun q hq _ => h.below.block q hq)) (fun q hq => ⟨by have := h.hg; omega, fun e => by have := Kd.R_base h.lay.row q e.symm; omega⟩)
theorem PutS.start {w W : World} {gr g : Nat} {cs : Array Value} {v v0 : Value} {b : List Int} (hbox : W.heap[g]? = some (.cells #[v0] 22 (0, 0))) (hrow : Kd.R (Kd.int .u8) 5 W w.heap.size (fun q => q ≠ g) v b) (hbl : Below w.heap.size w W) (hg : w.heap.size ≤ g) (hr : W.heap[gr]? = some (.cells cs 55 (0, 0))) (ne : gr ≠ g) (nv : some gr ≠ v.ownBlock) : PutS w (W.setCell ⟨g, 0, none⟩ v) gr g cs v b := by
  refine ⟨⟨?_, Kd.R_far hrow (p := ⟨g, 0, none⟩) (fun _ hk => hk) _⟩, hbl.setCell (p := ⟨g, 0, none⟩) hg _, hg, ?_, ne, nv⟩
  · rw [heap_setCell_same _ g 0 _ 22 _ hbox]; rfl
  · rw [Below.heap_setCell W ⟨g, 0, none⟩ v gr ne]; exact hr
/-- Another row, made behind, is put into the box. -/
theorem PutS.swap {w W W1 : World} {gr g : Nat} {cs : Array Value} {v v1 : Value} {b b1 : List Int} (h : PutS w W gr g cs v b) (hr : Kd.R (Kd.int .u8) 5 W1 W.heap.size (fun _ => True) v1 b1) (hb : Below W.heap.size W W1) : PutS w (W1.setCell ⟨g, 0, none⟩ v1) gr g cs v1 b1 := by
  have hgl := blk_lt h.lay.box
  have hrl := blk_lt h.box
  refine PutS.start (blk_below h.lay.box hb) (Kd.R_mono (Kd.R_lower (Kd.R_bound hr) h.below.size) (fun q hq => ?_)) (below_step h.below hb) h.hg (blk_below h.box hb) h.ne (fun e => ?_)
  · have := hq.2.1; omega
  · have := Kd.R_base hr gr e.symm; omega
/-- The same ahead of the first laying: the constant's marked row. -/
structure PutM (w W : World) (gr g q : Nat) (cs : Array Value) : Prop where
  box : W.heap[g]? = some (.cells #[.slice (some ⟨q, 0, none⟩) 4 4] 22 (0, 0))
  row : W.heap[q]? = some (.cells #[.int .u8 114, .int .u8 111, .int .u8 111, .int .u8 116] 5 (4, 5))
  below : Below w.heap.size w W
  hg : w.heap.size ≤ g
  boxr : W.heap[gr]? = some (.cells cs 55 (0, 0))
  ne : gr ≠ g
  nq : g ≠ q
theorem PutM.start {w W : World} {gr g q : Nat} {cs : Array Value} {v0 : Value} (hbox : W.heap[g]? = some (.cells #[v0] 22 (0, 0))) (hq : W.heap[q]? = some (.cells #[.int .u8 114, .int .u8 111, .int .u8 111, .int .u8 116] 5 (4, 5))) (hbl : Below w.heap.size w W) (hg : w.heap.size ≤ g) (hr : W.heap[gr]? = some (.cells cs 55 (0, 0))) (ne : gr ≠ g) (nq : g ≠ q) : PutM w (W.setCell ⟨g, 0, none⟩ (.slice (some ⟨q, 0, none⟩) 4 4)) gr g q cs := by
  refine ⟨?_, ?_, hbl.setCell (p := ⟨g, 0, none⟩) hg _, hg, ?_, ne, nq⟩
  · rw [heap_setCell_same _ g 0 _ 22 _ hbox]; rfl
  · rw [Below.heap_setCell W ⟨g, 0, none⟩ _ q (Ne.symm nq)]; exact hq
  · rw [Below.heap_setCell W ⟨g, 0, none⟩ _ gr ne]; exact hr
theorem PutM.move {w W W' : World} {gr g q : Nat} {cs : Array Value} (h : PutM w W gr g q cs) (hb : Below W.heap.size W W') : PutM w W' gr g q cs :=
  ⟨blk_below h.box hb, (hb.block q (blk_lt h.row)).trans h.row, below_step h.below hb, h.hg, blk_below h.boxr hb, h.ne, h.nq⟩
theorem PutM.first {w W W' : World} {gr g q : Nat} {cs : Array Value} {v' : Value} {b' : List Int} (h : PutM w W gr g q cs) (hs : LayS W' g v' b' w.heap.size) (hb : Below w.heap.size W W') (hk : ∀ p, p < W.heap.size → p ≠ g → W'.heap[p]? = W.heap[p]?) (hv : ∀ p, v'.ownBlock = some p → W.heap.size ≤ p) : PutS w W' gr g cs v' b' := by
  have hl := blk_lt h.boxr
  refine ⟨hs, h.below.trans hb, h.hg, ?_, h.ne, fun e => ?_⟩
  · rw [hk gr hl h.ne]; exact h.boxr
  · have := hv gr e.symm; omega
/-- What root.Put tells. -/
def root_Put.f (k : Nat) (a0 a1 a2 a3 : Int) (l4 l5 : List Int) : Option (List Int × Int) :=
  (root_Check.f k a0 a1 a2 a3 l4 l5).bind fun t => if t = 0 then
    ((layF k 6 [114, 111, 111, 116] [a0]).bind fun b1 => if b1 = [114, 111, 111, 116] then none else (layF k 2 b1 [a1, a2, a3]).bind fun b2 => (layF k 1 b2 [(l4.length : Int), (l5.length : Int)]).bind fun b3 => (layF k 2 b3 l4).bind fun b4 => (layF k 2 b4 l5).bind fun b5 =>
      if b5.length ≤ 246 ∧ l4.length ≤ 1000000 ∧ l5.length ≤ 1000000 then ((sum_Seal.f k (b5 ++ List.replicate (246 - b5.length) 0)).bind fun s => (layF k 6 s [a0]).bind fun out => some (out, 0)) else none)
  else some ([], t)
theorem layF.mono (width : Int) : ∀ (l b : List Int) (k : Nat), LeO (layF k width b l) (layF (k + 1) width b l)
  | [], b, k => LeO.refl _
  | x :: r, b, k => by
    unfold layF
    refine LeO.bind (num_Put.mono _ _ _) (fun _ => ?_)
    refine LeO.ite ?_ (LeO.refl _)
    exact layF.mono width r _ k
theorem root_Put.mono : ∀ a0 a1 a2 a3 a4 a5 k, LeO (root_Put.f k a0 a1 a2 a3 a4 a5) (root_Put.f (k + 1) a0 a1 a2 a3 a4 a5) := by
  intro a0 a1 a2 a3 a4 a5 k
  unfold root_Put.f
  repeat' first
  | exact LeO.refl _
  | exact root_Check.mono _ _ _ _ _ _ _
  | exact layF.mono _ _ _ _
  | exact sum_Seal.mono _ _
  | refine LeO.ite ?_ ?_
  | refine LeO.bind ?_ (fun _ => ?_)
set_option maxHeartbeats 8000000 in
set_option maxRecDepth 100000 in
theorem root_Put.calls (k : Nat) (a0_0 a0_1 a0_2 a0_3 : Int) (A0_4 : Option Addr) (c0_4 : Nat) (l0_4 : List Int) (A0_5 : Option Addr) (c0_5 : Nat) (l0_5 : List Int) (r1 : List Int) (r2 : Int) (w : World) (hr0_4 : Kd.C (Kd.int .i64) w A0_4 l0_4.length l0_4) (hc0_4 : l0_4.length ≤ c0_4) (hr0_5 : Kd.C (Kd.int .i64) w A0_5 l0_5.length l0_5) (hc0_5 : l0_5.length ≤ c0_5) (h : root_Put.f k a0_0 a0_1 a0_2 a0_3 l0_4 l0_5 = some (r1, r2)) :
    Calls Try.prog 25 #[.agg #[.int .i64 a0_0, .int .i64 a0_1, .int .i64 a0_2, .int .i64 a0_3, .slice A0_4 l0_4.length c0_4, .slice A0_5 l0_5.length c0_5]] w fun e w' => ∃ v0_ : Value, e = .returned (.tuple #[v0_, .int .i64 r2]) ∧ Kd.R (Kd.int .u8) 5 w' w.heap.size (fun _ => True) v0_ r1 ∧ Below w.heap.size w w' := by
  unfold root_Put.f at h
  obtain ⟨t, ht, h⟩ := Option.bind_eq_some_iff.mp h
  have HR4 := Aside0.mk hr0_4
  have HC4 := Aside0.mk hc0_4
  have HR5 := Aside0.mk hr0_5
  have HC5 := Aside0.mk hc0_5
  have HT := Aside0.mk ht
  have H := Aside0.mk h
  have HB := Aside0.mk (Below.refl w.heap.size w)
  clear hr0_4 hc0_4 hr0_5 hc0_5 ht h
  go_enter Try.func25, Try.ntmps25
  go_wp2_with (first | ((with_reducible refine gate_dst (N := 1) rfl ?_); refine box_event ?hg (N := 1) ?hd (cs := #[.int .i64 a0_0, .int .i64 a0_1, .int .i64 a0_2, .int .i64 a0_3, .slice A0_4 l0_4.length c0_4, .slice A0_5 l0_5.length c0_5]) (t := 55) ?hr ?_; (case hd => rfl); (case hg => rfl); (case hr => first | (go_simp; done) | (go_simp; rfl)); intro gr hgr w1 hbox hb; have BK := Aside0.mk hbox; have HB1 := Aside0.mk (below_step HB.out hb); have HGR := Aside0.mk (hgr ▸ Nat.le_refl _ : w.heap.size ≤ gr); clear hb hbox hgr HB; have hc0 : w1.cell? ⟨gr, 0, none⟩ = some (.int .i64 a0_0) := (blk_cell BK.out 0).trans rfl; have hc1 : w1.cell? ⟨gr, 1, none⟩ = some (.int .i64 a0_1) := (blk_cell BK.out 1).trans rfl; have hc2 : w1.cell? ⟨gr, 2, none⟩ = some (.int .i64 a0_2) := (blk_cell BK.out 2).trans rfl; have hc3 : w1.cell? ⟨gr, 3, none⟩ = some (.int .i64 a0_3) := (blk_cell BK.out 3).trans rfl; have hc4 : w1.cell? ⟨gr, 4, none⟩ = some (.slice A0_4 l0_4.length c0_4) := (blk_cell BK.out 4).trans rfl; have hc5 : w1.cell? ⟨gr, 5, none⟩ = some (.slice A0_5 l0_5.length c0_5) := (blk_cell BK.out 5).trans rfl) | fail)
  go_at_call 27
  refine (root_Check.calls k a0_0 a0_1 a0_2 a0_3 (fun q => q < w.heap.size) A0_4 c0_4 l0_4 (fun q => q < w.heap.size) A0_5 c0_5 l0_5 t _ (Kd.V_mk HC4.out (Kd.F_step (Kd.C_F (Kd.heap_int _) HR4.out) (fun q hq _ => HB1.out.block q hq))) (Kd.V_mk HC5.out (Kd.F_step (Kd.C_F (Kd.heap_int _) HR5.out) (fun q hq _ => HB1.out.block q hq))) HT.out).mono ?_
  rintro e w2 ⟨rfl, hb⟩
  have BK2 := Aside0.mk (blk_below BK.out hb)
  have HB2 := Aside0.mk (below_step HB1.out hb)
  clear BK HB1 hb hc0 hc1 hc2 hc3 hc4 hc5
  by_cases ht0 : t = 0
  case neg =>
    have h := H.out
    rw [if_neg ht0] at h
    obtain ⟨rfl, rfl⟩ := Prod.mk.inj (Option.some.inj h)
    have b1 : (t != 0) = true := by simpa using ht0
    clear H h
    go_wp2
    go_ret2
    exact ⟨_, rfl, Kd.R_nil _ _ _ _ _, HB2.out⟩
  case pos =>
    subst ht0
    have h := H.out
    rw [if_pos rfl] at h
    clear H
    obtain ⟨b1, h1, h⟩ := Option.bind_eq_some_iff.mp h
    by_cases hb1 : b1 = [114, 111, 111, 116]
    case pos => rw [if_pos hb1] at h; cases h
    rw [if_neg hb1] at h
    obtain ⟨b2, h2, h⟩ := Option.bind_eq_some_iff.mp h
    obtain ⟨b3, h3, h⟩ := Option.bind_eq_some_iff.mp h
    obtain ⟨b4, h4, h⟩ := Option.bind_eq_some_iff.mp h
    obtain ⟨b5, h5, h⟩ := Option.bind_eq_some_iff.mp h
    by_cases hlim : b5.length ≤ 246 ∧ l0_4.length ≤ 1000000 ∧ l0_5.length ≤ 1000000
    case neg => rw [if_neg hlim] at h; cases h
    rw [if_pos hlim] at h
    obtain ⟨s, h6, h⟩ := Option.bind_eq_some_iff.mp h
    obtain ⟨out, h7, h⟩ := Option.bind_eq_some_iff.mp h
    obtain ⟨rfl, rfl⟩ := Prod.mk.inj (Option.some.inj h)
    have hz : ((0 : Int) != 0) = false := rfl
    have H1 := Aside0.mk h1
    have H2 := Aside0.mk h2
    have H3 := Aside0.mk h3
    have H4 := Aside0.mk h4
    have H5 := Aside0.mk h5
    have H6 := Aside0.mk h6
    have H7 := Aside0.mk h7
    have HL := Aside0.mk hlim
    clear h h1 h2 h3 h4 h5 h6 h7 hlim
    have kc := fun (w : World) (C : Array Value) (n c : Nat) => Lib.run_convert_bytes_const (P := Try.prog) w 22 5 C n c Try.underlying22 Try.underlying5
    go_wp2_with (first | ((with_reducible refine gate_dst (N := 5) rfl ?_); go_loud (refine box_event ?hg (N := 5) ?hd (cs := #[.slice none 0 0]) (t := 22) ?hr ?_; (case hd => rfl); (case hg => rfl); (case hr => first | (go_simp; done) | (go_simp; rfl)); intro g hg w4 hbox hb; have hg1 : w2.heap.size < g := (by have hg_ := hg; simp at hg_; omega); have hgr := blk_lt BK2.out; have HPM := Aside0.mk (PutM.start (w := w) (q := w2.heap.size) hbox ((hb.block _ (by simp)).trans (heap_alloc_new _ _)) (below_step (below_alloc HB2.out _) hb) (by have := HB2.out.size; omega) (blk_below (blk_alloc BK2.out _) hb) (show gr ≠ g by omega) (by omega)); have hz2 := blk_cell hbox 0; have hf2 := blk_frozen hbox 0; have hng : g ≠ gr := (by omega); have hng2 : gr ≠ g := (by omega); have BK4 := Aside0.mk (blk_below (blk_alloc BK2.out _) hb); have hc0 : w4.cell? ⟨gr, 0, none⟩ = some (.int .i64 a0_0) := (blk_cell BK4.out 0).trans rfl; have hc1 : w4.cell? ⟨gr, 1, none⟩ = some (.int .i64 a0_1) := (blk_cell BK4.out 1).trans rfl; have hc2 : w4.cell? ⟨gr, 2, none⟩ = some (.int .i64 a0_2) := (blk_cell BK4.out 2).trans rfl; have hc3 : w4.cell? ⟨gr, 3, none⟩ = some (.int .i64 a0_3) := (blk_cell BK4.out 3).trans rfl; have hc4 : w4.cell? ⟨gr, 4, none⟩ = some (.slice A0_4 l0_4.length c0_4) := (blk_cell BK4.out 4).trans rfl; have hc5 : w4.cell? ⟨gr, 5, none⟩ = some (.slice A0_5 l0_5.length c0_5) := (blk_cell BK4.out 5).trans rfl; clear hb hg hgr hg1 BK2 HB2 hbox BK4)) | ((with_reducible refine gate_dst (N := 18) rfl ?_); go_loud (refine Kd.R_lit (Kd.int .i64) _ 3 ?hg (N := 18) ?hd (xs := ([a0_0] : List Int)) (inner := [.int .i64 a0_0]) (ok := fun _ => True) (okp := fun _ => True) ?hr ?hp (fun _ hk => hk) trivial (Below.refl _ _) (Nat.le_refl _) (by simp) ?_; (case hd => rfl); (case hg => rfl); (case hr => first | (go_simp; done) | (go_simp; rfl)); (case hp => exact (Reps.one (show Kd.M (Kd.int .i64) _ _ _ (a0_0 : Int) [.int .i64 a0_0] from rfl) (Reps.none _ _))); intro v18 w18 ho hb hgx hnx; clear hgx hnx; obtain ⟨A18, c18, e18⟩ := Kd.R_slice ho; subst e18; have HGW := Aside0.mk (blk_lt HPM.out.box); have HPM1 := Aside0.mk (PutM.move HPM.out hb); have HO := Aside0.mk ho; clear ho hb HPM hz2 hf2 hc0 hc1 hc2 hc3 hc4 hc5)) | fail)
    clear hng hng2
    go_at_call 44
    refine (lay_first k g w2.heap.size w.heap.size 6 a0_0 A18 c18 b1 _ HPM1.out.box HPM1.out.row HPM1.out.hg HPM1.out.nq (Kd.F_mono (Kd.R_F (Kd.R_bound HO.out)) (fun p hp => by have := HGW.out; have := hp.2.1; omega)) H1.out hb1).mono ?_
    rintro e w5 ⟨rfl, v1, hs, hb, hk, hv⟩
    have HP1 := Aside0.mk (PutM.first HPM1.out hs hb hk hv)
    clear hs hb hk hv HPM1 HO HGW
    have hc0 : w5.cell? ⟨gr, 0, none⟩ = some (.int .i64 a0_0) := (blk_cell HP1.out.box 0).trans rfl
    have hc1 : w5.cell? ⟨gr, 1, none⟩ = some (.int .i64 a0_1) := (blk_cell HP1.out.box 1).trans rfl
    have hc2 : w5.cell? ⟨gr, 2, none⟩ = some (.int .i64 a0_2) := (blk_cell HP1.out.box 2).trans rfl
    have hc3 : w5.cell? ⟨gr, 3, none⟩ = some (.int .i64 a0_3) := (blk_cell HP1.out.box 3).trans rfl
    have hc4 : w5.cell? ⟨gr, 4, none⟩ = some (.slice A0_4 l0_4.length c0_4) := (blk_cell HP1.out.box 4).trans rfl
    have hc5 : w5.cell? ⟨gr, 5, none⟩ = some (.slice A0_5 l0_5.length c0_5) := (blk_cell HP1.out.box 5).trans rfl
    go_wp2_with (first | ((with_reducible refine gate_dst (N := 27) rfl ?_); go_loud (refine Kd.R_lit (Kd.int .i64) _ 3 ?hg (N := 27) ?hd (xs := ([a0_1, a0_2, a0_3] : List Int)) (inner := [.int .i64 a0_1, .int .i64 a0_2, .int .i64 a0_3]) (ok := fun _ => True) (okp := fun _ => True) ?hr ?hp (fun _ hk => hk) trivial (Below.refl _ _) (Nat.le_refl _) (by simp) ?_; (case hd => rfl); (case hg => rfl); (case hr => first | (go_simp; done) | (go_simp; rfl)); (case hp => exact (Reps.one (show Kd.M (Kd.int .i64) _ _ _ (a0_1 : Int) [.int .i64 a0_1] from rfl) (Reps.one (show Kd.M (Kd.int .i64) _ _ _ (a0_2 : Int) [.int .i64 a0_2] from rfl) (Reps.one (show Kd.M (Kd.int .i64) _ _ _ (a0_3 : Int) [.int .i64 a0_3] from rfl) (Reps.none _ _))))); intro v27 w27 ho hb hgx hnx; clear hgx hnx; obtain ⟨A27, c27, e27⟩ := Kd.R_slice ho; subst e27; have HPX := Aside0.mk (PutS.move HP1.out hb); have HF := Aside0.mk (PutS.fresh HP1.out ho); clear ho hb HP1; clear hc0 hc1 hc2 hc3 hc4 hc5)) | fail)
    go_at_call 44
    refine (lay_calls k g w.heap.size 2 A27 c27 [a0_1, a0_2, a0_3] b1 b2 v1 _ HPX.out.lay HPX.out.hg HF.out (by simp) H2.out).mono ?_
    rintro e w6 ⟨rfl, v2, hs, hb, hk⟩
    have HP2 := Aside0.mk (PutS.step HPX.out hs hb hk)
    clear hs hb hk HPX HF
    have hc0 : w6.cell? ⟨gr, 0, none⟩ = some (.int .i64 a0_0) := (blk_cell HP2.out.box 0).trans rfl
    have hc1 : w6.cell? ⟨gr, 1, none⟩ = some (.int .i64 a0_1) := (blk_cell HP2.out.box 1).trans rfl
    have hc2 : w6.cell? ⟨gr, 2, none⟩ = some (.int .i64 a0_2) := (blk_cell HP2.out.box 2).trans rfl
    have hc3 : w6.cell? ⟨gr, 3, none⟩ = some (.int .i64 a0_3) := (blk_cell HP2.out.box 3).trans rfl
    have hc4 : w6.cell? ⟨gr, 4, none⟩ = some (.slice A0_4 l0_4.length c0_4) := (blk_cell HP2.out.box 4).trans rfl
    have hc5 : w6.cell? ⟨gr, 5, none⟩ = some (.slice A0_5 l0_5.length c0_5) := (blk_cell HP2.out.box 5).trans rfl
    go_wp2_with (first | ((with_reducible refine gate_dst (N := 36) rfl ?_); go_loud (refine Kd.R_lit (Kd.int .i64) _ 3 ?hg (N := 36) ?hd (xs := ([(l0_4.length : Int), (l0_5.length : Int)] : List Int)) (inner := [.int .i64 (l0_4.length : Int), .int .i64 (l0_5.length : Int)]) (ok := fun _ => True) (okp := fun _ => True) ?hr ?hp (fun _ hk => hk) trivial (Below.refl _ _) (Nat.le_refl _) (by simp) ?_; (case hd => rfl); (case hg => rfl); (case hr => first | (go_simp; done) | (go_simp; rfl)); (case hp => exact (Reps.one (show Kd.M (Kd.int .i64) _ _ _ ((l0_4.length : Int) : Int) [.int .i64 (l0_4.length : Int)] from rfl) (Reps.one (show Kd.M (Kd.int .i64) _ _ _ ((l0_5.length : Int) : Int) [.int .i64 (l0_5.length : Int)] from rfl) (Reps.none _ _)))); intro v36 w36 ho hb hgx hnx; clear hgx hnx; obtain ⟨A36, c36, e36⟩ := Kd.R_slice ho; subst e36; have HPX := Aside0.mk (PutS.move HP2.out hb); have HF := Aside0.mk (PutS.fresh HP2.out ho); clear ho hb HP2; clear hc0 hc1 hc2 hc3 hc4 hc5)) | fail)
    go_at_call 44
    refine (lay_calls k g w.heap.size 1 A36 c36 [(l0_4.length : Int), (l0_5.length : Int)] b2 b3 v2 _ HPX.out.lay HPX.out.hg HF.out (by simp) H3.out).mono ?_
    rintro e w7 ⟨rfl, v3, hs, hb, hk⟩
    have HP3 := Aside0.mk (PutS.step HPX.out hs hb hk)
    clear hs hb hk HPX HF
    have hc0 : w7.cell? ⟨gr, 0, none⟩ = some (.int .i64 a0_0) := (blk_cell HP3.out.box 0).trans rfl
    have hc1 : w7.cell? ⟨gr, 1, none⟩ = some (.int .i64 a0_1) := (blk_cell HP3.out.box 1).trans rfl
    have hc2 : w7.cell? ⟨gr, 2, none⟩ = some (.int .i64 a0_2) := (blk_cell HP3.out.box 2).trans rfl
    have hc3 : w7.cell? ⟨gr, 3, none⟩ = some (.int .i64 a0_3) := (blk_cell HP3.out.box 3).trans rfl
    have hc4 : w7.cell? ⟨gr, 4, none⟩ = some (.slice A0_4 l0_4.length c0_4) := (blk_cell HP3.out.box 4).trans rfl
    have hc5 : w7.cell? ⟨gr, 5, none⟩ = some (.slice A0_5 l0_5.length c0_5) := (blk_cell HP3.out.box 5).trans rfl
    go_wp2_with fail
    go_at_call 44
    refine (lay_calls k g w.heap.size 2 A0_4 c0_4 l0_4 b3 b4 v3 _ HP3.out.lay HP3.out.hg (PutS.came HP3.out HR4.out) HL.out.2.1 H4.out).mono ?_
    rintro e w8 ⟨rfl, v4, hs, hb, hk⟩
    have HP4 := Aside0.mk (PutS.step HP3.out hs hb hk)
    clear hs hb hk HP3
    clear hc0 hc1 hc2 hc3 hc4 hc5
    have hc0 : w8.cell? ⟨gr, 0, none⟩ = some (.int .i64 a0_0) := (blk_cell HP4.out.box 0).trans rfl
    have hc1 : w8.cell? ⟨gr, 1, none⟩ = some (.int .i64 a0_1) := (blk_cell HP4.out.box 1).trans rfl
    have hc2 : w8.cell? ⟨gr, 2, none⟩ = some (.int .i64 a0_2) := (blk_cell HP4.out.box 2).trans rfl
    have hc3 : w8.cell? ⟨gr, 3, none⟩ = some (.int .i64 a0_3) := (blk_cell HP4.out.box 3).trans rfl
    have hc4 : w8.cell? ⟨gr, 4, none⟩ = some (.slice A0_4 l0_4.length c0_4) := (blk_cell HP4.out.box 4).trans rfl
    have hc5 : w8.cell? ⟨gr, 5, none⟩ = some (.slice A0_5 l0_5.length c0_5) := (blk_cell HP4.out.box 5).trans rfl
    go_wp2_with fail
    go_at_call 44
    refine (lay_calls k g w.heap.size 2 A0_5 c0_5 l0_5 b4 b5 v4 _ HP4.out.lay HP4.out.hg (PutS.came HP4.out HR5.out) HL.out.2.2 H5.out).mono ?_
    rintro e w9 ⟨rfl, v5, hs, hb, hk⟩
    have HP5 := Aside0.mk (PutS.step HP4.out hs hb hk)
    clear hs hb hk HP4
    clear hc0 hc1 hc2 hc3 hc4 hc5
    obtain ⟨A5, c5, e5⟩ := Kd.R_slice HP5.out.lay.row
    subst e5
    have hcz := blk_cell HP5.out.lay.box 0
    have hfz := blk_frozen HP5.out.lay.box 0
    have hl5 := HL.out.1
    have ez : wrap64 (246 - (b5.length : Int)) = 246 - (b5.length : Int) := by unfold wrap64; omega
    have ez2 : (246 - (b5.length : Int)).toNat = 246 - b5.length := by omega
    go_wp2_with (first | (at_builtin; go_loud (refine Kd.R_append_zeros (Kd.int .u8) (w0 := w) w.heap.size rfl (.tmp 46) (.tmp 49) 22 3 5 (.int .u8 0) 1 rfl Try.underlying22 Try.underlying3 infoU8 rfl (by decide) (by omega) (.slice A5 b5.length c5) b5 0 (246 - (b5.length : Int)) (fun q => q ≠ g) rfl rfl rfl (fun q hq => by have := blk_lt HP5.out.lay.box; omega) HP5.out.lay.row (by omega) HP5.out.below HP5.out.below.size (by rw [ez2]; omega) ?_; intro v6 w10 ho hb hg hat; rw [ez2] at ho; obtain ⟨z, hz6⟩ : ∃ z, z = b5 ++ List.replicate (246 - b5.length) 0 := ⟨_, rfl⟩; rw [← hz6] at ho; have Z := Aside0.mk hz6; clear hz6; obtain ⟨A6, c6, e6⟩ := Kd.R_slice ho; subst e6; have hL := lay_step HP5.out.lay ho hg hat; have HP6 := Aside0.mk (PutS.step HP5.out hL.1 (Below.setCell (p := ⟨g, 0, none⟩) (Below.grown (Below.refl w.heap.size _) hg HP5.out.below.size (fun k hk => Kd.R_base HP5.out.lay.row k hk)) HP5.out.hg _) hL.2.1); have hcz2 := blk_cell hL.2.2 0; have hfz2 := blk_frozen hL.2.2 0; clear ho hb hg hat hL hcz hfz HP5)) | fail)
    go_at_call 34
    refine (sum_Seal.calls k A6 c6 z s _ (Kd.R_reads' HP6.out.lay.row).2.2 (Kd.R_reads' HP6.out.lay.row).2.1 (by rw [Z.out]; exact H6.out)).mono ?_
    rintro e w11 ⟨vs, rfl, hrs, hbs⟩
    obtain ⟨A7, c7, e7⟩ := Kd.R_slice hrs
    subst e7
    have HP7 := Aside0.mk (PutS.swap HP6.out hrs hbs)
    have hb7 := blk_below HP6.out.lay.box hbs
    have hr7 := blk_below HP6.out.box hbs
    have hne7 := HP6.out.ne
    have hng : g ≠ gr := fun e => hne7 e.symm
    have hcz3 := blk_cell hb7 0
    have hfz3 := blk_frozen hb7 0
    clear hrs hbs HP6 hcz2 hfz2
    have hc0 : w11.cell? ⟨gr, 0, none⟩ = some (.int .i64 a0_0) := (blk_cell hr7 0).trans rfl
    have hc1 : w11.cell? ⟨gr, 1, none⟩ = some (.int .i64 a0_1) := (blk_cell hr7 1).trans rfl
    have hc2 : w11.cell? ⟨gr, 2, none⟩ = some (.int .i64 a0_2) := (blk_cell hr7 2).trans rfl
    have hc3 : w11.cell? ⟨gr, 3, none⟩ = some (.int .i64 a0_3) := (blk_cell hr7 3).trans rfl
    have hc4 : w11.cell? ⟨gr, 4, none⟩ = some (.slice A0_4 l0_4.length c0_4) := (blk_cell hr7 4).trans rfl
    have hc5 : w11.cell? ⟨gr, 5, none⟩ = some (.slice A0_5 l0_5.length c0_5) := (blk_cell hr7 5).trans rfl
    clear hb7 hr7
    go_wp2_with (first | ((with_reducible refine gate_dst (N := 56) rfl ?_); go_loud (refine Kd.R_lit (Kd.int .i64) _ 3 ?hg (N := 56) ?hd (xs := ([a0_0] : List Int)) (inner := [.int .i64 a0_0]) (ok := fun _ => True) (okp := fun _ => True) ?hr ?hp (fun _ hk => hk) trivial (Below.refl _ _) (Nat.le_refl _) (by simp) ?_; (case hd => rfl); (case hg => rfl); (case hr => first | (go_simp; done) | (go_simp; rfl)); (case hp => exact (Reps.one (show Kd.M (Kd.int .i64) _ _ _ (a0_0 : Int) [.int .i64 a0_0] from rfl) (Reps.none _ _))); intro v56 w56 ho hb hgx hnx; clear hgx hnx; obtain ⟨A56, c56, e56⟩ := Kd.R_slice ho; subst e56; have HPX := Aside0.mk (PutS.move HP7.out hb); have HF := Aside0.mk (PutS.fresh HP7.out ho); clear ho hb HP7 hcz3 hfz3 hng hne7; clear hc0 hc1 hc2 hc3 hc4 hc5)) | fail)
    go_at_call 44
    refine (lay_calls k g w.heap.size 6 A56 c56 [a0_0] s out _ _ HPX.out.lay HPX.out.hg HF.out (by simp) H7.out).mono ?_
    rintro e w12 ⟨rfl, v8, hs, hb, hk⟩
    have HP8 := Aside0.mk (PutS.step HPX.out hs hb hk)
    have hcz4 := blk_cell HP8.out.lay.box 0
    clear hs hb hk HPX HF
    go_wp2
    go_ret2
    exact ⟨_, rfl, Kd.R_mono HP8.out.lay.row (fun _ _ => trivial), HP8.out.below⟩

/-! ### slices_Equal_int_int: function 50 -/
def slices_Equal_int_int.l0 : Nat → List Int → List Int → Int → Int → Option (Bool)
  | 0, _, _, _, _ => none
  | k + 1, x0, x1, x12, x13 => if x13 < x12 then (if 0 ≤ x13 then (if x13 < (x0.length : Int) then (if x13 < (x1.length : Int) then (if (rd x0 x13) = (rd x1 x13) then (slices_Equal_int_int.l0 k x0 x1 x12 (wrap64 (x13 + 1))) else (some false)) else (none)) else (none)) else (none)) else (some true)
def slices_Equal_int_int.f (k : Nat) (l0 : List Int) (l1 : List Int) : Option (Bool) := if (l0.length : Int) = (l1.length : Int) then (slices_Equal_int_int.l0 k l0 l1 (l0.length : Int) 0) else (some false)
theorem slices_Equal_int_int.mono_l : ∀ k, (∀ y0 y1 y2 y3, LeO (slices_Equal_int_int.l0 k y0 y1 y2 y3) (slices_Equal_int_int.l0 (k + 1) y0 y1 y2 y3))
  | 0 => fun _ _ _ _ r h => by simp [slices_Equal_int_int.l0] at h
  | k + 1 => by
    have ih0 := slices_Equal_int_int.mono_l k
    · intro y0 y1 y2 y3
      unfold slices_Equal_int_int.l0
      repeat' first
      | (with_reducible exact ih0 _ _ _ _)
      | (with_reducible exact LeO.refl _)
      | (with_reducible exact LeO.none _)
      | (with_reducible refine LeO.ite ?_ ?_)
      | (with_reducible refine LeO.bind ?_ (fun _ => ?_))
      | exact ih0 _ _ _ _
      | exact LeO.none _
      | refine LeO.ite ?_ ?_
      | refine LeO.bind ?_ (fun _ => ?_)
theorem slices_Equal_int_int.mono : ∀ a0 a1 k, LeO (slices_Equal_int_int.f k a0 a1) (slices_Equal_int_int.f (k + 1) a0 a1) := by
  intro a0 a1 k
  have ih0 := slices_Equal_int_int.mono_l k
  unfold slices_Equal_int_int.f
  repeat' first
      | (with_reducible exact ih0 _ _ _ _)
      | (with_reducible exact LeO.refl _)
      | (with_reducible exact LeO.none _)
      | (with_reducible refine LeO.ite ?_ ?_)
      | (with_reducible refine LeO.bind ?_ (fun _ => ?_))
      | exact ih0 _ _ _ _
      | exact LeO.none _
      | refine LeO.ite ?_ ?_
      | refine LeO.bind ?_ (fun _ => ?_)
set_option maxHeartbeats 8000000 in
set_option maxRecDepth 100000 in
theorem slices_Equal_int_int.calls (k : Nat) (A0 : Option Addr) (c0 : Nat) (l0 : List Int) (A1 : Option Addr) (c1 : Nat) (l1 : List Int) (r : Bool) (w : World) (hr0 : Kd.C (Kd.int .i64) w A0 l0.length l0) (hc0 : l0.length ≤ c0) (hr1 : Kd.C (Kd.int .i64) w A1 l1.length l1) (hc1 : l1.length ≤ c1) (h : slices_Equal_int_int.f k l0 l1 = some r) :
    Calls Try.prog 50 #[.slice A0 l0.length c0, .slice A1 l1.length c1] w fun e w' => e = .returned (.bool r) ∧ Drawn0 w w' := by
  have HR0 := Aside0.mk hr0
  have HC0 := Aside0.mk hc0
  clear hr0 hc0
  have HR1 := Aside0.mk hr1
  have HC1 := Aside0.mk hc1
  clear hr1 hc1
  have H : (if (l0.length : Int) = (l1.length : Int) then (slices_Equal_int_int.l0 k l0 l1 (l0.length : Int) 0) else (some false)) = some r := h
  clear h
  by_cases c3 : (l0.length : Int) = (l1.length : Int)
  · rw [if_pos c3] at H
    have c3b0 : ((l0.length : Int) == (l1.length : Int)) = true := beq_iff_eq.mpr c3
    have c3b1 : ((l0.length : Int) != (l1.length : Int)) = false := bne_eq_false_iff_eq.mpr c3
    have c3b2 : (l0.length == l1.length) = true := by first | simpa using c3 | (simp at c3 ⊢; omega)
    clear c3
    have H' := Aside0.mk H
    clear H
    go_enter Try.func50, Try.ntmps50
    go_wp2
    repeat (go_quiet (fail); try go_wp2)
    go_loopg [13] k (fun kq v13 w' => ∃ (x13_1 : Int), v13 = .int .i64 x13_1 ∧ Aside0 (slices_Equal_int_int.l0 kq l0 l1 (l0.length : Int) x13_1 = some r) ∧ Aside0 (kq ≤ k) ∧ Drawn0 w w')
    case atStart => exact ⟨(0), (by first | rfl | (simp; done) | (simp [*]; done)), H', ⟨Nat.le_refl _⟩, by repeat (first | exact Drawn0.refl _ | apply Drawn0.step)⟩
    case round =>
      clear H'
      try clear c1
      try clear p2
      try clear c3
      try clear c3b0
      try clear c3b1
      try clear c3b2
      obtain ⟨x13_1, rfl, HA, HK1, ⟨m1, rfl⟩⟩ := hrel
      cases gk with
      | zero => exact absurd HA.out (by simp [slices_Equal_int_int.l0])
      | succ k1 =>
        have H := HA.out
        clear HA
        simp only [slices_Equal_int_int.l0] at H
        by_cases c4 : x13_1 < (l0.length : Int)
        · rw [if_pos c4] at H
          have c4b0 : decide (x13_1 < (l0.length : Int)) = true := decide_eq_true c4
          clear c4
          by_cases c5 : 0 ≤ x13_1
          · rw [if_pos c5] at H
            have c5b0 : decide (0 ≤ x13_1) = true := decide_eq_true c5
            clear c5
            by_cases c6 : x13_1 < (l0.length : Int)
            · rw [if_pos c6] at H
              have c6b0 : decide (x13_1 < (l0.length : Int)) = true := decide_eq_true c6
              clear c6
              by_cases c7 : x13_1 < (l1.length : Int)
              · rw [if_pos c7] at H
                have c7b0 : decide (x13_1 < (l1.length : Int)) = true := decide_eq_true c7
                clear c7
                by_cases c8 : (rd l0 x13_1) = (rd l1 x13_1)
                · rw [if_pos c8] at H
                  have c8b0 : ((rd l0 x13_1) == (rd l1 x13_1)) = true := beq_iff_eq.mpr c8
                  have c8b1 : ((rd l0 x13_1) != (rd l1 x13_1)) = false := bne_eq_false_iff_eq.mpr c8
                  clear c8
                  have H' := Aside0.mk H
                  clear H
                  have p146 : 0 ≤ (x13_1 : Int) := of_decide_eq_true (by first | (with_reducible assumption) | assumption)
                  have q146 : x13_1 < (l0.length : Int) := of_decide_eq_true (by first | (with_reducible assumption) | assumption)
                  obtain ⟨ad146, e146, hx146_0⟩ := Kd.at_int HR0.out x13_1 p146 q146
                  cases e146
                  replace p146 := eq_true p146
                  replace q146 := eq_true q146
                  have p147 : 0 ≤ (x13_1 : Int) := of_decide_eq_true (by first | (with_reducible assumption) | assumption)
                  have q147 : x13_1 < (l1.length : Int) := of_decide_eq_true (by first | (with_reducible assumption) | assumption)
                  obtain ⟨ad147, e147, hx147_0⟩ := Kd.at_int HR1.out x13_1 p147 q147
                  cases e147
                  replace p147 := eq_true p147
                  replace q147 := eq_true q147
                  go_wp2
                  repeat (go_quiet (fail); try go_wp2)
                  go_roundg k1
                  case measure => have := HK1.out; omega
                  case rel => exact ⟨(wrap64 (x13_1 + 1)), (by first | rfl | (simp; done) | (simp [*]; done)), H', ⟨by have := HK1.out; omega⟩, by repeat (first | exact Drawn0.refl _ | apply Drawn0.step)⟩
                · rw [if_neg c8] at H
                  have c8b0 : ((rd l0 x13_1) == (rd l1 x13_1)) = false := beq_eq_false_iff_ne.mpr c8
                  have c8b1 : ((rd l0 x13_1) != (rd l1 x13_1)) = true := bne_iff_ne.mpr c8
                  obtain rfl := Option.some.inj H
                  have p146 : 0 ≤ (x13_1 : Int) := of_decide_eq_true (by first | (with_reducible assumption) | assumption)
                  have q146 : x13_1 < (l0.length : Int) := of_decide_eq_true (by first | (with_reducible assumption) | assumption)
                  obtain ⟨ad146, e146, hx146_0⟩ := Kd.at_int HR0.out x13_1 p146 q146
                  cases e146
                  replace p146 := eq_true p146
                  replace q146 := eq_true q146
                  have p147 : 0 ≤ (x13_1 : Int) := of_decide_eq_true (by first | (with_reducible assumption) | assumption)
                  have q147 : x13_1 < (l1.length : Int) := of_decide_eq_true (by first | (with_reducible assumption) | assumption)
                  obtain ⟨ad147, e147, hx147_0⟩ := Kd.at_int HR1.out x13_1 p147 q147
                  cases e147
                  replace p147 := eq_true p147
                  replace q147 := eq_true q147
                  go_wp2
                  repeat (go_quiet (fail); try go_wp2)
                  go_ret
                  exact ⟨by first | rfl | (simp; done) | (simp [*]; done), by repeat (first | exact Drawn0.refl _ | apply Drawn0.step)⟩
              · rw [if_neg c7] at H
                exact absurd H (by simp)
            · rw [if_neg c6] at H
              exact absurd H (by simp)
          · rw [if_neg c5] at H
            exact absurd H (by simp)
        · rw [if_neg c4] at H
          have c4b0 : decide (x13_1 < (l0.length : Int)) = false := decide_eq_false c4
          clear c4
          obtain rfl := Option.some.inj H
          go_wp2
          repeat (go_quiet (fail); try go_wp2)
          go_ret
          exact ⟨by first | rfl | (simp; done) | (simp [*]; done), by repeat (first | exact Drawn0.refl _ | apply Drawn0.step)⟩
  · rw [if_neg c3] at H
    have c3b0 : ((l0.length : Int) == (l1.length : Int)) = false := beq_eq_false_iff_ne.mpr c3
    have c3b1 : ((l0.length : Int) != (l1.length : Int)) = true := bne_iff_ne.mpr c3
    have c3b2 : (l0.length == l1.length) = false := by first | simpa using c3 | (simp at c3 ⊢; omega)
    obtain rfl := Option.some.inj H
    go_enter Try.func50, Try.ntmps50
    go_wp2
    repeat (go_quiet (fail); try go_wp2)
    go_ret
    exact ⟨by first | rfl | (simp; done) | (simp [*]; done), by repeat (first | exact Drawn0.refl _ | apply Drawn0.step)⟩

/-! ### root_Same: function 28 -/
def root_Same.f (k : Nat) (a0_0 : Int) (a0_1 : Int) (a0_2 : Int) (a0_3 : Int) (l0_4 : List Int) (l0_5 : List Int) (a1_0 : Int) (a1_1 : Int) (a1_2 : Int) (a1_3 : Int) (l1_4 : List Int) (l1_5 : List Int) : Option (Bool) := if a0_0 = a1_0 then (if a0_1 = a1_1 then (if a0_2 = a1_2 then (if a0_3 = a1_3 then ((slices_Equal_int_int.f k l0_4 l1_4).bind fun t150 => (if t150 = true then ((slices_Equal_int_int.f k l0_5 l1_5).bind fun t151 => (some t151)) else (some false))) else (some false)) else (some false)) else (some false)) else (some false)
theorem root_Same.mono : ∀ a0 a1 a2 a3 a4 a5 a6 a7 a8 a9 a10 a11 k, LeO (root_Same.f k a0 a1 a2 a3 a4 a5 a6 a7 a8 a9 a10 a11) (root_Same.f (k + 1) a0 a1 a2 a3 a4 a5 a6 a7 a8 a9 a10 a11) := by
  intro a0 a1 a2 a3 a4 a5 a6 a7 a8 a9 a10 a11 k
  unfold root_Same.f
  repeat' first
      | (with_reducible exact slices_Equal_int_int.mono _ _ _)
      | (with_reducible exact LeO.refl _)
      | (with_reducible exact LeO.none _)
      | (with_reducible refine LeO.ite ?_ ?_)
      | (with_reducible refine LeO.bind ?_ (fun _ => ?_))
      | exact slices_Equal_int_int.mono _ _ _
      | exact LeO.none _
      | refine LeO.ite ?_ ?_
      | refine LeO.bind ?_ (fun _ => ?_)
set_option maxHeartbeats 8000000 in
set_option maxRecDepth 100000 in
theorem root_Same.calls (k : Nat) (a0_0 : Int) (a0_1 : Int) (a0_2 : Int) (a0_3 : Int) (A0_4 : Option Addr) (c0_4 : Nat) (l0_4 : List Int) (A0_5 : Option Addr) (c0_5 : Nat) (l0_5 : List Int) (a1_0 : Int) (a1_1 : Int) (a1_2 : Int) (a1_3 : Int) (A1_4 : Option Addr) (c1_4 : Nat) (l1_4 : List Int) (A1_5 : Option Addr) (c1_5 : Nat) (l1_5 : List Int) (r : Bool) (w : World) (hr0_4 : Kd.C (Kd.int .i64) w A0_4 l0_4.length l0_4) (hc0_4 : l0_4.length ≤ c0_4) (hr0_5 : Kd.C (Kd.int .i64) w A0_5 l0_5.length l0_5) (hc0_5 : l0_5.length ≤ c0_5) (hr1_4 : Kd.C (Kd.int .i64) w A1_4 l1_4.length l1_4) (hc1_4 : l1_4.length ≤ c1_4) (hr1_5 : Kd.C (Kd.int .i64) w A1_5 l1_5.length l1_5) (hc1_5 : l1_5.length ≤ c1_5) (h : root_Same.f k a0_0 a0_1 a0_2 a0_3 l0_4 l0_5 a1_0 a1_1 a1_2 a1_3 l1_4 l1_5 = some r) :
    Calls Try.prog 28 #[.agg #[.int .i64 a0_0, .int .i64 a0_1, .int .i64 a0_2, .int .i64 a0_3, .slice A0_4 l0_4.length c0_4, .slice A0_5 l0_5.length c0_5], .agg #[.int .i64 a1_0, .int .i64 a1_1, .int .i64 a1_2, .int .i64 a1_3, .slice A1_4 l1_4.length c1_4, .slice A1_5 l1_5.length c1_5]] w fun e w' => e = .returned (.bool r) ∧ Below w.heap.size w w' := by
  have hu55 := Try.underlying55
  have HR0_4 := Aside0.mk hr0_4
  have HC0_4 := Aside0.mk hc0_4
  clear hr0_4 hc0_4
  have HR0_5 := Aside0.mk hr0_5
  have HC0_5 := Aside0.mk hc0_5
  clear hr0_5 hc0_5
  have HR1_4 := Aside0.mk hr1_4
  have HC1_4 := Aside0.mk hc1_4
  clear hr1_4 hc1_4
  have HR1_5 := Aside0.mk hr1_5
  have HC1_5 := Aside0.mk hc1_5
  clear hr1_5 hc1_5
  have HB := Aside0.mk (Below.refl w.heap.size w)
  have H : (if a0_0 = a1_0 then (if a0_1 = a1_1 then (if a0_2 = a1_2 then (if a0_3 = a1_3 then ((slices_Equal_int_int.f k l0_4 l1_4).bind fun t150 => (if t150 = true then ((slices_Equal_int_int.f k l0_5 l1_5).bind fun t151 => (some t151)) else (some false))) else (some false)) else (some false)) else (some false)) else (some false)) = some r := h
  clear h
  by_cases c3 : a0_0 = a1_0
  · rw [if_pos c3] at H
    have c3b0 : (a0_0 == a1_0) = true := beq_iff_eq.mpr c3
    have c3b1 : (a0_0 != a1_0) = false := bne_eq_false_iff_eq.mpr c3
    clear c3
    by_cases c4 : a0_1 = a1_1
    · rw [if_pos c4] at H
      have c4b0 : (a0_1 == a1_1) = true := beq_iff_eq.mpr c4
      have c4b1 : (a0_1 != a1_1) = false := bne_eq_false_iff_eq.mpr c4
      clear c4
      by_cases c5 : a0_2 = a1_2
      · rw [if_pos c5] at H
        have c5b0 : (a0_2 == a1_2) = true := beq_iff_eq.mpr c5
        have c5b1 : (a0_2 != a1_2) = false := bne_eq_false_iff_eq.mpr c5
        clear c5
        by_cases c6 : a0_3 = a1_3
        · rw [if_pos c6] at H
          have c6b0 : (a0_3 == a1_3) = true := beq_iff_eq.mpr c6
          have c6b1 : (a0_3 != a1_3) = false := bne_eq_false_iff_eq.mpr c6
          clear c6
          replace H := Option.bind_eq_some_iff.mp H
          obtain ⟨t150, A70, H⟩ := H
          replace H : (if t150 = true then ((slices_Equal_int_int.f k l0_5 l1_5).bind fun t151 => (some t151)) else (some false)) = some r := H
          have A7 := Aside0.mk A70
          clear A70
          by_cases c8 : t150 = true
          · subst c8
            have H1 : ((slices_Equal_int_int.f k l0_5 l1_5).bind fun t151 => (some t151)) = some r := by rw [if_pos rfl] at H; exact H
            clear H
            have H := H1
            clear H1
            replace H := Option.bind_eq_some_iff.mp H
            obtain ⟨t151, A90, H⟩ := H
            replace H : (some t151) = some r := H
            have A9 := Aside0.mk A90
            clear A90
            obtain rfl := Option.some.inj H
            go_enter Try.func28, Try.ntmps28
            go_wp2_with (first | ((with_reducible refine gate_dst (N := 2) rfl ?_); refine box_event ?hg (N := 2) ?hd (cs := #[.int .i64 a0_0, .int .i64 a0_1, .int .i64 a0_2, .int .i64 a0_3, .slice A0_4 l0_4.length c0_4, .slice A0_5 l0_5.length c0_5]) (t := 55) ?hr ?_; (case hd => rfl); (case hg => rfl); (case hr => first | (go_simp; done) | (go_simp; rfl)); intro gb148 hg w10 hbox hb; have n0_ := Aside0.mk (below_step (by repeat (first | (with_reducible first | exact HB.out | apply below_alloc | apply pw_below_drewN | apply below_drew1) | exact HB.out)) hb); have n1_ := Aside0.mk (hbox); have n2_ := Aside0.mk ((by rw [hg]; exact (below_size (by repeat (first | (with_reducible first | exact HB.out | apply below_alloc | apply pw_below_drewN | apply below_drew1) | exact HB.out))) : w.heap.size ≤ gb148)); have n3_ := Aside0.mk ((by rw [hg]; exact (below_size (by repeat (first | (with_reducible first | exact HB.out | apply below_alloc | apply pw_below_drewN | apply below_drew1) | exact HB.out))) : w.heap.size ≤ gb148)); clear HB; have HB := n0_; have BK148 := n1_; have GW148 := n2_; have GE148 := n3_; clear n0_ n1_ n2_ n3_; clear hb hbox hg) | ((with_reducible refine gate_dst (N := 3) rfl ?_); refine box_event ?hg (N := 3) ?hd (cs := #[.int .i64 a1_0, .int .i64 a1_1, .int .i64 a1_2, .int .i64 a1_3, .slice A1_4 l1_4.length c1_4, .slice A1_5 l1_5.length c1_5]) (t := 55) ?hr ?_; (case hd => rfl); (case hg => rfl); (case hr => first | (go_simp; done) | (go_simp; rfl)); intro gb149 hg w11 hbox hb; have n0_ := Aside0.mk (blk_below (g := gb148) (o := .cells #[.int .i64 a0_0, .int .i64 a0_1, .int .i64 a0_2, .int .i64 a0_3, .slice A0_4 l0_4.length c0_4, .slice A0_5 l0_5.length c0_5] 55 (0, 0)) (by (with_reducible repeat (first | refine blk_drewN ?_ _ | refine blk_drew ?_ | refine blk_alloc ?_ _)); exact BK148.out) hb); have n1_ := Aside0.mk (below_step (by repeat (first | (with_reducible first | exact HB.out | apply below_alloc | apply pw_below_drewN | apply below_drew1 | refine below_set ?_ GE148.out) | exact HB.out)) hb); have n2_ := Aside0.mk (hbox); have n3_ := Aside0.mk ((by rw [hg]; exact (below_size (by repeat (first | (with_reducible first | exact HB.out | apply below_alloc | apply pw_below_drewN | apply below_drew1 | refine below_set ?_ GE148.out) | exact HB.out))) : w.heap.size ≤ gb149)); have n4_ := Aside0.mk ((by rw [hg]; exact (below_size (by repeat (first | (with_reducible first | exact HB.out | apply below_alloc | apply pw_below_drewN | apply below_drew1 | refine below_set ?_ GE148.out) | exact HB.out))) : w.heap.size ≤ gb149)); have n5_ := Aside0.mk ((by rw [hg]; exact Nat.ne_of_lt (blk_lt (g := gb148) (o := .cells #[.int .i64 a0_0, .int .i64 a0_1, .int .i64 a0_2, .int .i64 a0_3, .slice A0_4 l0_4.length c0_4, .slice A0_5 l0_5.length c0_5] 55 (0, 0)) (by (with_reducible repeat (first | refine blk_drewN ?_ _ | refine blk_drew ?_ | refine blk_alloc ?_ _)); exact BK148.out)) : gb148 ≠ gb149)); have n6_ := Aside0.mk ((by rw [hg]; exact Nat.ne_of_gt (blk_lt (g := gb148) (o := .cells #[.int .i64 a0_0, .int .i64 a0_1, .int .i64 a0_2, .int .i64 a0_3, .slice A0_4 l0_4.length c0_4, .slice A0_5 l0_5.length c0_5] 55 (0, 0)) (by (with_reducible repeat (first | refine blk_drewN ?_ _ | refine blk_drew ?_ | refine blk_alloc ?_ _)); exact BK148.out)) : gb149 ≠ gb148)); clear BK148; clear HB; have BK148 := n0_; have HB := n1_; have BK149 := n2_; have GW149 := n3_; have GE149 := n4_; have NB148_149 := n5_; have NB149_148 := n6_; clear n0_ n1_ n2_ n3_ n4_ n5_ n6_; clear hb hbox hg; have hnb12 := NB148_149.out; have hnc12 := NB149_148.out; have hcz13_0 : w11.cell? ⟨gb148, 0, none⟩ = some (.int .i64 a0_0) := (blk_cell BK148.out 0).trans rfl; have hcz13_1 : w11.cell? ⟨gb148, 1, none⟩ = some (.int .i64 a0_1) := (blk_cell BK148.out 1).trans rfl; have hcz13_2 : w11.cell? ⟨gb148, 2, none⟩ = some (.int .i64 a0_2) := (blk_cell BK148.out 2).trans rfl; have hcz13_3 : w11.cell? ⟨gb148, 3, none⟩ = some (.int .i64 a0_3) := (blk_cell BK148.out 3).trans rfl; have hcz13_4 : w11.cell? ⟨gb148, 4, none⟩ = some (.slice A0_4 l0_4.length c0_4) := (blk_cell BK148.out 4).trans rfl; have hcz13_5 : w11.cell? ⟨gb148, 5, none⟩ = some (.slice A0_5 l0_5.length c0_5) := (blk_cell BK148.out 5).trans rfl; have hfz13_0 := blk_frozen BK148.out 0; have hfz13_1 := blk_frozen BK148.out 1; have hfz13_2 := blk_frozen BK148.out 2; have hfz13_3 := blk_frozen BK148.out 3; have hfz13_4 := blk_frozen BK148.out 4; have hfz13_5 := blk_frozen BK148.out 5; have hcz14_0 : w11.cell? ⟨gb149, 0, none⟩ = some (.int .i64 a1_0) := (blk_cell BK149.out 0).trans rfl; have hcz14_1 : w11.cell? ⟨gb149, 1, none⟩ = some (.int .i64 a1_1) := (blk_cell BK149.out 1).trans rfl; have hcz14_2 : w11.cell? ⟨gb149, 2, none⟩ = some (.int .i64 a1_2) := (blk_cell BK149.out 2).trans rfl; have hcz14_3 : w11.cell? ⟨gb149, 3, none⟩ = some (.int .i64 a1_3) := (blk_cell BK149.out 3).trans rfl; have hcz14_4 : w11.cell? ⟨gb149, 4, none⟩ = some (.slice A1_4 l1_4.length c1_4) := (blk_cell BK149.out 4).trans rfl; have hcz14_5 : w11.cell? ⟨gb149, 5, none⟩ = some (.slice A1_5 l1_5.length c1_5) := (blk_cell BK149.out 5).trans rfl; have hfz14_0 := blk_frozen BK149.out 0; have hfz14_1 := blk_frozen BK149.out 1; have hfz14_2 := blk_frozen BK149.out 2; have hfz14_3 := blk_frozen BK149.out 3; have hfz14_4 := blk_frozen BK149.out 4; have hfz14_5 := blk_frozen BK149.out 5) | (go_at_call 50; (with_reducible refine (slices_Equal_int_int.calls k _ _ l0_4 _ _ l1_4 true _ ?side1 ?side2 ?side3 ?side4 A7.out).mono ?_); (case side1 => repeat (first | exact (Kd.C_below HR0_4.out HB.out) | (with_reducible refine Kd.C_alloc ?_ _) | (with_reducible refine Kd.C_drewN ?_ _) | (with_reducible refine Kd.C_drew ?_))); (case side2 => exact HC0_4.out); (case side3 => repeat (first | exact (Kd.C_below HR1_4.out HB.out) | (with_reducible refine Kd.C_alloc ?_ _) | (with_reducible refine Kd.C_drewN ?_ _) | (with_reducible refine Kd.C_drew ?_))); (case side4 => exact HC1_4.out); rintro e w' ⟨rfl, ⟨nd, rfl⟩⟩) | (go_at_call 50; (with_reducible refine (slices_Equal_int_int.calls k _ _ l0_5 _ _ l1_5 t151 _ ?side1 ?side2 ?side3 ?side4 A9.out).mono ?_); (case side1 => repeat (first | exact (Kd.C_below HR0_5.out (by repeat (first | (with_reducible first | exact HB.out | apply below_alloc | apply pw_below_drewN | apply below_drew1 | refine below_set ?_ GE148.out | refine below_set ?_ GE149.out) | exact HB.out))) | (with_reducible refine Kd.C_alloc ?_ _) | (with_reducible refine Kd.C_drewN ?_ _) | (with_reducible refine Kd.C_drew ?_))); (case side2 => exact HC0_5.out); (case side3 => repeat (first | exact (Kd.C_below HR1_5.out (by repeat (first | (with_reducible first | exact HB.out | apply below_alloc | apply pw_below_drewN | apply below_drew1 | refine below_set ?_ GE148.out | refine below_set ?_ GE149.out) | exact HB.out))) | (with_reducible refine Kd.C_alloc ?_ _) | (with_reducible refine Kd.C_drewN ?_ _) | (with_reducible refine Kd.C_drew ?_))); (case side4 => exact HC1_5.out); rintro e w' ⟨rfl, ⟨nd, rfl⟩⟩))
            go_ret
            exact ⟨by first | rfl | (simp [errW_none, errW_some] <;> rfl) | (simp [*, errW_none, errW_some] <;> rfl), by repeat (first | (with_reducible first | exact HB.out | apply below_alloc | apply pw_below_drewN | apply below_drew1 | refine below_set ?_ GE148.out | refine below_set ?_ GE149.out) | exact HB.out)⟩
          · replace c8 := Bool.eq_false_iff.mpr c8
            subst c8
            have H1 : (some false) = some r := by rw [if_neg (show ¬ (false = true) by decide)] at H; exact H
            clear H
            have H := H1
            clear H1
            obtain rfl := Option.some.inj H
            go_enter Try.func28, Try.ntmps28
            go_wp2_with (first | ((with_reducible refine gate_dst (N := 2) rfl ?_); refine box_event ?hg (N := 2) ?hd (cs := #[.int .i64 a0_0, .int .i64 a0_1, .int .i64 a0_2, .int .i64 a0_3, .slice A0_4 l0_4.length c0_4, .slice A0_5 l0_5.length c0_5]) (t := 55) ?hr ?_; (case hd => rfl); (case hg => rfl); (case hr => first | (go_simp; done) | (go_simp; rfl)); intro gb148 hg w15 hbox hb; have n0_ := Aside0.mk (below_step (by repeat (first | (with_reducible first | exact HB.out | apply below_alloc | apply pw_below_drewN | apply below_drew1) | exact HB.out)) hb); have n1_ := Aside0.mk (hbox); have n2_ := Aside0.mk ((by rw [hg]; exact (below_size (by repeat (first | (with_reducible first | exact HB.out | apply below_alloc | apply pw_below_drewN | apply below_drew1) | exact HB.out))) : w.heap.size ≤ gb148)); have n3_ := Aside0.mk ((by rw [hg]; exact (below_size (by repeat (first | (with_reducible first | exact HB.out | apply below_alloc | apply pw_below_drewN | apply below_drew1) | exact HB.out))) : w.heap.size ≤ gb148)); clear HB; have HB := n0_; have BK148 := n1_; have GW148 := n2_; have GE148 := n3_; clear n0_ n1_ n2_ n3_; clear hb hbox hg) | ((with_reducible refine gate_dst (N := 3) rfl ?_); refine box_event ?hg (N := 3) ?hd (cs := #[.int .i64 a1_0, .int .i64 a1_1, .int .i64 a1_2, .int .i64 a1_3, .slice A1_4 l1_4.length c1_4, .slice A1_5 l1_5.length c1_5]) (t := 55) ?hr ?_; (case hd => rfl); (case hg => rfl); (case hr => first | (go_simp; done) | (go_simp; rfl)); intro gb149 hg w16 hbox hb; have n0_ := Aside0.mk (blk_below (g := gb148) (o := .cells #[.int .i64 a0_0, .int .i64 a0_1, .int .i64 a0_2, .int .i64 a0_3, .slice A0_4 l0_4.length c0_4, .slice A0_5 l0_5.length c0_5] 55 (0, 0)) (by (with_reducible repeat (first | refine blk_drewN ?_ _ | refine blk_drew ?_ | refine blk_alloc ?_ _)); exact BK148.out) hb); have n1_ := Aside0.mk (below_step (by repeat (first | (with_reducible first | exact HB.out | apply below_alloc | apply pw_below_drewN | apply below_drew1 | refine below_set ?_ GE148.out) | exact HB.out)) hb); have n2_ := Aside0.mk (hbox); have n3_ := Aside0.mk ((by rw [hg]; exact (below_size (by repeat (first | (with_reducible first | exact HB.out | apply below_alloc | apply pw_below_drewN | apply below_drew1 | refine below_set ?_ GE148.out) | exact HB.out))) : w.heap.size ≤ gb149)); have n4_ := Aside0.mk ((by rw [hg]; exact (below_size (by repeat (first | (with_reducible first | exact HB.out | apply below_alloc | apply pw_below_drewN | apply below_drew1 | refine below_set ?_ GE148.out) | exact HB.out))) : w.heap.size ≤ gb149)); have n5_ := Aside0.mk ((by rw [hg]; exact Nat.ne_of_lt (blk_lt (g := gb148) (o := .cells #[.int .i64 a0_0, .int .i64 a0_1, .int .i64 a0_2, .int .i64 a0_3, .slice A0_4 l0_4.length c0_4, .slice A0_5 l0_5.length c0_5] 55 (0, 0)) (by (with_reducible repeat (first | refine blk_drewN ?_ _ | refine blk_drew ?_ | refine blk_alloc ?_ _)); exact BK148.out)) : gb148 ≠ gb149)); have n6_ := Aside0.mk ((by rw [hg]; exact Nat.ne_of_gt (blk_lt (g := gb148) (o := .cells #[.int .i64 a0_0, .int .i64 a0_1, .int .i64 a0_2, .int .i64 a0_3, .slice A0_4 l0_4.length c0_4, .slice A0_5 l0_5.length c0_5] 55 (0, 0)) (by (with_reducible repeat (first | refine blk_drewN ?_ _ | refine blk_drew ?_ | refine blk_alloc ?_ _)); exact BK148.out)) : gb149 ≠ gb148)); clear BK148; clear HB; have BK148 := n0_; have HB := n1_; have BK149 := n2_; have GW149 := n3_; have GE149 := n4_; have NB148_149 := n5_; have NB149_148 := n6_; clear n0_ n1_ n2_ n3_ n4_ n5_ n6_; clear hb hbox hg; have hnb17 := NB148_149.out; have hnc17 := NB149_148.out; have hcz18_0 : w16.cell? ⟨gb148, 0, none⟩ = some (.int .i64 a0_0) := (blk_cell BK148.out 0).trans rfl; have hcz18_1 : w16.cell? ⟨gb148, 1, none⟩ = some (.int .i64 a0_1) := (blk_cell BK148.out 1).trans rfl; have hcz18_2 : w16.cell? ⟨gb148, 2, none⟩ = some (.int .i64 a0_2) := (blk_cell BK148.out 2).trans rfl; have hcz18_3 : w16.cell? ⟨gb148, 3, none⟩ = some (.int .i64 a0_3) := (blk_cell BK148.out 3).trans rfl; have hcz18_4 : w16.cell? ⟨gb148, 4, none⟩ = some (.slice A0_4 l0_4.length c0_4) := (blk_cell BK148.out 4).trans rfl; have hcz18_5 : w16.cell? ⟨gb148, 5, none⟩ = some (.slice A0_5 l0_5.length c0_5) := (blk_cell BK148.out 5).trans rfl; have hfz18_0 := blk_frozen BK148.out 0; have hfz18_1 := blk_frozen BK148.out 1; have hfz18_2 := blk_frozen BK148.out 2; have hfz18_3 := blk_frozen BK148.out 3; have hfz18_4 := blk_frozen BK148.out 4; have hfz18_5 := blk_frozen BK148.out 5; have hcz19_0 : w16.cell? ⟨gb149, 0, none⟩ = some (.int .i64 a1_0) := (blk_cell BK149.out 0).trans rfl; have hcz19_1 : w16.cell? ⟨gb149, 1, none⟩ = some (.int .i64 a1_1) := (blk_cell BK149.out 1).trans rfl; have hcz19_2 : w16.cell? ⟨gb149, 2, none⟩ = some (.int .i64 a1_2) := (blk_cell BK149.out 2).trans rfl; have hcz19_3 : w16.cell? ⟨gb149, 3, none⟩ = some (.int .i64 a1_3) := (blk_cell BK149.out 3).trans rfl; have hcz19_4 : w16.cell? ⟨gb149, 4, none⟩ = some (.slice A1_4 l1_4.length c1_4) := (blk_cell BK149.out 4).trans rfl; have hcz19_5 : w16.cell? ⟨gb149, 5, none⟩ = some (.slice A1_5 l1_5.length c1_5) := (blk_cell BK149.out 5).trans rfl; have hfz19_0 := blk_frozen BK149.out 0; have hfz19_1 := blk_frozen BK149.out 1; have hfz19_2 := blk_frozen BK149.out 2; have hfz19_3 := blk_frozen BK149.out 3; have hfz19_4 := blk_frozen BK149.out 4; have hfz19_5 := blk_frozen BK149.out 5) | (go_at_call 50; (with_reducible refine (slices_Equal_int_int.calls k _ _ l0_4 _ _ l1_4 false _ ?side1 ?side2 ?side3 ?side4 A7.out).mono ?_); (case side1 => repeat (first | exact (Kd.C_below HR0_4.out HB.out) | (with_reducible refine Kd.C_alloc ?_ _) | (with_reducible refine Kd.C_drewN ?_ _) | (with_reducible refine Kd.C_drew ?_))); (case side2 => exact HC0_4.out); (case side3 => repeat (first | exact (Kd.C_below HR1_4.out HB.out) | (with_reducible refine Kd.C_alloc ?_ _) | (with_reducible refine Kd.C_drewN ?_ _) | (with_reducible refine Kd.C_drew ?_))); (case side4 => exact HC1_4.out); rintro e w' ⟨rfl, ⟨nd, rfl⟩⟩))
            go_ret
            exact ⟨by first | rfl | (simp [errW_none, errW_some] <;> rfl) | (simp [*, errW_none, errW_some] <;> rfl), by repeat (first | (with_reducible first | exact HB.out | apply below_alloc | apply pw_below_drewN | apply below_drew1 | refine below_set ?_ GE148.out | refine below_set ?_ GE149.out) | exact HB.out)⟩
        · rw [if_neg c6] at H
          have c6b0 : (a0_3 == a1_3) = false := beq_eq_false_iff_ne.mpr c6
          have c6b1 : (a0_3 != a1_3) = true := bne_iff_ne.mpr c6
          obtain rfl := Option.some.inj H
          go_enter Try.func28, Try.ntmps28
          go_wp2_with (first | ((with_reducible refine gate_dst (N := 2) rfl ?_); refine box_event ?hg (N := 2) ?hd (cs := #[.int .i64 a0_0, .int .i64 a0_1, .int .i64 a0_2, .int .i64 a0_3, .slice A0_4 l0_4.length c0_4, .slice A0_5 l0_5.length c0_5]) (t := 55) ?hr ?_; (case hd => rfl); (case hg => rfl); (case hr => first | (go_simp; done) | (go_simp; rfl)); intro gb148 hg w20 hbox hb; have n0_ := Aside0.mk (below_step (by repeat (first | (with_reducible first | exact HB.out | apply below_alloc | apply pw_below_drewN | apply below_drew1) | exact HB.out)) hb); have n1_ := Aside0.mk (hbox); have n2_ := Aside0.mk ((by rw [hg]; exact (below_size (by repeat (first | (with_reducible first | exact HB.out | apply below_alloc | apply pw_below_drewN | apply below_drew1) | exact HB.out))) : w.heap.size ≤ gb148)); have n3_ := Aside0.mk ((by rw [hg]; exact (below_size (by repeat (first | (with_reducible first | exact HB.out | apply below_alloc | apply pw_below_drewN | apply below_drew1) | exact HB.out))) : w.heap.size ≤ gb148)); clear HB; have HB := n0_; have BK148 := n1_; have GW148 := n2_; have GE148 := n3_; clear n0_ n1_ n2_ n3_; clear hb hbox hg) | ((with_reducible refine gate_dst (N := 3) rfl ?_); refine box_event ?hg (N := 3) ?hd (cs := #[.int .i64 a1_0, .int .i64 a1_1, .int .i64 a1_2, .int .i64 a1_3, .slice A1_4 l1_4.length c1_4, .slice A1_5 l1_5.length c1_5]) (t := 55) ?hr ?_; (case hd => rfl); (case hg => rfl); (case hr => first | (go_simp; done) | (go_simp; rfl)); intro gb149 hg w21 hbox hb; have n0_ := Aside0.mk (blk_below (g := gb148) (o := .cells #[.int .i64 a0_0, .int .i64 a0_1, .int .i64 a0_2, .int .i64 a0_3, .slice A0_4 l0_4.length c0_4, .slice A0_5 l0_5.length c0_5] 55 (0, 0)) (by (with_reducible repeat (first | refine blk_drewN ?_ _ | refine blk_drew ?_ | refine blk_alloc ?_ _)); exact BK148.out) hb); have n1_ := Aside0.mk (below_step (by repeat (first | (with_reducible first | exact HB.out | apply below_alloc | apply pw_below_drewN | apply below_drew1 | refine below_set ?_ GE148.out) | exact HB.out)) hb); have n2_ := Aside0.mk (hbox); have n3_ := Aside0.mk ((by rw [hg]; exact (below_size (by repeat (first | (with_reducible first | exact HB.out | apply below_alloc | apply pw_below_drewN | apply below_drew1 | refine below_set ?_ GE148.out) | exact HB.out))) : w.heap.size ≤ gb149)); have n4_ := Aside0.mk ((by rw [hg]; exact (below_size (by repeat (first | (with_reducible first | exact HB.out | apply below_alloc | apply pw_below_drewN | apply below_drew1 | refine below_set ?_ GE148.out) | exact HB.out))) : w.heap.size ≤ gb149)); have n5_ := Aside0.mk ((by rw [hg]; exact Nat.ne_of_lt (blk_lt (g := gb148) (o := .cells #[.int .i64 a0_0, .int .i64 a0_1, .int .i64 a0_2, .int .i64 a0_3, .slice A0_4 l0_4.length c0_4, .slice A0_5 l0_5.length c0_5] 55 (0, 0)) (by (with_reducible repeat (first | refine blk_drewN ?_ _ | refine blk_drew ?_ | refine blk_alloc ?_ _)); exact BK148.out)) : gb148 ≠ gb149)); have n6_ := Aside0.mk ((by rw [hg]; exact Nat.ne_of_gt (blk_lt (g := gb148) (o := .cells #[.int .i64 a0_0, .int .i64 a0_1, .int .i64 a0_2, .int .i64 a0_3, .slice A0_4 l0_4.length c0_4, .slice A0_5 l0_5.length c0_5] 55 (0, 0)) (by (with_reducible repeat (first | refine blk_drewN ?_ _ | refine blk_drew ?_ | refine blk_alloc ?_ _)); exact BK148.out)) : gb149 ≠ gb148)); clear BK148; clear HB; have BK148 := n0_; have HB := n1_; have BK149 := n2_; have GW149 := n3_; have GE149 := n4_; have NB148_149 := n5_; have NB149_148 := n6_; clear n0_ n1_ n2_ n3_ n4_ n5_ n6_; clear hb hbox hg; have hnb22 := NB148_149.out; have hnc22 := NB149_148.out; have hcz23_0 : w21.cell? ⟨gb148, 0, none⟩ = some (.int .i64 a0_0) := (blk_cell BK148.out 0).trans rfl; have hcz23_1 : w21.cell? ⟨gb148, 1, none⟩ = some (.int .i64 a0_1) := (blk_cell BK148.out 1).trans rfl; have hcz23_2 : w21.cell? ⟨gb148, 2, none⟩ = some (.int .i64 a0_2) := (blk_cell BK148.out 2).trans rfl; have hcz23_3 : w21.cell? ⟨gb148, 3, none⟩ = some (.int .i64 a0_3) := (blk_cell BK148.out 3).trans rfl; have hcz23_4 : w21.cell? ⟨gb148, 4, none⟩ = some (.slice A0_4 l0_4.length c0_4) := (blk_cell BK148.out 4).trans rfl; have hcz23_5 : w21.cell? ⟨gb148, 5, none⟩ = some (.slice A0_5 l0_5.length c0_5) := (blk_cell BK148.out 5).trans rfl; have hfz23_0 := blk_frozen BK148.out 0; have hfz23_1 := blk_frozen BK148.out 1; have hfz23_2 := blk_frozen BK148.out 2; have hfz23_3 := blk_frozen BK148.out 3; have hfz23_4 := blk_frozen BK148.out 4; have hfz23_5 := blk_frozen BK148.out 5; have hcz24_0 : w21.cell? ⟨gb149, 0, none⟩ = some (.int .i64 a1_0) := (blk_cell BK149.out 0).trans rfl; have hcz24_1 : w21.cell? ⟨gb149, 1, none⟩ = some (.int .i64 a1_1) := (blk_cell BK149.out 1).trans rfl; have hcz24_2 : w21.cell? ⟨gb149, 2, none⟩ = some (.int .i64 a1_2) := (blk_cell BK149.out 2).trans rfl; have hcz24_3 : w21.cell? ⟨gb149, 3, none⟩ = some (.int .i64 a1_3) := (blk_cell BK149.out 3).trans rfl; have hcz24_4 : w21.cell? ⟨gb149, 4, none⟩ = some (.slice A1_4 l1_4.length c1_4) := (blk_cell BK149.out 4).trans rfl; have hcz24_5 : w21.cell? ⟨gb149, 5, none⟩ = some (.slice A1_5 l1_5.length c1_5) := (blk_cell BK149.out 5).trans rfl; have hfz24_0 := blk_frozen BK149.out 0; have hfz24_1 := blk_frozen BK149.out 1; have hfz24_2 := blk_frozen BK149.out 2; have hfz24_3 := blk_frozen BK149.out 3; have hfz24_4 := blk_frozen BK149.out 4; have hfz24_5 := blk_frozen BK149.out 5))
          go_ret
          exact ⟨by first | rfl | (simp [errW_none, errW_some] <;> rfl) | (simp [*, errW_none, errW_some] <;> rfl), by repeat (first | (with_reducible first | exact HB.out | apply below_alloc | apply pw_below_drewN | apply below_drew1 | refine below_set ?_ GE148.out | refine below_set ?_ GE149.out) | exact HB.out)⟩
      · rw [if_neg c5] at H
        have c5b0 : (a0_2 == a1_2) = false := beq_eq_false_iff_ne.mpr c5
        have c5b1 : (a0_2 != a1_2) = true := bne_iff_ne.mpr c5
        obtain rfl := Option.some.inj H
        go_enter Try.func28, Try.ntmps28
        go_wp2_with (first | ((with_reducible refine gate_dst (N := 2) rfl ?_); refine box_event ?hg (N := 2) ?hd (cs := #[.int .i64 a0_0, .int .i64 a0_1, .int .i64 a0_2, .int .i64 a0_3, .slice A0_4 l0_4.length c0_4, .slice A0_5 l0_5.length c0_5]) (t := 55) ?hr ?_; (case hd => rfl); (case hg => rfl); (case hr => first | (go_simp; done) | (go_simp; rfl)); intro gb148 hg w25 hbox hb; have n0_ := Aside0.mk (below_step (by repeat (first | (with_reducible first | exact HB.out | apply below_alloc | apply pw_below_drewN | apply below_drew1) | exact HB.out)) hb); have n1_ := Aside0.mk (hbox); have n2_ := Aside0.mk ((by rw [hg]; exact (below_size (by repeat (first | (with_reducible first | exact HB.out | apply below_alloc | apply pw_below_drewN | apply below_drew1) | exact HB.out))) : w.heap.size ≤ gb148)); have n3_ := Aside0.mk ((by rw [hg]; exact (below_size (by repeat (first | (with_reducible first | exact HB.out | apply below_alloc | apply pw_below_drewN | apply below_drew1) | exact HB.out))) : w.heap.size ≤ gb148)); clear HB; have HB := n0_; have BK148 := n1_; have GW148 := n2_; have GE148 := n3_; clear n0_ n1_ n2_ n3_; clear hb hbox hg) | ((with_reducible refine gate_dst (N := 3) rfl ?_); refine box_event ?hg (N := 3) ?hd (cs := #[.int .i64 a1_0, .int .i64 a1_1, .int .i64 a1_2, .int .i64 a1_3, .slice A1_4 l1_4.length c1_4, .slice A1_5 l1_5.length c1_5]) (t := 55) ?hr ?_; (case hd => rfl); (case hg => rfl); (case hr => first | (go_simp; done) | (go_simp; rfl)); intro gb149 hg w26 hbox hb; have n0_ := Aside0.mk (blk_below (g := gb148) (o := .cells #[.int .i64 a0_0, .int .i64 a0_1, .int .i64 a0_2, .int .i64 a0_3, .slice A0_4 l0_4.length c0_4, .slice A0_5 l0_5.length c0_5] 55 (0, 0)) (by (with_reducible repeat (first | refine blk_drewN ?_ _ | refine blk_drew ?_ | refine blk_alloc ?_ _)); exact BK148.out) hb); have n1_ := Aside0.mk (below_step (by repeat (first | (with_reducible first | exact HB.out | apply below_alloc | apply pw_below_drewN | apply below_drew1 | refine below_set ?_ GE148.out) | exact HB.out)) hb); have n2_ := Aside0.mk (hbox); have n3_ := Aside0.mk ((by rw [hg]; exact (below_size (by repeat (first | (with_reducible first | exact HB.out | apply below_alloc | apply pw_below_drewN | apply below_drew1 | refine below_set ?_ GE148.out) | exact HB.out))) : w.heap.size ≤ gb149)); have n4_ := Aside0.mk ((by rw [hg]; exact (below_size (by repeat (first | (with_reducible first | exact HB.out | apply below_alloc | apply pw_below_drewN | apply below_drew1 | refine below_set ?_ GE148.out) | exact HB.out))) : w.heap.size ≤ gb149)); have n5_ := Aside0.mk ((by rw [hg]; exact Nat.ne_of_lt (blk_lt (g := gb148) (o := .cells #[.int .i64 a0_0, .int .i64 a0_1, .int .i64 a0_2, .int .i64 a0_3, .slice A0_4 l0_4.length c0_4, .slice A0_5 l0_5.length c0_5] 55 (0, 0)) (by (with_reducible repeat (first | refine blk_drewN ?_ _ | refine blk_drew ?_ | refine blk_alloc ?_ _)); exact BK148.out)) : gb148 ≠ gb149)); have n6_ := Aside0.mk ((by rw [hg]; exact Nat.ne_of_gt (blk_lt (g := gb148) (o := .cells #[.int .i64 a0_0, .int .i64 a0_1, .int .i64 a0_2, .int .i64 a0_3, .slice A0_4 l0_4.length c0_4, .slice A0_5 l0_5.length c0_5] 55 (0, 0)) (by (with_reducible repeat (first | refine blk_drewN ?_ _ | refine blk_drew ?_ | refine blk_alloc ?_ _)); exact BK148.out)) : gb149 ≠ gb148)); clear BK148; clear HB; have BK148 := n0_; have HB := n1_; have BK149 := n2_; have GW149 := n3_; have GE149 := n4_; have NB148_149 := n5_; have NB149_148 := n6_; clear n0_ n1_ n2_ n3_ n4_ n5_ n6_; clear hb hbox hg; have hnb27 := NB148_149.out; have hnc27 := NB149_148.out; have hcz28_0 : w26.cell? ⟨gb148, 0, none⟩ = some (.int .i64 a0_0) := (blk_cell BK148.out 0).trans rfl; have hcz28_1 : w26.cell? ⟨gb148, 1, none⟩ = some (.int .i64 a0_1) := (blk_cell BK148.out 1).trans rfl; have hcz28_2 : w26.cell? ⟨gb148, 2, none⟩ = some (.int .i64 a0_2) := (blk_cell BK148.out 2).trans rfl; have hcz28_3 : w26.cell? ⟨gb148, 3, none⟩ = some (.int .i64 a0_3) := (blk_cell BK148.out 3).trans rfl; have hcz28_4 : w26.cell? ⟨gb148, 4, none⟩ = some (.slice A0_4 l0_4.length c0_4) := (blk_cell BK148.out 4).trans rfl; have hcz28_5 : w26.cell? ⟨gb148, 5, none⟩ = some (.slice A0_5 l0_5.length c0_5) := (blk_cell BK148.out 5).trans rfl; have hfz28_0 := blk_frozen BK148.out 0; have hfz28_1 := blk_frozen BK148.out 1; have hfz28_2 := blk_frozen BK148.out 2; have hfz28_3 := blk_frozen BK148.out 3; have hfz28_4 := blk_frozen BK148.out 4; have hfz28_5 := blk_frozen BK148.out 5; have hcz29_0 : w26.cell? ⟨gb149, 0, none⟩ = some (.int .i64 a1_0) := (blk_cell BK149.out 0).trans rfl; have hcz29_1 : w26.cell? ⟨gb149, 1, none⟩ = some (.int .i64 a1_1) := (blk_cell BK149.out 1).trans rfl; have hcz29_2 : w26.cell? ⟨gb149, 2, none⟩ = some (.int .i64 a1_2) := (blk_cell BK149.out 2).trans rfl; have hcz29_3 : w26.cell? ⟨gb149, 3, none⟩ = some (.int .i64 a1_3) := (blk_cell BK149.out 3).trans rfl; have hcz29_4 : w26.cell? ⟨gb149, 4, none⟩ = some (.slice A1_4 l1_4.length c1_4) := (blk_cell BK149.out 4).trans rfl; have hcz29_5 : w26.cell? ⟨gb149, 5, none⟩ = some (.slice A1_5 l1_5.length c1_5) := (blk_cell BK149.out 5).trans rfl; have hfz29_0 := blk_frozen BK149.out 0; have hfz29_1 := blk_frozen BK149.out 1; have hfz29_2 := blk_frozen BK149.out 2; have hfz29_3 := blk_frozen BK149.out 3; have hfz29_4 := blk_frozen BK149.out 4; have hfz29_5 := blk_frozen BK149.out 5))
        go_ret
        exact ⟨by first | rfl | (simp [errW_none, errW_some] <;> rfl) | (simp [*, errW_none, errW_some] <;> rfl), by repeat (first | (with_reducible first | exact HB.out | apply below_alloc | apply pw_below_drewN | apply below_drew1 | refine below_set ?_ GE148.out | refine below_set ?_ GE149.out) | exact HB.out)⟩
    · rw [if_neg c4] at H
      have c4b0 : (a0_1 == a1_1) = false := beq_eq_false_iff_ne.mpr c4
      have c4b1 : (a0_1 != a1_1) = true := bne_iff_ne.mpr c4
      obtain rfl := Option.some.inj H
      go_enter Try.func28, Try.ntmps28
      go_wp2_with (first | ((with_reducible refine gate_dst (N := 2) rfl ?_); refine box_event ?hg (N := 2) ?hd (cs := #[.int .i64 a0_0, .int .i64 a0_1, .int .i64 a0_2, .int .i64 a0_3, .slice A0_4 l0_4.length c0_4, .slice A0_5 l0_5.length c0_5]) (t := 55) ?hr ?_; (case hd => rfl); (case hg => rfl); (case hr => first | (go_simp; done) | (go_simp; rfl)); intro gb148 hg w30 hbox hb; have n0_ := Aside0.mk (below_step (by repeat (first | (with_reducible first | exact HB.out | apply below_alloc | apply pw_below_drewN | apply below_drew1) | exact HB.out)) hb); have n1_ := Aside0.mk (hbox); have n2_ := Aside0.mk ((by rw [hg]; exact (below_size (by repeat (first | (with_reducible first | exact HB.out | apply below_alloc | apply pw_below_drewN | apply below_drew1) | exact HB.out))) : w.heap.size ≤ gb148)); have n3_ := Aside0.mk ((by rw [hg]; exact (below_size (by repeat (first | (with_reducible first | exact HB.out | apply below_alloc | apply pw_below_drewN | apply below_drew1) | exact HB.out))) : w.heap.size ≤ gb148)); clear HB; have HB := n0_; have BK148 := n1_; have GW148 := n2_; have GE148 := n3_; clear n0_ n1_ n2_ n3_; clear hb hbox hg) | ((with_reducible refine gate_dst (N := 3) rfl ?_); refine box_event ?hg (N := 3) ?hd (cs := #[.int .i64 a1_0, .int .i64 a1_1, .int .i64 a1_2, .int .i64 a1_3, .slice A1_4 l1_4.length c1_4, .slice A1_5 l1_5.length c1_5]) (t := 55) ?hr ?_; (case hd => rfl); (case hg => rfl); (case hr => first | (go_simp; done) | (go_simp; rfl)); intro gb149 hg w31 hbox hb; have n0_ := Aside0.mk (blk_below (g := gb148) (o := .cells #[.int .i64 a0_0, .int .i64 a0_1, .int .i64 a0_2, .int .i64 a0_3, .slice A0_4 l0_4.length c0_4, .slice A0_5 l0_5.length c0_5] 55 (0, 0)) (by (with_reducible repeat (first | refine blk_drewN ?_ _ | refine blk_drew ?_ | refine blk_alloc ?_ _)); exact BK148.out) hb); have n1_ := Aside0.mk (below_step (by repeat (first | (with_reducible first | exact HB.out | apply below_alloc | apply pw_below_drewN | apply below_drew1 | refine below_set ?_ GE148.out) | exact HB.out)) hb); have n2_ := Aside0.mk (hbox); have n3_ := Aside0.mk ((by rw [hg]; exact (below_size (by repeat (first | (with_reducible first | exact HB.out | apply below_alloc | apply pw_below_drewN | apply below_drew1 | refine below_set ?_ GE148.out) | exact HB.out))) : w.heap.size ≤ gb149)); have n4_ := Aside0.mk ((by rw [hg]; exact (below_size (by repeat (first | (with_reducible first | exact HB.out | apply below_alloc | apply pw_below_drewN | apply below_drew1 | refine below_set ?_ GE148.out) | exact HB.out))) : w.heap.size ≤ gb149)); have n5_ := Aside0.mk ((by rw [hg]; exact Nat.ne_of_lt (blk_lt (g := gb148) (o := .cells #[.int .i64 a0_0, .int .i64 a0_1, .int .i64 a0_2, .int .i64 a0_3, .slice A0_4 l0_4.length c0_4, .slice A0_5 l0_5.length c0_5] 55 (0, 0)) (by (with_reducible repeat (first | refine blk_drewN ?_ _ | refine blk_drew ?_ | refine blk_alloc ?_ _)); exact BK148.out)) : gb148 ≠ gb149)); have n6_ := Aside0.mk ((by rw [hg]; exact Nat.ne_of_gt (blk_lt (g := gb148) (o := .cells #[.int .i64 a0_0, .int .i64 a0_1, .int .i64 a0_2, .int .i64 a0_3, .slice A0_4 l0_4.length c0_4, .slice A0_5 l0_5.length c0_5] 55 (0, 0)) (by (with_reducible repeat (first | refine blk_drewN ?_ _ | refine blk_drew ?_ | refine blk_alloc ?_ _)); exact BK148.out)) : gb149 ≠ gb148)); clear BK148; clear HB; have BK148 := n0_; have HB := n1_; have BK149 := n2_; have GW149 := n3_; have GE149 := n4_; have NB148_149 := n5_; have NB149_148 := n6_; clear n0_ n1_ n2_ n3_ n4_ n5_ n6_; clear hb hbox hg; have hnb32 := NB148_149.out; have hnc32 := NB149_148.out; have hcz33_0 : w31.cell? ⟨gb148, 0, none⟩ = some (.int .i64 a0_0) := (blk_cell BK148.out 0).trans rfl; have hcz33_1 : w31.cell? ⟨gb148, 1, none⟩ = some (.int .i64 a0_1) := (blk_cell BK148.out 1).trans rfl; have hcz33_2 : w31.cell? ⟨gb148, 2, none⟩ = some (.int .i64 a0_2) := (blk_cell BK148.out 2).trans rfl; have hcz33_3 : w31.cell? ⟨gb148, 3, none⟩ = some (.int .i64 a0_3) := (blk_cell BK148.out 3).trans rfl; have hcz33_4 : w31.cell? ⟨gb148, 4, none⟩ = some (.slice A0_4 l0_4.length c0_4) := (blk_cell BK148.out 4).trans rfl; have hcz33_5 : w31.cell? ⟨gb148, 5, none⟩ = some (.slice A0_5 l0_5.length c0_5) := (blk_cell BK148.out 5).trans rfl; have hfz33_0 := blk_frozen BK148.out 0; have hfz33_1 := blk_frozen BK148.out 1; have hfz33_2 := blk_frozen BK148.out 2; have hfz33_3 := blk_frozen BK148.out 3; have hfz33_4 := blk_frozen BK148.out 4; have hfz33_5 := blk_frozen BK148.out 5; have hcz34_0 : w31.cell? ⟨gb149, 0, none⟩ = some (.int .i64 a1_0) := (blk_cell BK149.out 0).trans rfl; have hcz34_1 : w31.cell? ⟨gb149, 1, none⟩ = some (.int .i64 a1_1) := (blk_cell BK149.out 1).trans rfl; have hcz34_2 : w31.cell? ⟨gb149, 2, none⟩ = some (.int .i64 a1_2) := (blk_cell BK149.out 2).trans rfl; have hcz34_3 : w31.cell? ⟨gb149, 3, none⟩ = some (.int .i64 a1_3) := (blk_cell BK149.out 3).trans rfl; have hcz34_4 : w31.cell? ⟨gb149, 4, none⟩ = some (.slice A1_4 l1_4.length c1_4) := (blk_cell BK149.out 4).trans rfl; have hcz34_5 : w31.cell? ⟨gb149, 5, none⟩ = some (.slice A1_5 l1_5.length c1_5) := (blk_cell BK149.out 5).trans rfl; have hfz34_0 := blk_frozen BK149.out 0; have hfz34_1 := blk_frozen BK149.out 1; have hfz34_2 := blk_frozen BK149.out 2; have hfz34_3 := blk_frozen BK149.out 3; have hfz34_4 := blk_frozen BK149.out 4; have hfz34_5 := blk_frozen BK149.out 5))
      go_ret
      exact ⟨by first | rfl | (simp [errW_none, errW_some] <;> rfl) | (simp [*, errW_none, errW_some] <;> rfl), by repeat (first | (with_reducible first | exact HB.out | apply below_alloc | apply pw_below_drewN | apply below_drew1 | refine below_set ?_ GE148.out | refine below_set ?_ GE149.out) | exact HB.out)⟩
  · rw [if_neg c3] at H
    have c3b0 : (a0_0 == a1_0) = false := beq_eq_false_iff_ne.mpr c3
    have c3b1 : (a0_0 != a1_0) = true := bne_iff_ne.mpr c3
    obtain rfl := Option.some.inj H
    go_enter Try.func28, Try.ntmps28
    go_wp2_with (first | ((with_reducible refine gate_dst (N := 2) rfl ?_); refine box_event ?hg (N := 2) ?hd (cs := #[.int .i64 a0_0, .int .i64 a0_1, .int .i64 a0_2, .int .i64 a0_3, .slice A0_4 l0_4.length c0_4, .slice A0_5 l0_5.length c0_5]) (t := 55) ?hr ?_; (case hd => rfl); (case hg => rfl); (case hr => first | (go_simp; done) | (go_simp; rfl)); intro gb148 hg w35 hbox hb; have n0_ := Aside0.mk (below_step (by repeat (first | (with_reducible first | exact HB.out | apply below_alloc | apply pw_below_drewN | apply below_drew1) | exact HB.out)) hb); have n1_ := Aside0.mk (hbox); have n2_ := Aside0.mk ((by rw [hg]; exact (below_size (by repeat (first | (with_reducible first | exact HB.out | apply below_alloc | apply pw_below_drewN | apply below_drew1) | exact HB.out))) : w.heap.size ≤ gb148)); have n3_ := Aside0.mk ((by rw [hg]; exact (below_size (by repeat (first | (with_reducible first | exact HB.out | apply below_alloc | apply pw_below_drewN | apply below_drew1) | exact HB.out))) : w.heap.size ≤ gb148)); clear HB; have HB := n0_; have BK148 := n1_; have GW148 := n2_; have GE148 := n3_; clear n0_ n1_ n2_ n3_; clear hb hbox hg) | ((with_reducible refine gate_dst (N := 3) rfl ?_); refine box_event ?hg (N := 3) ?hd (cs := #[.int .i64 a1_0, .int .i64 a1_1, .int .i64 a1_2, .int .i64 a1_3, .slice A1_4 l1_4.length c1_4, .slice A1_5 l1_5.length c1_5]) (t := 55) ?hr ?_; (case hd => rfl); (case hg => rfl); (case hr => first | (go_simp; done) | (go_simp; rfl)); intro gb149 hg w36 hbox hb; have n0_ := Aside0.mk (blk_below (g := gb148) (o := .cells #[.int .i64 a0_0, .int .i64 a0_1, .int .i64 a0_2, .int .i64 a0_3, .slice A0_4 l0_4.length c0_4, .slice A0_5 l0_5.length c0_5] 55 (0, 0)) (by (with_reducible repeat (first | refine blk_drewN ?_ _ | refine blk_drew ?_ | refine blk_alloc ?_ _)); exact BK148.out) hb); have n1_ := Aside0.mk (below_step (by repeat (first | (with_reducible first | exact HB.out | apply below_alloc | apply pw_below_drewN | apply below_drew1 | refine below_set ?_ GE148.out) | exact HB.out)) hb); have n2_ := Aside0.mk (hbox); have n3_ := Aside0.mk ((by rw [hg]; exact (below_size (by repeat (first | (with_reducible first | exact HB.out | apply below_alloc | apply pw_below_drewN | apply below_drew1 | refine below_set ?_ GE148.out) | exact HB.out))) : w.heap.size ≤ gb149)); have n4_ := Aside0.mk ((by rw [hg]; exact (below_size (by repeat (first | (with_reducible first | exact HB.out | apply below_alloc | apply pw_below_drewN | apply below_drew1 | refine below_set ?_ GE148.out) | exact HB.out))) : w.heap.size ≤ gb149)); have n5_ := Aside0.mk ((by rw [hg]; exact Nat.ne_of_lt (blk_lt (g := gb148) (o := .cells #[.int .i64 a0_0, .int .i64 a0_1, .int .i64 a0_2, .int .i64 a0_3, .slice A0_4 l0_4.length c0_4, .slice A0_5 l0_5.length c0_5] 55 (0, 0)) (by (with_reducible repeat (first | refine blk_drewN ?_ _ | refine blk_drew ?_ | refine blk_alloc ?_ _)); exact BK148.out)) : gb148 ≠ gb149)); have n6_ := Aside0.mk ((by rw [hg]; exact Nat.ne_of_gt (blk_lt (g := gb148) (o := .cells #[.int .i64 a0_0, .int .i64 a0_1, .int .i64 a0_2, .int .i64 a0_3, .slice A0_4 l0_4.length c0_4, .slice A0_5 l0_5.length c0_5] 55 (0, 0)) (by (with_reducible repeat (first | refine blk_drewN ?_ _ | refine blk_drew ?_ | refine blk_alloc ?_ _)); exact BK148.out)) : gb149 ≠ gb148)); clear BK148; clear HB; have BK148 := n0_; have HB := n1_; have BK149 := n2_; have GW149 := n3_; have GE149 := n4_; have NB148_149 := n5_; have NB149_148 := n6_; clear n0_ n1_ n2_ n3_ n4_ n5_ n6_; clear hb hbox hg; have hnb37 := NB148_149.out; have hnc37 := NB149_148.out; have hcz38_0 : w36.cell? ⟨gb148, 0, none⟩ = some (.int .i64 a0_0) := (blk_cell BK148.out 0).trans rfl; have hcz38_1 : w36.cell? ⟨gb148, 1, none⟩ = some (.int .i64 a0_1) := (blk_cell BK148.out 1).trans rfl; have hcz38_2 : w36.cell? ⟨gb148, 2, none⟩ = some (.int .i64 a0_2) := (blk_cell BK148.out 2).trans rfl; have hcz38_3 : w36.cell? ⟨gb148, 3, none⟩ = some (.int .i64 a0_3) := (blk_cell BK148.out 3).trans rfl; have hcz38_4 : w36.cell? ⟨gb148, 4, none⟩ = some (.slice A0_4 l0_4.length c0_4) := (blk_cell BK148.out 4).trans rfl; have hcz38_5 : w36.cell? ⟨gb148, 5, none⟩ = some (.slice A0_5 l0_5.length c0_5) := (blk_cell BK148.out 5).trans rfl; have hfz38_0 := blk_frozen BK148.out 0; have hfz38_1 := blk_frozen BK148.out 1; have hfz38_2 := blk_frozen BK148.out 2; have hfz38_3 := blk_frozen BK148.out 3; have hfz38_4 := blk_frozen BK148.out 4; have hfz38_5 := blk_frozen BK148.out 5; have hcz39_0 : w36.cell? ⟨gb149, 0, none⟩ = some (.int .i64 a1_0) := (blk_cell BK149.out 0).trans rfl; have hcz39_1 : w36.cell? ⟨gb149, 1, none⟩ = some (.int .i64 a1_1) := (blk_cell BK149.out 1).trans rfl; have hcz39_2 : w36.cell? ⟨gb149, 2, none⟩ = some (.int .i64 a1_2) := (blk_cell BK149.out 2).trans rfl; have hcz39_3 : w36.cell? ⟨gb149, 3, none⟩ = some (.int .i64 a1_3) := (blk_cell BK149.out 3).trans rfl; have hcz39_4 : w36.cell? ⟨gb149, 4, none⟩ = some (.slice A1_4 l1_4.length c1_4) := (blk_cell BK149.out 4).trans rfl; have hcz39_5 : w36.cell? ⟨gb149, 5, none⟩ = some (.slice A1_5 l1_5.length c1_5) := (blk_cell BK149.out 5).trans rfl; have hfz39_0 := blk_frozen BK149.out 0; have hfz39_1 := blk_frozen BK149.out 1; have hfz39_2 := blk_frozen BK149.out 2; have hfz39_3 := blk_frozen BK149.out 3; have hfz39_4 := blk_frozen BK149.out 4; have hfz39_5 := blk_frozen BK149.out 5))
    go_ret
    exact ⟨by first | rfl | (simp [errW_none, errW_some] <;> rfl) | (simp [*, errW_none, errW_some] <;> rfl), by repeat (first | (with_reducible first | exact HB.out | apply below_alloc | apply pw_below_drewN | apply below_drew1 | refine below_set ?_ GE148.out | refine below_set ?_ GE149.out) | exact HB.out)⟩

/-! ### bytes_Equal: function 41 -/
def bytes_Equal.f (l0 : List Int) (l1 : List Int) : Option (Bool) := some ((strOfNums l0).toList == (strOfNums l1).toList)
set_option maxHeartbeats 8000000 in
set_option maxRecDepth 100000 in
theorem bytes_Equal.calls (A0 : Option Addr) (c0 : Nat) (l0 : List Int) (A1 : Option Addr) (c1 : Nat) (l1 : List Int) (r : Bool) (w : World) (hr0 : Kd.C (Kd.int .u8) w A0 l0.length l0) (hc0 : l0.length ≤ c0) (hr1 : Kd.C (Kd.int .u8) w A1 l1.length l1) (hc1 : l1.length ≤ c1) (h : bytes_Equal.f l0 l1 = some r) :
    Calls Try.prog 41 #[.slice A0 l0.length c0, .slice A1 l1.length c1] w fun e w' => e = .returned (.bool r) ∧ Drawn0 w w' := by
  have HR0 := Aside0.mk hr0
  have HC0 := Aside0.mk hc0
  clear hr0 hc0
  have HR1 := Aside0.mk hr1
  have HC1 := Aside0.mk hc1
  clear hr1 hc1
  have H : (some ((strOfNums l0).toList == (strOfNums l1).toList)) = some r := h
  clear h
  obtain rfl := Option.some.inj H
  have hcv3 := Kd.C_string (P := Try.prog) (A := A0) (c := c0) Try.underlying22 Try.underlying5 Try.underlying9 HR0.out
  have hcv4 := Kd.C_string (P := Try.prog) (A := A1) (c := c1) Try.underlying22 Try.underlying5 Try.underlying9 HR1.out
  go_enter Try.func41, Try.ntmps41
  go_wp2
  go_ret
  exact ⟨by first | rfl | (simp; done) | (simp [*]; done), by repeat (first | exact Drawn0.refl _ | apply Drawn0.step)⟩

end Go.Proofs.Ytgflafifemhmgaa.MRt
