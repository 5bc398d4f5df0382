/- Written by a program of this session (wip/tools/myprint.py), over the kit's print: the functions that Pg reaches, and their contracts. -/
import Derived.Test.YtgflafifemhmgaaMPgx0
import Derived.Test.YtgflafifemhmgaaMPgx1
namespace Go.Proofs.Ytgflafifemhmgaa.MPg
open Go.RowKit Go.Proofs.Ytgflafifemhmgaa.Hand Go.Proofs.YtgflafifemhmgaaW.PrintWords Go.Proofs.YtgflafifemhmgaaW.PrintLast Go.Proofs.YtgflafifemhmgaaW.PrintMore
attribute [local go_sem] max2_int min2_int max_two min_two max_three min_three max_four min_four   -- for this text's walks alone
set_option linter.unusedVariables false
set_option linter.unusedSimpArgs false

/-! ### page_Open: function 15: this session's own text -/
theorem Rdr_drawn {w : World} {g : Nat} {l : List Int} {e : Int} (h : Rdr w g l e) (nd : Nat) : Rdr (w.drewN nd) g l e := by
  obtain ⟨A, c, hc, hg, hF⟩ := h
  exact ⟨A, c, hc, hg, Kd.F_drewN hF nd⟩
theorem Rdr_below {w w1 : World} {g : Nat} {l : List Int} {e : Int} (h : Rdr w g l e) (hb : Below w.heap.size w w1) : Rdr w1 g l e := by
  obtain ⟨A, c, hc, hg, hF⟩ := h
  refine ⟨A, c, hc, ?_, Kd.F_below hF hb⟩
  rw [hb.block g (blk_lt hg)]
  exact hg
set_option maxHeartbeats 4000000 in
set_option maxRecDepth 100000 in
theorem num_Num (k : Nat) (g : Nat) (l : List Int) (n : Int) (width : Nat) (B : Nat) (w : World) (h : Rdr w g l 0) (hG : num_Get.f k l (width : Int) = some (n, 0)) (hu : width ≤ l.length) (hB : B ≤ g) :
    Calls Try.prog 39 #[.pointer (some ⟨g, 0, none⟩), .int .i64 (width : Int)] w fun ex w' => ex = .returned (.int .i64 n) ∧ Rdr w' g (l.drop width) 0 ∧ Below B w w' := by
  have HS := Aside0.mk h
  have HGet := Aside0.mk hG
  have HU := Aside0.mk hu
  have HBB := Aside0.mk hB
  obtain ⟨A, c, hc, hg, hF⟩ := h
  have c0 : w.cell? ⟨g, 0, none⟩ = some (.slice A l.length c) := by rw [Lib.cell_of_heap hg]; rfl
  have HGG := Aside0.mk hg
  have HF := Aside0.mk hF
  have HC := Aside0.mk hc
  clear hc hg hF hG hu hB
  go_enter Try.func39, Try.ntmps39
  go_wp2_with fail
  go_at_call 57
  refine (num_Err g _ 0 _ HGG.out).mono ?_
  rintro e w1 ⟨rfl, rfl⟩
  go_wp2_with fail
  go_at_call 58
  refine (num_Get.calls k A c l (width : Int) n 0 _ (Kd.F_now HF.out) HC.out HGet.out).mono ?_
  rintro e w2 ⟨rfl, ⟨nd, rfl⟩⟩
  go_wp2_with fail
  go_at_call 59
  refine (num_took g l n width B _ (Rdr_drawn HS.out nd) HU.out HBB.out).mono ?_
  rintro e w3 ⟨rfl, hs, hb⟩
  have H3 := Aside0.mk hs
  have HB3 := Aside0.mk ((pw_below_drewN (Below.refl B w1) nd).trans hb)
  clear hs hb
  go_wp2
  go_ret
  exact ⟨rfl, H3.out, HB3.out⟩

/-- What page.Open tells. -/
def page_Open.f (k : Nat) (b : List Int) : Option (Int × Int × List Int × Int) :=
  if b.length = 256 then ((sum_Open.f k b).bind fun x => if x.2 = 0 then
    ((num_Get.f k b 1).bind fun p => if p.2 = 0 then ((num_Get.f k (b.drop 1) 3).bind fun q => if q.2 = 0 then ((num_Get.f k (b.drop 4) 2).bind fun n => if n.2 = 0 then
      (if n.1 > 246 then some (0, 0, [], 4) else if 0 ≤ n.1 then ((page_Seal.f k p.1 q.1 ((b.take (6 + n.1).toNat).drop 6)).bind fun c =>
        if c.2 = 0 then (if ((strOfNums b).toList == (strOfNums c.1).toList) = true then some (p.1, q.1, (b.take (6 + n.1).toNat).drop 6, 0) else some (0, 0, [], 4)) else some (0, 0, [], 4)) else none) else none) else none) else none)
    else some (0, 0, [], 13)) else some (0, 0, [], 2)
theorem page_Open.mono : ∀ a0 k, LeO (page_Open.f k a0) (page_Open.f (k + 1) a0) := by
  intro b k
  unfold page_Open.f
  repeat' first
  | exact LeO.refl _
  | exact sum_Open.mono _ _
  | exact num_Get.mono _ _ _
  | exact page_Seal.mono _ _ _ _
  | refine LeO.ite ?_ ?_
  | refine LeO.bind ?_ (fun _ => ?_)
set_option maxHeartbeats 4000000 in
set_option maxRecDepth 100000 in
theorem page_Open.calls (k : Nat) (A0 : Option Addr) (c0 : Nat) (l0 : List Int) (r1 r2 : Int) (r3 : List Int) (r4 : Int) (w : World) (hr0 : Kd.C (Kd.int .u8) w A0 l0.length l0) (hc0 : l0.length ≤ c0) (h : page_Open.f k l0 = some (r1, r2, r3, r4)) :
    Calls Try.prog 15 #[.slice A0 l0.length c0] w fun e w' => ∃ v0_ : Value, e = .returned (.tuple #[.int .i64 r1, .int .i64 r2, v0_, .int .i64 r4]) ∧ Kd.R (Kd.int .u8) 5 w' w.heap.size (fun _ => True) v0_ r3 ∧ Below w.heap.size w w' := by
  unfold page_Open.f at h
  have HR0 := Aside0.mk hr0
  have HC0 := Aside0.mk hc0
  clear hr0 hc0
  by_cases hl : l0.length = 256
  · rw [if_pos hl] at h
    have HL := Aside0.mk hl
    have lb : ((l0.length : Int) != 256) = false := by rw [hl]; rfl
    obtain ⟨⟨x, e⟩, hx, h⟩ := Option.bind_eq_some_iff.mp h
    have HX := Aside0.mk hx
    have H := Aside0.mk h
    clear h hx hl
    go_enter Try.func15, Try.ntmps15
    go_wp2_with fail
    go_at_call 37
    refine (sum_Open.calls k A0 c0 l0 x e _ HR0.out HC0.out HX.out).mono ?_
    rintro ex w1 ⟨v, rfl, hr, hb⟩
    obtain ⟨A1, c1, rfl⟩ := Kd.R_slice hr
    have HB := Aside0.mk hb
    have HR1 := Aside0.mk (Kd.C_below HR0.out hb)
    clear hr hb
    have h := H.out
    clear H
    by_cases he : e = 0
    · rw [if_pos he] at h
      subst he
      obtain ⟨⟨p, pe⟩, hp, h⟩ := Option.bind_eq_some_iff.mp h
      have HP := Aside0.mk hp
      by_cases hpe : pe = 0
      · subst hpe
        rw [if_pos rfl] at h
        obtain ⟨⟨q, qe⟩, hq, h⟩ := Option.bind_eq_some_iff.mp h
        have HQ := Aside0.mk hq
        by_cases hqe : qe = 0
        · subst hqe
          rw [if_pos rfl] at h
          obtain ⟨⟨n, ne⟩, hn, h⟩ := Option.bind_eq_some_iff.mp h
          have HN := Aside0.mk hn
          by_cases hne : ne = 0
          · subst hne
            rw [if_pos rfl] at h
            have H := Aside0.mk h
            clear h hp hq hn
            go_wp2_with fail
            go_at_call 38
            refine (num_New A0 c0 l0 _ HR1.out HC0.out (by rw [HL.out]; decide)).mono ?_
            rintro ex w2 ⟨g, hg, rfl, hs, hb⟩
            have HG := Aside0.mk (Nat.le_trans HB.out.size hg)
            have HB2 := Aside0.mk (below_step HB.out hb)
            have HR2 := Aside0.mk (Kd.C_below HR1.out hb)
            have HS2 := Aside0.mk hs
            have HG1 := Aside0.mk hg
            clear hg hs hb HB
            go_wp2_with fail
            go_at_call 39
            refine (num_Num k g l0 p 1 w.heap.size _ HS2.out HP.out (by rw [HL.out]; decide) HG.out).mono ?_
            rintro ex w3 ⟨rfl, hs, hb⟩
            have HB3 := Aside0.mk (HB2.out.trans hb)
            have HS3 := Aside0.mk hs
            clear hs hb HB2 HS2
            go_wp2_with fail
            go_at_call 39
            refine (num_Num k g (l0.drop 1) q 3 w.heap.size _ HS3.out HQ.out (by rw [List.length_drop, HL.out]; decide) HG.out).mono ?_
            rintro ex w4 ⟨rfl, hs, hb⟩
            have HB4 := Aside0.mk (HB3.out.trans hb)
            have HS4 := Aside0.mk (show Rdr w4 g (l0.drop 4) 0 by have := hs; rwa [List.drop_drop] at this)
            clear hs hb HB3 HS3
            go_wp2_with fail
            go_at_call 39
            refine (num_Num k g (l0.drop 4) n 2 w.heap.size _ HS4.out HN.out (by rw [List.length_drop, HL.out]; decide) HG.out).mono ?_
            rintro ex w5 ⟨rfl, hs, hb⟩
            have HB5 := Aside0.mk (HB4.out.trans hb)
            clear hs hb HB4 HS4
            have h := H.out
            clear H
            by_cases hn : n > 246
            · rw [if_pos hn] at h
              obtain ⟨rfl, rfl, rfl, rfl⟩ : 0 = r1 ∧ 0 = r2 ∧ [] = r3 ∧ 4 = r4 := by simpa using h
              have nb : decide (246 < n) = true := decide_eq_true hn
              clear h hn
              go_wp2
              (try simp only [Exit.inBlock, Exit.then])
              refine bodyPost_ret (results_list (rs := [.tmp 2, .tmp 3, .tmp 4, .tmp 5]) rfl (by simp) (.tmp (.tmp (.tmp (.tmp .nil))))) rfl ?_
              exact ⟨_, rfl, Kd.R_nil _ _ _ _ _, HB5.out⟩
            · rw [if_neg hn] at h
              by_cases hn0 : 0 ≤ n
              · rw [if_pos hn0] at h
                have nb : decide (246 < n) = false := decide_eq_false hn
                obtain ⟨⟨c, ce⟩, hc, h⟩ := Option.bind_eq_some_iff.mp h
                have H := Aside0.mk h
                have HC := Aside0.mk hc
                clear h hc
                obtain ⟨i0, hi0, _, hsz, _⟩ := info_parts infoU8
                have hR5 := Kd.C_below HR0.out HB5.out
                have w6 : wrap64 (6 + n) = 6 + n := by unfold wrap64; omega
                have hcut := cut_mid (P := Try.prog) 22 5 .i64 .i64 Try.underlying22 hi0 1 hsz A0 l0.length c0 6 (6 + n) (by decide) (by omega) (by rw [HL.out]; omega) HC0.out
                have hr := Kd.C_mid (k := Kd.int .u8) (lo := 6) (hi := (6 + n).toNat) (c := c0) hR5 (by omega) (by rw [HL.out]; omega) HC0.out
                have hlen : ((l0.take (6 + n).toNat).drop 6).length = (6 + n).toNat - 6 := by rw [List.length_drop, List.length_take, HL.out]; omega
                obtain ⟨A2, hA2⟩ : ∃ A1, A1 = (if c0 = (6 : Int).toNat then A0 else (A0 : Option Addr).map (·.add ((6 : Int).toNat * 1))) := ⟨_, rfl⟩
                have DKA2 := Aside0.mk hA2
                obtain ⟨body, hbody⟩ : ∃ y, y = (l0.take (6 + n).toNat).drop 6 := ⟨_, rfl⟩
                rw [← hA2, show (6 + n).toNat - (6 : Int).toNat = body.length by rw [hbody, hlen]; rfl] at hcut
                replace hr : Kd.C (Kd.int .u8) w5 A2 body.length body := by rw [hA2, hbody]; exact hr
                rw [← hbody] at H HC
                have HR6 := Aside0.mk hr
                have HBL := Aside0.mk (show body.length ≤ 246 by rw [hbody, hlen]; omega)
                have HCL := Aside0.mk (show body.length ≤ c0 - (6 : Int).toNat by rw [hbody, hlen]; have h1 := HC0.out; have h2 := HL.out; show (6 + n).toNat - 6 ≤ c0 - 6; omega)
                clear hr hlen hA2 hbody hR5 hi0 hsz hn hn0
                go_wp2_with fail
                go_at_call 40
                refine (bytes_Clone.calls A2 _ body body _ HR6.out HCL.out (by unfold bytes_Clone.f; rw [if_pos (by have := HBL.out; omega)])).mono ?_
                rintro ex w6' ⟨v6, rfl, hr, hb⟩
                obtain ⟨A6, c6, rfl⟩ := Kd.R_slice hr
                have HB6 := Aside0.mk (below_step HB5.out hb)
                have HBody := Aside0.mk (Kd.R_lower hr HB5.out.size)
                clear hr hb HB5
                go_wp2_with fail
                go_at_call 13
                have hrd := Kd.R_reads' HBody.out
                refine (page_Seal.calls k p q A6 c6 body c ce _ hrd.2.2 hrd.2.1 HC.out).mono ?_
                rintro ex w7 ⟨v7, rfl, hr, hb⟩
                obtain ⟨A7, c7, rfl⟩ := Kd.R_slice hr
                have HB7 := Aside0.mk (below_step HB6.out hb)
                have HBody7 := Aside0.mk (Kd.R_below HBody.out hb)
                have HCR := Aside0.mk hr
                clear hr hb HB6 hrd HBody
                have h := H.out
                clear H
                by_cases hce : ce = 0
                · subst hce
                  rw [if_pos rfl] at h
                  have H := Aside0.mk h
                  clear h
                  have hR7 := Kd.C_below HR0.out HB7.out
                  have hrd := Kd.R_reads' HCR.out
                  obtain ⟨eq, heq⟩ : ∃ b : Bool, b = ((strOfNums l0).toList == (strOfNums c).toList) := ⟨_, rfl⟩
                  have HE := bytes_Equal.calls A0 c0 l0 A7 c7 c eq w7 hR7 HC0.out hrd.2.2 hrd.2.1 (by rw [heq]; rfl)
                  have HEE := Aside0.mk HE
                  have h := H.out
                  rw [← heq] at h
                  have H2 := Aside0.mk h
                  clear HE hR7 hrd h H heq
                  go_wp2_with fail
                  go_at_call 41
                  refine HEE.out.mono ?_
                  rintro ex w8 ⟨rfl, ⟨nd, rfl⟩⟩
                  have HB8 := Aside0.mk (pw_below_drewN HB7.out nd)
                  have HBody8 := Aside0.mk (Kd.R_below HBody7.out (pw_below_drewN (Below.refl _ w7) nd))
                  have h := H2.out
                  clear H2
                  cases eq
                  · rw [if_neg (by decide)] at h
                    obtain ⟨rfl, rfl, rfl, rfl⟩ : 0 = r1 ∧ 0 = r2 ∧ [] = r3 ∧ 4 = r4 := by simpa using h
                    clear h
                    go_wp2
                    (try simp only [Exit.inBlock, Exit.then])
                    refine bodyPost_ret (results_list (rs := [.tmp 2, .tmp 3, .tmp 4, .tmp 5]) rfl (by simp) (.tmp (.tmp (.tmp (.tmp .nil))))) rfl ?_
                    exact ⟨_, rfl, Kd.R_nil _ _ _ _ _, HB8.out⟩
                  · rw [if_pos rfl] at h
                    obtain ⟨rfl, rfl, rfl, rfl⟩ : p = r1 ∧ q = r2 ∧ body = r3 ∧ 0 = r4 := by simpa using h
                    clear h
                    go_wp2
                    (try simp only [Exit.inBlock, Exit.then])
                    refine bodyPost_ret (results_list (rs := [.tmp 2, .tmp 3, .tmp 4, .tmp 5]) rfl (by simp) (.tmp (.tmp (.tmp (.tmp .nil))))) rfl ?_
                    exact ⟨_, rfl, HBody8.out, HB8.out⟩
                · rw [if_neg hce] at h
                  obtain ⟨rfl, rfl, rfl, rfl⟩ : 0 = r1 ∧ 0 = r2 ∧ [] = r3 ∧ 4 = r4 := by simpa using h
                  have eb : (ce != 0) = true := bne_iff_ne.mpr hce
                  clear h hce
                  go_wp2
                  (try simp only [Exit.inBlock, Exit.then])
                  refine bodyPost_ret (results_list (rs := [.tmp 2, .tmp 3, .tmp 4, .tmp 5]) rfl (by simp) (.tmp (.tmp (.tmp (.tmp .nil))))) rfl ?_
                  exact ⟨_, rfl, Kd.R_nil _ _ _ _ _, HB7.out⟩
              · rw [if_neg hn0] at h; cases h
          · rw [if_neg hne] at h; cases h
        · rw [if_neg hqe] at h; cases h
      · rw [if_neg hpe] at h; cases h
    · rw [if_neg he] at h
      obtain ⟨rfl, rfl, rfl, rfl⟩ : 0 = r1 ∧ 0 = r2 ∧ [] = r3 ∧ 13 = r4 := by simpa using h
      have eb : (e != 0) = true := bne_iff_ne.mpr he
      clear h he
      go_wp2
      (try simp only [Exit.inBlock, Exit.then])
      refine bodyPost_ret (results_list (rs := [.tmp 2, .tmp 3, .tmp 4, .tmp 5]) rfl (by simp) (.tmp (.tmp (.tmp (.tmp .nil))))) rfl ?_
      exact ⟨_, rfl, Kd.R_nil _ _ _ _ _, HB.out⟩
  · rw [if_neg hl] at h
    obtain ⟨rfl, rfl, rfl, rfl⟩ : 0 = r1 ∧ 0 = r2 ∧ [] = r3 ∧ 2 = r4 := by simpa using h
    have lb : ((l0.length : Int) != 256) = true := bne_iff_ne.mpr (by omega)
    clear h hl
    go_enter Try.func15, Try.ntmps15
    go_wp2
    (try simp only [Exit.inBlock, Exit.then])
    refine bodyPost_ret (results_list (rs := [.tmp 2, .tmp 3, .tmp 4, .tmp 5]) rfl (by simp) (.tmp (.tmp (.tmp (.tmp .nil))))) rfl ?_
    exact ⟨_, rfl, Kd.R_nil _ _ _ _ _, Below.refl _ _⟩

/-! ### page_Words: function 17 -/
def page_Words.l0 : Nat → List Int → List Int → Int → Int → Option (List Int × Int)
  | 0, _, _, _, _ => none
  | k + 1, x4, x7, x8, x9 => if x9 < x8 then (if 0 ≤ x9 then (if x9 < (x7.length : Int) then (if (rd x7 x9) < 0 then (some (([] : List Int), 12)) else (if (rd x7 x9) > 65535 then (some (([] : List Int), 12)) else ((some (([((rd x7 x9) / 256) % 256, (rd x7 x9) % 256] : List Int) : List Int)).bind fun y136 => (if x4.length + y136.length < 140737488355328 then (page_Words.l0 k (x4 ++ y136) x7 x8 (wrap64 (x9 + 1))) else (none))))) else (none)) else (none)) else (some (x4, 0))
def page_Words.f (k : Nat) (l0 : List Int) : Option (List Int × Int) := page_Words.l0 k ([] : List Int) l0 (l0.length : Int) 0
theorem page_Words.mono_l : ∀ k, (∀ y0 y1 y2 y3, LeO (page_Words.l0 k y0 y1 y2 y3) (page_Words.l0 (k + 1) y0 y1 y2 y3))
  | 0 => fun _ _ _ _ r h => by simp [page_Words.l0] at h
  | k + 1 => by
    have ih0 := page_Words.mono_l k
    · intro y0 y1 y2 y3
      unfold page_Words.l0
      repeat' first
      | (with_reducible exact ih0 _ _ _ _)
      | (with_reducible exact LeO.refl _)
      | (with_reducible exact LeO.none _)
      | (with_reducible refine LeO.ite ?_ ?_)
      | (with_reducible refine LeO.bind ?_ (fun _ => ?_))
      | exact ih0 _ _ _ _
      | exact LeO.none _
      | refine LeO.ite ?_ ?_
      | refine LeO.bind ?_ (fun _ => ?_)
theorem page_Words.mono : ∀ a0 k, LeO (page_Words.f k a0) (page_Words.f (k + 1) a0) := by
  intro a0 k
  have ih0 := page_Words.mono_l k
  unfold page_Words.f
  repeat' first
      | (with_reducible exact ih0 _ _ _ _)
      | (with_reducible exact LeO.refl _)
      | (with_reducible exact LeO.none _)
      | (with_reducible refine LeO.ite ?_ ?_)
      | (with_reducible refine LeO.bind ?_ (fun _ => ?_))
      | exact ih0 _ _ _ _
      | exact LeO.none _
      | refine LeO.ite ?_ ?_
      | refine LeO.bind ?_ (fun _ => ?_)
set_option maxHeartbeats 8000000 in
set_option maxRecDepth 100000 in
theorem page_Words.calls (k : Nat) (A0 : Option Addr) (c0 : Nat) (l0 : List Int) (r1 : List Int) (r2 : Int) (w : World) (hr0 : Kd.C (Kd.int .i64) w A0 l0.length l0) (hc0 : l0.length ≤ c0) (h : page_Words.f k l0 = some (r1, r2)) :
    Calls Try.prog 17 #[.slice A0 l0.length c0] w fun e w' => ∃ v0_ : Value, e = .returned (.tuple #[v0_, .int .i64 r2]) ∧ Kd.R (Kd.int .u8) 5 w' w.heap.size (fun _ => True) v0_ r1 ∧ Below w.heap.size w w' := by
  have HR0 := Aside0.mk hr0
  have HC0 := Aside0.mk hc0
  clear hr0 hc0
  have HB := Aside0.mk (Below.refl w.heap.size w)
  have H : (page_Words.l0 k ([] : List Int) l0 (l0.length : Int) 0) = some (r1, r2) := h
  clear h
  have H' := Aside0.mk H
  clear H
  go_enter Try.func17, Try.ntmps17
  go_wp2
  go_loopg [4, 9] k (fun kq v4 v9 w' => ∃ (x4_1 : List Int) (x9_1 : Int), v9 = .int .i64 x9_1 ∧ Aside0 (page_Words.l0 kq x4_1 l0 (l0.length : Int) x9_1 = some (r1, r2)) ∧ Aside0 (kq ≤ k) ∧ Aside0 (Kd.R (Kd.int .u8) 5 w' w.heap.size (fun _ => True) v4 x4_1) ∧ Aside0 (Below w.heap.size w w'))
  case atStart => exact ⟨(([] : List Int)), (0), (by first | rfl | (simp; done) | (simp [*]; done)), H', ⟨Nat.le_refl _⟩, ⟨by first | exact Kd.R_nil _ _ _ _ _ | exact Kd.N_nil _ _ _ _ _ | exact Kd.V_nil _ _ _ _ _ | exact Kd.Q_nil _ _ _ _ _ | exact Kd.S_nil _ _ _ _ _⟩, ⟨by repeat (first | (with_reducible first | exact HB.out | apply below_alloc | apply pw_below_drewN | apply below_drew1) | exact HB.out)⟩⟩
  case round =>
    clear H'
    try clear c1
    obtain ⟨x4_1, x9_1, rfl, HA, HK1, HO_4, HB⟩ := hrel
    cases gk with
    | zero => exact absurd HA.out (by simp [page_Words.l0])
    | succ k1 =>
      have H := HA.out
      clear HA
      simp only [page_Words.l0] at H
      by_cases c2 : x9_1 < (l0.length : Int)
      · rw [if_pos c2] at H
        have c2b0 : decide (x9_1 < (l0.length : Int)) = true := decide_eq_true c2
        clear c2
        by_cases c3 : 0 ≤ x9_1
        · rw [if_pos c3] at H
          have c3b0 : decide (0 ≤ x9_1) = true := decide_eq_true c3
          clear c3
          by_cases c4 : x9_1 < (l0.length : Int)
          · rw [if_pos c4] at H
            have c4b0 : decide (x9_1 < (l0.length : Int)) = true := decide_eq_true c4
            clear c4
            by_cases c5 : (rd l0 x9_1) < 0
            · rw [if_pos c5] at H
              have c5b0 : decide ((rd l0 x9_1) < 0) = true := decide_eq_true c5
              clear c5
              simp only [Option.some.injEq, Prod.mk.injEq] at H
              obtain ⟨rfl, rfl⟩ := H
              have p135 : 0 ≤ (x9_1 : Int) := of_decide_eq_true (by first | (with_reducible assumption) | assumption)
              have q135 : x9_1 < (l0.length : Int) := of_decide_eq_true (by first | (with_reducible assumption) | assumption)
              obtain ⟨ad135, e135, hx135_0⟩ := Kd.at_int HR0.out x9_1 p135 q135
              cases e135
              replace hx135_0 := (HB.out.cell (World.block_lt_of_cell? w _ hx135_0)).trans hx135_0
              replace p135 := eq_true p135
              replace q135 := eq_true q135
              go_wp2
              go_ret2
              exact ⟨_, by first | rfl | (simp [errW_none, errW_some] <;> rfl) | (simp [*, errW_none, errW_some] <;> rfl), by first | exact Kd.R_nil _ _ _ _ _ | exact Kd.N_nil _ _ _ _ _ | exact Kd.V_nil _ _ _ _ _ | exact Kd.Q_nil _ _ _ _ _ | exact Kd.S_nil _ _ _ _ _, by repeat (first | (with_reducible first | exact HB.out | apply below_alloc | apply pw_below_drewN | apply below_drew1) | exact HB.out)⟩
            · rw [if_neg c5] at H
              have c5b0 : decide ((rd l0 x9_1) < 0) = false := decide_eq_false c5
              clear c5
              by_cases c6 : (rd l0 x9_1) > 65535
              · rw [if_pos c6] at H
                have c6b0 : decide (65535 < (rd l0 x9_1)) = true := decide_eq_true c6
                clear c6
                simp only [Option.some.injEq, Prod.mk.injEq] at H
                obtain ⟨rfl, rfl⟩ := H
                have p135 : 0 ≤ (x9_1 : Int) := of_decide_eq_true (by first | (with_reducible assumption) | assumption)
                have q135 : x9_1 < (l0.length : Int) := of_decide_eq_true (by first | (with_reducible assumption) | assumption)
                obtain ⟨ad135, e135, hx135_0⟩ := Kd.at_int HR0.out x9_1 p135 q135
                cases e135
                replace hx135_0 := (HB.out.cell (World.block_lt_of_cell? w _ hx135_0)).trans hx135_0
                replace p135 := eq_true p135
                replace q135 := eq_true q135
                go_wp2
                go_ret2
                exact ⟨_, by first | rfl | (simp [errW_none, errW_some] <;> rfl) | (simp [*, errW_none, errW_some] <;> rfl), by first | exact Kd.R_nil _ _ _ _ _ | exact Kd.N_nil _ _ _ _ _ | exact Kd.V_nil _ _ _ _ _ | exact Kd.Q_nil _ _ _ _ _ | exact Kd.S_nil _ _ _ _ _, by repeat (first | (with_reducible first | exact HB.out | apply below_alloc | apply pw_below_drewN | apply below_drew1) | exact HB.out)⟩
              · rw [if_neg c6] at H
                have c6b0 : decide (65535 < (rd l0 x9_1)) = false := decide_eq_false c6
                clear c6
                obtain ⟨y136, hy136⟩ : ∃ y_ : List Int, y_ = (([((rd l0 x9_1) / 256) % 256, (rd l0 x9_1) % 256] : List Int)) := ⟨_, rfl⟩
                replace H : (if x4_1.length + y136.length < 140737488355328 then (page_Words.l0 k1 (x4_1 ++ y136) l0 (l0.length : Int) (wrap64 (x9_1 + 1))) else (none)) = some (r1, r2) := by first | (rw [hy136]; with_reducible exact H) | (have H2_ := (Option.bind_some _ _).symm.trans H; rw [hy136]; with_reducible exact H2_) | (have H2_ := (Option.bind_some _ _).symm.trans H; with_reducible exact H2_) | with_reducible exact H | (rw [hy136]; exact H) | exact H
                have Ny136 := Aside0.mk hy136
                clear hy136
                by_cases c7 : x4_1.length + y136.length < 140737488355328
                · rw [if_pos c7] at H
                  have LMc7 := Aside0.mk c7
                  clear c7
                  obtain ⟨y139, hy139⟩ : ∃ y_ : List Int, y_ = (x4_1 ++ y136) := ⟨_, rfl⟩
                  replace H : (page_Words.l0 k1 y139 l0 (l0.length : Int) (wrap64 (x9_1 + 1))) = some (r1, r2) := by first | (rw [hy139]; with_reducible exact H) | (have H2_ := (Option.bind_some _ _).symm.trans H; rw [hy139]; with_reducible exact H2_) | (have H2_ := (Option.bind_some _ _).symm.trans H; with_reducible exact H2_) | with_reducible exact H | (rw [hy139]; exact H) | exact H
                  have Ny139 := Aside0.mk hy139
                  clear hy139
                  have H' := Aside0.mk H
                  clear H
                  have p135 : 0 ≤ (x9_1 : Int) := of_decide_eq_true (by first | (with_reducible assumption) | assumption)
                  have q135 : x9_1 < (l0.length : Int) := of_decide_eq_true (by first | (with_reducible assumption) | assumption)
                  obtain ⟨ad135, e135, hx135_0⟩ := Kd.at_int HR0.out x9_1 p135 q135
                  cases e135
                  replace hx135_0 := (HB.out.cell (World.block_lt_of_cell? w _ hx135_0)).trans hx135_0
                  replace p135 := eq_true p135
                  replace q135 := eq_true q135
                  go_wp2_with (first | ((with_reducible refine gate_dst (N := 25) rfl ?_); refine Kd.R_lit (Kd.int .u8) _ 5 ?hg (N := 25) ?hd (xs := ([((rd l0 x9_1) / 256) % 256, (rd l0 x9_1) % 256] : List Int)) (inner := [.int .u8 (((rd l0 x9_1) / 256) % 256), .int .u8 ((rd l0 x9_1) % 256)]) (ok := fun _ => True) (okp := fun _ => True) ?hr ?hp (fun _ hk => hk) trivial (Below.refl _ _) (Nat.le_refl _) (by simp) ?_; (case hd => rfl); (case hg => rfl); (case hr => first | (go_simp; done) | (go_simp; rfl)); (case hp => exact (Reps.one (show Kd.M (Kd.int .u8) _ _ _ (((rd l0 x9_1) / 256) % 256) [.int .u8 (((rd l0 x9_1) / 256) % 256)] from rfl) (Reps.one (show Kd.M (Kd.int .u8) _ _ _ ((rd l0 x9_1) % 256) [.int .u8 ((rd l0 x9_1) % 256)] from rfl) (Reps.none _ _)))); intro v137 w8 ho9 hb hg_ hnew_; clear hg_ hnew_; (first | rw [← Ny136.out] at ho9 | (simp only [Int.reduceToNat] at ho9; rw [← Ny136.out] at ho9)); have n0_ := Aside0.mk (Kd.R_elder' (by (with_reducible repeat (first | apply Kd.R_alloc | apply Kd.R_drewN | apply Kd.R_drew)); exact HO_4.out) (Kd.R_base ho9) hb); have n1_ := Aside0.mk (Kd.R_lower (Kd.R_new' ho9 (Kd.R_lt (by (with_reducible repeat (first | apply Kd.R_alloc | apply Kd.R_drewN | apply Kd.R_drew)); exact HO_4.out))) (below_size (by repeat (first | (with_reducible first | exact HB.out | apply below_alloc | apply pw_below_drewN | apply below_drew1) | exact HB.out)))); have n2_ := Aside0.mk (below_step (by repeat (first | (with_reducible first | exact HB.out | apply below_alloc | apply pw_below_drewN | apply below_drew1) | exact HB.out)) hb); clear HO_4; clear HB; have HO_4 := n0_; have HO138 := n1_; have HB := n2_; clear n0_ n1_ n2_; clear hb ho9; obtain ⟨Ao11, co11, eo11⟩ := Kd.R_slice HO138.out; subst eo11) | ((with_reducible refine gate_builtin (b := .append) (xs := #[.tmp 19, .tmp 25]) rfl ?_); at_builtin; refine Kd.R_append_rows (Kd.int .u8) (w0 := w) w.heap.size rfl (.tmp 19) (.tmp 25) 22 5 (.int .u8 0) 1 rfl Try.underlying22 info5 rfl (by decide) (by omega) u4 x4_1 y136 _ _ _ (fun k_ => some k_ ≠ (.slice Ao11 y136.length co11 : Value).ownBlock) (fun _ => False) rfl rfl ?aO ?aR (fun _ _ h => h) (fun _ h => h.elim) ?aF ?aB ?aS ?aL ?_; (case aR => repeat (first | exact (Kd.R_reads' HO138.out).2.2 | (with_reducible refine Kd.C_alloc ?_ _) | (with_reducible refine Kd.C_drewN ?_ _) | (with_reducible refine Kd.C_drew ?_))); (case aB => exact (by repeat (first | (with_reducible first | exact HB.out | apply below_alloc | apply pw_below_drewN | apply below_drew1) | exact HB.out))); (case aF => exact (fun k_ hk => Kd.fresh' (Kd.R_lt (by (with_reducible repeat (first | apply Kd.R_alloc | apply Kd.R_drewN | apply Kd.R_drew)); exact HO138.out)) k_ hk)); (case aO => exact (by (with_reducible repeat (first | apply Kd.R_alloc | apply Kd.R_drewN | apply Kd.R_drew)); exact Kd.R_mono HO_4.out (fun _ hk => hk.2))); (case aS => exact (below_size (by repeat (first | (with_reducible first | exact HB.out | apply below_alloc | apply pw_below_drewN | apply below_drew1) | exact HB.out)))); (case aL => have := LMc7.out; omega); intro v140 w10 ho hb hg hat; rw [← Ny139.out] at ho; have n0_ := Aside0.mk (Kd.R_after (ok := (fun _ => True)) (by (with_reducible repeat (first | apply Kd.R_alloc | apply Kd.R_drewN | apply Kd.R_drew)); exact HO138.out) hg hat); have n1_ := Aside0.mk (hb); have n2_ := Aside0.mk (ho); clear HO138; clear HB; clear HO_4; have HO138 := n0_; have HB := n1_; have HO141 := n2_; clear n0_ n1_ n2_; clear ho hb hg hat))
                  go_roundg k1
                  case measure => have := HK1.out; omega
                  case rel => exact ⟨(y139), (wrap64 (x9_1 + 1)), (by first | rfl | (simp; done) | (simp [*]; done)), H', ⟨by have := HK1.out; omega⟩, ⟨by (with_reducible repeat (first | apply Kd.R_alloc | apply Kd.R_drewN | apply Kd.R_drew)); exact Kd.R_mono HO141.out (fun _ hk => trivial)⟩, ⟨by repeat (first | (with_reducible first | exact HB.out | apply below_alloc | apply pw_below_drewN | apply below_drew1) | exact HB.out)⟩⟩
                · rw [if_neg c7] at H
                  exact absurd H (by simp)
          · rw [if_neg c4] at H
            exact absurd H (by simp)
        · rw [if_neg c3] at H
          exact absurd H (by simp)
      · rw [if_neg c2] at H
        have c2b0 : decide (x9_1 < (l0.length : Int)) = false := decide_eq_false c2
        clear c2
        simp only [Option.some.injEq, Prod.mk.injEq] at H
        obtain ⟨rfl, rfl⟩ := H
        go_wp2
        go_ret2
        exact ⟨_, by first | rfl | (simp [errW_none, errW_some] <;> rfl) | (simp [*, errW_none, errW_some] <;> rfl), by (with_reducible repeat (first | apply Kd.R_alloc | apply Kd.R_drewN | apply Kd.R_drew)); exact HO_4.out, by repeat (first | (with_reducible first | exact HB.out | apply below_alloc | apply pw_below_drewN | apply below_drew1) | exact HB.out)⟩

/-! ### page_Unwords: function 19 -/
def page_Unwords.l0 : Nat → List Int → List Int → Int → Option (List Int × Int)
  | 0, _, _, _ => none
  | k + 1, x0, x4, x5 => if x5 < (x0.length : Int) then (if 0 ≤ x5 then (if 0 ≤ (wrap64 (x5 + 1)) then (if (wrap64 (x5 + 1)) < (x0.length : Int) then (if x4.length < 17592186044416 then (page_Unwords.l0 k x0 (x4 ++ [Go.bits .or .i64 (wrap64 ((wrap64 (rd x0 x5)) * 256)) (wrap64 (rd x0 (wrap64 (x5 + 1))))]) (wrap64 (x5 + 2))) else (none)) else (none)) else (none)) else (none)) else (some (x4, 0))
def page_Unwords.f (k : Nat) (l0 : List Int) : Option (List Int × Int) := if ((l0.length : Int) % 2) = 0 then (page_Unwords.l0 k l0 ([] : List Int) 0) else (some (([] : List Int), 4))
theorem page_Unwords.mono_l : ∀ k, (∀ y0 y1 y2, LeO (page_Unwords.l0 k y0 y1 y2) (page_Unwords.l0 (k + 1) y0 y1 y2))
  | 0 => fun _ _ _ r h => by simp [page_Unwords.l0] at h
  | k + 1 => by
    have ih0 := page_Unwords.mono_l k
    · intro y0 y1 y2
      unfold page_Unwords.l0
      repeat' first
      | (with_reducible exact ih0 _ _ _)
      | (with_reducible exact LeO.refl _)
      | (with_reducible exact LeO.none _)
      | (with_reducible refine LeO.ite ?_ ?_)
      | (with_reducible refine LeO.bind ?_ (fun _ => ?_))
      | exact ih0 _ _ _
      | exact LeO.none _
      | refine LeO.ite ?_ ?_
      | refine LeO.bind ?_ (fun _ => ?_)
theorem page_Unwords.mono : ∀ a0 k, LeO (page_Unwords.f k a0) (page_Unwords.f (k + 1) a0) := by
  intro a0 k
  have ih0 := page_Unwords.mono_l k
  unfold page_Unwords.f
  repeat' first
      | (with_reducible exact ih0 _ _ _)
      | (with_reducible exact LeO.refl _)
      | (with_reducible exact LeO.none _)
      | (with_reducible refine LeO.ite ?_ ?_)
      | (with_reducible refine LeO.bind ?_ (fun _ => ?_))
      | exact ih0 _ _ _
      | exact LeO.none _
      | refine LeO.ite ?_ ?_
      | refine LeO.bind ?_ (fun _ => ?_)
def page_Unwords.T7 : Bool × List (List Nat × List Nat) := (true, [([], []), ([], []), ([], []), ([1, 2], [1, 2]), ([3], [3]), ([4], [4]), ([5], [5]), ([], []), ([], []), ([8], [8]), ([7, 9], [7, 9]), ([10], [10]), ([11], [11]), ([6, 12], [6, 12]), ([13], [13]), ([0, 14], [0, 14]), ([15, 15, 0, 1, 2, 3, 4, 5, 6, 7, 8, 9, 10, 11, 12, 13, 14, 15], [0, 15])])
def page_Unwords.B7 : List Nat := [0, 0, 0, 6, 14, 30, 62, 0, 0, 256, 896, 1920, 3968, 8190, 16382, 32767, 65535]
theorem page_Unwords.tab7 : rtab .any (opsOf Try.f19 7) = page_Unwords.T7 := by kernel_rfl
theorem page_Unwords.bits7 : waitsOk page_Unwords.T7.2 page_Unwords.B7 = true := by kernel_rfl
set_option maxHeartbeats 8000000 in
set_option maxRecDepth 100000 in
theorem page_Unwords.calls (k : Nat) (A0 : Option Addr) (c0 : Nat) (l0 : List Int) (r1 : List Int) (r2 : Int) (w : World) (hr0 : Kd.C (Kd.int .u8) w A0 l0.length l0) (hc0 : l0.length ≤ c0) (h : page_Unwords.f k l0 = some (r1, r2)) :
    Calls Try.prog 19 #[.slice A0 l0.length c0] w fun e w' => ∃ v0_ : Value, e = .returned (.tuple #[v0_, .int .i64 r2]) ∧ Kd.R (Kd.int .i64) 3 w' w.heap.size (fun _ => True) v0_ r1 ∧ Below w.heap.size w w' := by
  have HR0 := Aside0.mk hr0
  have HC0 := Aside0.mk hc0
  clear hr0 hc0
  have HB := Aside0.mk (Below.refl w.heap.size w)
  have H : (if ((l0.length : Int) % 2) = 0 then (page_Unwords.l0 k l0 ([] : List Int) 0) else (some (([] : List Int), 4))) = some (r1, r2) := h
  clear h
  by_cases c2 : ((l0.length : Int) % 2) = 0
  · rw [if_pos c2] at H
    have c2b0 : (((l0.length : Int) % 2) == 0) = true := beq_iff_eq.mpr c2
    have c2b1 : (((l0.length : Int) % 2) != 0) = false := bne_eq_false_iff_eq.mpr c2
    clear c2
    have H' := Aside0.mk H
    clear H
    go_enter Try.func19, Try.ntmps19
    go_wp2
    go_loopg [4, 5] k (fun kq v4 v5 w' => ∃ (x4_1 : List Int) (x5_1 : Int), v5 = .int .i64 x5_1 ∧ Aside0 (page_Unwords.l0 kq l0 x4_1 x5_1 = some (r1, r2)) ∧ Aside0 (kq ≤ k) ∧ Aside0 (Kd.R (Kd.int .i64) 3 w' w.heap.size (fun _ => True) v4 x4_1) ∧ Aside0 (Below w.heap.size w w'))
    case atStart => exact ⟨(([] : List Int)), (0), (by first | rfl | (simp; done) | (simp [*]; done)), H', ⟨Nat.le_refl _⟩, ⟨by first | exact Kd.R_nil _ _ _ _ _ | exact Kd.N_nil _ _ _ _ _ | exact Kd.V_nil _ _ _ _ _ | exact Kd.Q_nil _ _ _ _ _ | exact Kd.S_nil _ _ _ _ _⟩, ⟨by repeat (first | (with_reducible first | exact HB.out | apply below_alloc | apply pw_below_drewN | apply below_drew1) | exact HB.out)⟩⟩
    case round =>
      clear H'
      try clear c1
      try clear c2
      try clear c2b0
      try clear c2b1
      try clear p2
      obtain ⟨x4_1, x5_1, rfl, HA, HK1, HO_4, HB⟩ := hrel
      cases gk with
      | zero => exact absurd HA.out (by simp [page_Unwords.l0])
      | succ k1 =>
        have H := HA.out
        clear HA
        simp only [page_Unwords.l0] at H
        by_cases c3 : x5_1 < (l0.length : Int)
        · rw [if_pos c3] at H
          have c3b0 : decide (x5_1 < (l0.length : Int)) = true := decide_eq_true c3
          clear c3
          by_cases c4 : 0 ≤ x5_1
          · rw [if_pos c4] at H
            have c4b0 : decide (0 ≤ x5_1) = true := decide_eq_true c4
            clear c4
            obtain ⟨ji5, hji5⟩ : ∃ j_ : Int, (wrap64 (x5_1 + 1)) = j_ := ⟨_, rfl⟩
            replace H : (if 0 ≤ (ji5) then (if (ji5) < (l0.length : Int) then (if x4_1.length < 17592186044416 then (page_Unwords.l0 k1 l0 (x4_1 ++ [Go.bits .or .i64 (wrap64 ((wrap64 (rd l0 x5_1)) * 256)) (wrap64 (rd l0 (ji5)))]) (wrap64 (x5_1 + 2))) else (none)) else (none)) else (none)) = some (r1, r2) := by first | (rw [hji5] at H; exact H) | (simp only [hji5] at H ⊢; exact H)
            have hji5w : (IntKind.i64.wrap (x5_1 + 1)) = ji5 := (i64_w _).trans hji5
            by_cases c6 : 0 ≤ (ji5)
            · rw [if_pos c6] at H
              have c6b0 : decide (0 ≤ (ji5)) = true := decide_eq_true c6
              clear c6
              by_cases c7 : (ji5) < (l0.length : Int)
              · rw [if_pos c7] at H
                have c7b0 : decide ((ji5) < (l0.length : Int)) = true := decide_eq_true c7
                clear c7
                by_cases c8 : x4_1.length < 17592186044416
                · rw [if_pos c8] at H
                  have LMc8 := Aside0.mk c8
                  clear c8
                  obtain ⟨y144, hy144⟩ : ∃ y_ : List Int, y_ = (x4_1 ++ [Go.bits .or .i64 (wrap64 ((wrap64 (rd l0 x5_1)) * 256)) (wrap64 (rd l0 (ji5)))]) := ⟨_, rfl⟩
                  replace H : (page_Unwords.l0 k1 l0 y144 (wrap64 (x5_1 + 2))) = some (r1, r2) := by first | (rw [hy144]; with_reducible exact H) | (have H2_ := (Option.bind_some _ _).symm.trans H; rw [hy144]; with_reducible exact H2_) | (have H2_ := (Option.bind_some _ _).symm.trans H; with_reducible exact H2_) | with_reducible exact H | (rw [hy144]; exact H) | exact H
                  have Ny144 := Aside0.mk hy144
                  clear hy144
                  have H' := Aside0.mk H
                  clear H
                  try go_wp2
                  have n0_ := Aside0.mk (Kd.R_drew HO_4.out)
                  have n1_ := Aside0.mk (below_drew1 HB.out)
                  clear HO_4
                  clear HB
                  have HO_4 := n0_
                  have HB := n1_
                  clear n0_ n1_
                  have p142 : 0 ≤ (x5_1 : Int) := of_decide_eq_true (by first | (with_reducible assumption) | assumption)
                  have q142 : x5_1 < (l0.length : Int) := of_decide_eq_true (by first | (with_reducible assumption) | assumption)
                  obtain ⟨ad142, e142, hx142_0⟩ := Kd.at_int HR0.out x5_1 p142 q142
                  have hw142_0 := hx142_0
                  cases e142
                  replace hx142_0 := (HB.out.cell (World.block_lt_of_cell? w _ hx142_0)).trans hx142_0
                  replace p142 := eq_true p142
                  replace q142 := eq_true q142
                  have p143 : 0 ≤ ((ji5) : Int) := of_decide_eq_true (by first | (with_reducible assumption) | assumption)
                  have q143 : (ji5) < (l0.length : Int) := of_decide_eq_true (by first | (with_reducible assumption) | assumption)
                  obtain ⟨ad143, e143, hx143_0⟩ := Kd.at_int HR0.out (ji5) p143 q143
                  have hw143_0 := hx143_0
                  obtain rfl : ad142 = ad143 := (by injection e143)
                  replace hx143_0 := (HB.out.cell (World.block_lt_of_cell? w _ hx143_0)).trans hx143_0
                  replace p143 := eq_true p143
                  replace q143 := eq_true q143
                  refine start_ (n := 17) (S := fun w' => w'.cell? (ad142.add (x5_1).toNat) = some (.int .u8 (rd l0 x5_1)) ∧ w'.cell? (ad142.add ((ji5)).toNat) = some (.int .u8 (rd l0 (ji5)))) (ds := []) #[false, false, false, false, false, false, false, false, false, false, false, false, false, false, false, false, false] (by kernel_rfl) rfl rfl ⟨((HB.out.cell (World.block_lt_of_cell? w _ hw142_0)).trans hw142_0), ((HB.out.cell (World.block_lt_of_cell? w _ hw143_0)).trans hw143_0)⟩ (fun hHeld => ?_); refine with_tabW page_Unwords.tab7 page_Unwords.bits7 (fun HT_ HW_ => ?_)
                  generalize wr.drew = w9 at HO_4 HB hx142_0 hx143_0 hHeld ⊢
                  refine pure_ (i := 0) (N := some 16) (v := ?_) (a' := ?_) #[true, false, false, false, false, false, false, false, false, false, false, false, false, false, false, false, false] rfl rfl (any_of HT_.out (by kernel_rfl)) (fun _ _ _ h => h) (Or.inl ⟨by rfl, ?_⟩) ?_ ?_
                  rotate_left
                  · intro w'
                    go_simp
                    with_reducible rfl
                  rotate_left
                  · simp only [Act.put, List.setIfInBounds_toArray, List.set_cons_zero, List.set_cons_succ, i64_w, i32_w]
                    rfl
                  refine pure_ (i := 1) (N := some 17) (v := ?_) (a' := ?_) #[true, true, false, false, false, false, false, false, false, false, false, false, false, false, false, false, false] rfl rfl (any_of HT_.out (by kernel_rfl)) (fun _ _ _ h => h) (Or.inl ⟨by rfl, ?_⟩) ?_ ?_
                  rotate_left
                  · intro w'
                    go_simp
                    with_reducible rfl
                  rotate_left
                  · simp only [Act.put, List.setIfInBounds_toArray, List.set_cons_zero, List.set_cons_succ, i64_w, i32_w]
                    rfl
                  refine pure_ (i := 2) (N := some 18) (v := ?_) (a' := ?_) #[true, true, true, false, false, false, false, false, false, false, false, false, false, false, false, false, false] rfl rfl (any_of HT_.out (by kernel_rfl)) (fun _ _ _ h => h) (Or.inl ⟨by rfl, ?_⟩) ?_ ?_
                  rotate_left
                  · intro w'
                    go_simp
                    with_reducible rfl
                  rotate_left
                  · simp only [Act.put, List.setIfInBounds_toArray, List.set_cons_zero, List.set_cons_succ, i64_w, i32_w]
                    rfl
                  refine pure_ (i := 3) (N := some 19) (v := ?_) (a' := ?_) #[true, true, true, true, false, false, false, false, false, false, false, false, false, false, false, false, false] rfl rfl (any_of HT_.out (by kernel_rfl)) (fun _ _ _ h => h) (Or.inl ⟨by rfl, ?_⟩) ?_ ?_
                  rotate_left
                  · intro w'
                    go_simp
                    with_reducible rfl
                  rotate_left
                  · simp only [Act.put, List.setIfInBounds_toArray, List.set_cons_zero, List.set_cons_succ, i64_w, i32_w]
                    rfl
                  refine pure_ (i := 7) (N := some 23) (v := ?_) (a' := ?_) #[true, true, true, true, false, false, false, true, false, false, false, false, false, false, false, false, false] rfl rfl (any_of HT_.out (by kernel_rfl)) (fun _ _ _ h => h) (Or.inl ⟨by rfl, ?_⟩) ?_ ?_
                  rotate_left
                  · intro w'
                    go_simp
                    with_reducible rfl
                  rotate_left
                  · simp only [Act.put, List.setIfInBounds_toArray, List.set_cons_zero, List.set_cons_succ, i64_w, i32_w]
                    rfl
                  refine pure_ (i := 8) (N := some 24) (v := ?_) (a' := ?_) #[true, true, true, true, false, false, false, true, true, false, false, false, false, false, false, false, false] rfl rfl (any_of HT_.out (by kernel_rfl)) (fun _ _ _ h => h) (Or.inl ⟨by rfl, ?_⟩) ?_ ?_
                  rotate_left
                  · intro w'
                    go_simp
                    with_reducible rfl
                  rotate_left
                  · simp only [Act.put, List.setIfInBounds_toArray, List.set_cons_zero, List.set_cons_succ, i64_w, i32_w]
                    rfl
                  refine pure_ (i := 9) (N := some 25) (v := ?_) (a' := ?_) #[true, true, true, true, false, false, false, true, true, true, false, false, false, false, false, false, false] rfl rfl (any_of HT_.out (by kernel_rfl)) (fun _ _ _ h => h) (Or.inl ⟨by rfl, ?_⟩) ?_ ?_
                  rotate_left
                  · intro w'
                    go_simp
                    with_reducible rfl
                  rotate_left
                  · simp only [Act.put, List.setIfInBounds_toArray, List.set_cons_zero, List.set_cons_succ, i64_w, i32_w]
                    rfl
                  refine pure_ (i := 10) (N := some 26) (v := ?_) (a' := ?_) #[true, true, true, true, false, false, false, true, true, true, true, false, false, false, false, false, false] rfl rfl (any_of HT_.out (by kernel_rfl)) (fun _ _ _ h => h) (Or.inl ⟨by rfl, ?_⟩) ?_ ?_
                  rotate_left
                  · intro w'
                    go_simp
                    with_reducible rfl
                  rotate_left
                  · simp only [Act.put, List.setIfInBounds_toArray, List.set_cons_zero, List.set_cons_succ, i64_w, i32_w]
                    rfl
                  refine take_ (i := 4) (N := some 20) (v := ?_) (a' := ?_) #[true, true, true, true, true, false, false, true, true, true, true, false, false, false, false, false, false] rfl rfl (take_ofW HT_.out HW_.out (by kernel_rfl)) (fun _ _ _ h => h) (Or.inl ⟨by rfl, ?_⟩) hHeld ?_ ?_
                  rotate_left
                  · rintro w' ⟨s0, s1⟩
                    go_simp
                    with_reducible rfl
                  rotate_left
                  · simp only [Act.put, List.setIfInBounds_toArray, List.set_cons_zero, List.set_cons_succ, i64_w, i32_w]
                    rfl
                  refine pure_ (i := 5) (N := some 21) (v := ?_) (a' := ?_) #[true, true, true, true, true, true, false, true, true, true, true, false, false, false, false, false, false] rfl rfl (any_of HT_.out (by kernel_rfl)) (fun _ _ _ h => h) (Or.inl ⟨by rfl, ?_⟩) ?_ ?_
                  rotate_left
                  · intro w'
                    go_simp
                    with_reducible rfl
                  rotate_left
                  · simp only [Act.put, List.setIfInBounds_toArray, List.set_cons_zero, List.set_cons_succ, i64_w, i32_w]
                    rfl
                  refine pure_ (i := 6) (N := some 22) (v := ?_) (a' := ?_) #[true, true, true, true, true, true, true, true, true, true, true, false, false, false, false, false, false] rfl rfl (any_of HT_.out (by kernel_rfl)) (fun _ _ _ h => h) (Or.inl ⟨by rfl, ?_⟩) ?_ ?_
                  rotate_left
                  · intro w'
                    go_simp
                    with_reducible rfl
                  rotate_left
                  · simp only [Act.put, List.setIfInBounds_toArray, List.set_cons_zero, List.set_cons_succ, i64_w, i32_w]
                    rfl
                  refine take_ (i := 11) (N := some 27) (v := ?_) (a' := ?_) #[true, true, true, true, true, true, true, true, true, true, true, true, false, false, false, false, false] rfl rfl (take_ofW HT_.out HW_.out (by kernel_rfl)) (fun _ _ _ h => h) (Or.inl ⟨by rfl, ?_⟩) hHeld ?_ ?_
                  rotate_left
                  · rintro w' ⟨s0, s1⟩
                    go_simp
                    with_reducible rfl
                  rotate_left
                  · simp only [Act.put, List.setIfInBounds_toArray, List.set_cons_zero, List.set_cons_succ, i64_w, i32_w]
                    rfl
                  refine pure_ (i := 12) (N := some 28) (v := ?_) (a' := ?_) #[true, true, true, true, true, true, true, true, true, true, true, true, true, false, false, false, false] rfl rfl (any_of HT_.out (by kernel_rfl)) (fun _ _ _ h => h) (Or.inl ⟨by rfl, ?_⟩) ?_ ?_
                  rotate_left
                  · intro w'
                    go_simp
                    with_reducible rfl
                  rotate_left
                  · simp only [Act.put, List.setIfInBounds_toArray, List.set_cons_zero, List.set_cons_succ, i64_w, i32_w]
                    rfl
                  refine pure_ (i := 13) (N := some 29) (v := ?_) (a' := ?_) #[true, true, true, true, true, true, true, true, true, true, true, true, true, true, false, false, false] rfl rfl (any_of HT_.out (by kernel_rfl)) (fun _ _ _ h => h) (Or.inl ⟨by rfl, ?_⟩) ?_ ?_
                  rotate_left
                  · intro w'
                    go_simp
                    with_reducible rfl
                  rotate_left
                  · simp only [Act.put, List.setIfInBounds_toArray, List.set_cons_zero, List.set_cons_succ, i64_w, i32_w]
                    rfl
                  refine one_ (i := 14) (N := some 30) #[true, true, true, true, true, true, true, true, true, true, true, true, true, true, true, false, false] rfl rfl (one_of HT_.out (by kernel_rfl)) (by decide) (fun K hK => ?_)
                  refine value_ (w1 := ?_) (v := ?_) (by rfl) rfl ?_ ?_
                  rotate_left 2
                  · go_simp
                    constructor
                    · rfl
                    · rfl
                  refine hK.out _ _ ⟨(World.cell?_alloc_lt _ _ _ (World.block_lt_of_cell? _ _ (((HB.out.cell (World.block_lt_of_cell? w _ hw142_0)).trans hw142_0)))).trans (((HB.out.cell (World.block_lt_of_cell? w _ hw142_0)).trans hw142_0)), (World.cell?_alloc_lt _ _ _ (World.block_lt_of_cell? _ _ (((HB.out.cell (World.block_lt_of_cell? w _ hw143_0)).trans hw143_0)))).trans (((HB.out.cell (World.block_lt_of_cell? w _ hw143_0)).trans hw143_0))⟩ (fun hHeld => ?_)
                  clear hK K
                  refine norm_ (a' := ?_) ?_ ?_
                  rotate_left
                  · show Act.put _ (some 30) _ = _
                    simp only [Act.put, List.setIfInBounds_toArray, List.set_cons_zero, List.set_cons_succ, i64_w, i32_w]
                    rfl
                  refine one_ (i := 15) (N := some 31) #[true, true, true, true, true, true, true, true, true, true, true, true, true, true, true, true, false] rfl rfl (one_of HT_.out (by kernel_rfl)) (by decide) (fun K hK => ?_)
                  refine Kd.R_append_step (Kd.int .i64) (w0 := w) w.heap.size (by rfl) (.tmp 16) (.tmp 30) 35 3 (.int .i64 0) 8 rfl Try.underlying35 info3 rfl (by decide) (by omega) u4 x4_1 (Go.bits .or .i64 (wrap64 ((wrap64 (rd l0 x5_1)) * 256)) (wrap64 (rd l0 (ji5)))) [.int .i64 (Go.bits .or .i64 (wrap64 ((wrap64 (rd l0 x5_1)) * 256)) (wrap64 (rd l0 (ji5))))] (fun _ => True) (fun _ => False) rfl rfl ?aP (fun _ hk => hk.elim) ?aF ?aO ?aB ?aS ?aL ?_
                  (case aP => exact rfl)
                  (case aB => exact (by repeat (first | (with_reducible first | exact HB.out | apply below_alloc | apply pw_below_drewN | apply below_drew1) | exact HB.out)))
                  (case aF => exact (fun _ _ => trivial))
                  (case aO => exact (by (with_reducible repeat (first | apply Kd.R_alloc | apply Kd.R_drewN | apply Kd.R_drew)); exact HO_4.out))
                  (case aS => exact (below_size (by repeat (first | (with_reducible first | exact HB.out | apply below_alloc | apply pw_below_drewN | apply below_drew1) | exact HB.out))))
                  (case aL => have := LMc8.out; omega)
                  intro v145 w10 ho hb hg hat
                  rw [← Ny144.out] at ho
                  have n0_ := Aside0.mk (hb)
                  have n1_ := Aside0.mk (ho)
                  clear HB
                  clear HO_4
                  have HB := n0_
                  have HO146 := n1_
                  clear n0_ n1_
                  clear ho hb hg hat
                  refine hK.out _ _ ⟨((HB.out.cell (World.block_lt_of_cell? w _ hw142_0)).trans hw142_0), ((HB.out.cell (World.block_lt_of_cell? w _ hw143_0)).trans hw143_0)⟩ (fun hHeld => ?_)
                  clear hK K
                  refine norm_ (a' := ?_) ?_ ?_
                  rotate_left
                  · show Act.put _ (some 31) _ = _
                    simp only [Act.put, List.setIfInBounds_toArray, List.set_cons_zero, List.set_cons_succ, i64_w, i32_w]
                    rfl
                  refine pure_ (i := 16) (N := some 4) (v := ?_) (a' := ?_) #[true, true, true, true, true, true, true, true, true, true, true, true, true, true, true, true, true] rfl rfl (any_of HT_.out (by kernel_rfl)) (fun _ _ _ h => h) (Or.inl ⟨by rfl, ?_⟩) ?_ ?_
                  rotate_left
                  · intro w'
                    go_simp
                    with_reducible rfl
                  rotate_left
                  · simp only [Act.put, List.setIfInBounds_toArray, List.set_cons_zero, List.set_cons_succ, i64_w, i32_w]
                    rfl
                  refine done_ (done_of HT_.out (by kernel_rfl)) ?_
                  try go_wp2
                  go_roundg k1
                  case measure => have := HK1.out; omega
                  case rel => exact ⟨(y144), (wrap64 (x5_1 + 2)), (by first | rfl | (simp; done) | (simp [*]; done)), H', ⟨by have := HK1.out; omega⟩, ⟨by (with_reducible repeat (first | apply Kd.R_alloc | apply Kd.R_drewN | apply Kd.R_drew)); exact HO146.out⟩, ⟨by repeat (first | (with_reducible first | exact HB.out | apply below_alloc | apply pw_below_drewN | apply below_drew1) | exact HB.out)⟩⟩
                · rw [if_neg c8] at H
                  exact absurd H (by simp)
              · rw [if_neg c7] at H
                exact absurd H (by simp)
            · rw [if_neg c6] at H
              exact absurd H (by simp)
          · rw [if_neg c4] at H
            exact absurd H (by simp)
        · rw [if_neg c3] at H
          have c3b0 : decide (x5_1 < (l0.length : Int)) = false := decide_eq_false c3
          clear c3
          simp only [Option.some.injEq, Prod.mk.injEq] at H
          obtain ⟨rfl, rfl⟩ := H
          go_wp2
          go_ret2
          exact ⟨_, by first | rfl | (simp [errW_none, errW_some] <;> rfl) | (simp [*, errW_none, errW_some] <;> rfl), by (with_reducible repeat (first | apply Kd.R_alloc | apply Kd.R_drewN | apply Kd.R_drew)); exact HO_4.out, by repeat (first | (with_reducible first | exact HB.out | apply below_alloc | apply pw_below_drewN | apply below_drew1) | exact HB.out)⟩
  · rw [if_neg c2] at H
    have c2b0 : (((l0.length : Int) % 2) == 0) = false := beq_eq_false_iff_ne.mpr c2
    have c2b1 : (((l0.length : Int) % 2) != 0) = true := bne_iff_ne.mpr c2
    simp only [Option.some.injEq, Prod.mk.injEq] at H
    obtain ⟨rfl, rfl⟩ := H
    go_enter Try.func19, Try.ntmps19
    go_wp2
    go_ret2
    exact ⟨_, by first | rfl | (simp [errW_none, errW_some] <;> rfl) | (simp [*, errW_none, errW_some] <;> rfl), by first | exact Kd.R_nil _ _ _ _ _ | exact Kd.N_nil _ _ _ _ _ | exact Kd.V_nil _ _ _ _ _ | exact Kd.Q_nil _ _ _ _ _ | exact Kd.S_nil _ _ _ _ _, by repeat (first | (with_reducible first | exact HB.out | apply below_alloc | apply pw_below_drewN | apply below_drew1) | exact HB.out)⟩

/-! ### page_Split: function 21: this session's own text -/
theorem info22s : (Try.prog.info? 22).map (fun i => (i.zero, i.size, i.bytes)) = some (some (.slice none 0 0), 1, 24) := by kernel_rfl
def page_Split.l0 : Nat → List Int → Int → List (List Int) → Option (List (List Int))
  | 0, _, _, _ => none
  | k + 1, b, n, out => if 0 < b.length then (if out.length < 5000000000000 then page_Split.l0 k (b.drop (if (b.length : Int) < n then (b.length : Int) else n).toNat) n (out ++ [b.take (if (b.length : Int) < n then (b.length : Int) else n).toNat]) else none) else some out
/-- What page.Split tells. -/
def page_Split.f (k : Nat) (b : List Int) (n : Int) : Option (List (List Int)) := if n < 1 then some [] else if b.length < 140737488355328 then page_Split.l0 k b n [] else none
theorem page_Split.mono_l : ∀ k a b c, LeO (page_Split.l0 k a b c) (page_Split.l0 (k + 1) a b c)
  | 0 => fun _ _ _ r h => by simp [page_Split.l0] at h
  | k + 1 => fun a b c => by
    rw [page_Split.l0, page_Split.l0]
    exact LeO.ite (LeO.ite (page_Split.mono_l k _ _ _) (LeO.refl _)) (LeO.refl _)
theorem page_Split.mono : ∀ a0 a1 k, LeO (page_Split.f k a0 a1) (page_Split.f (k + 1) a0 a1) := by
  intro a b k
  unfold page_Split.f
  exact LeO.ite (LeO.refl _) (LeO.ite (page_Split.mono_l k _ _ _) (LeO.refl _))
set_option maxHeartbeats 4000000 in
set_option maxRecDepth 100000 in
theorem page_Split.calls (k : Nat) (A0 : Option Addr) (c0 : Nat) (l0 : List Int) (a1 : Int) (r : List (List Int)) (w : World) (hr0 : Kd.C (Kd.int .u8) w A0 l0.length l0) (hc0 : l0.length ≤ c0) (h : page_Split.f k l0 a1 = some r) :
    Calls Try.prog 21 #[.slice A0 l0.length c0, .int .i64 a1] w fun e w' => ∃ v0_ : Value, e = .returned (v0_) ∧ Kd.N (Kd.slice 5 (Kd.int .u8)) 22 w' w.heap.size (fun k_ => w.heap.size ≤ k_) v0_ r ∧ Below w.heap.size w w' := by
  unfold page_Split.f at h
  by_cases h1 : a1 < 1
  · rw [if_pos h1] at h
    obtain rfl := Option.some.inj h
    have b1 : decide (a1 < 1) = true := decide_eq_true h1
    clear h h1 hr0 hc0
    go_enter Try.func21, Try.ntmps21
    go_wp2
    go_ret
    exact ⟨_, rfl, Kd.N_nil _ _ _ _ _, Below.refl _ _⟩
  · rw [if_neg h1] at h
    by_cases h2 : l0.length < 140737488355328
    · rw [if_pos h2] at h
      have b1 : decide (a1 < 1) = false := decide_eq_false h1
      have HR0 := Aside0.mk hr0
      have HC0 := Aside0.mk hc0
      have H := Aside0.mk h
      have HN1 := Aside0.mk h1
      clear h h1 hr0 hc0
      go_enter Try.func21, Try.ntmps21
      go_wp2_with fail
      go_at_call 40
      refine (bytes_Clone.calls A0 c0 l0 l0 _ HR0.out HC0.out (by unfold bytes_Clone.f; rw [if_pos h2])).mono ?_
      rintro ex w1 ⟨v, rfl, hr, hb⟩
      have HB1 := Aside0.mk hb
      have HV1 := Aside0.mk (show Kd.V (Kd.int .u8) 5 w1 w.heap.size (fun k_ => w.heap.size ≤ k_) v l0 from Kd.R_V (Kd.R_reok rfl hr (fun k hk => Kd.R_base hr k hk)))
      clear hr hb h2
      go_wp2
      go_loopg [0, 5] k (fun kq v0 v5 w' => ∃ (x0 : List Int) (x5 : List (List Int)), Aside0 (page_Split.l0 kq x0 a1 x5 = some r) ∧ Aside0 (Kd.V (Kd.int .u8) 5 w' w.heap.size (fun k_ => w.heap.size ≤ k_ ∧ some k_ ≠ (v5 : Value).ownBlock) v0 x0) ∧ Aside0 (Kd.N (Kd.slice 5 (Kd.int .u8)) 22 w' w.heap.size (fun k_ => w.heap.size ≤ k_) v5 x5) ∧ Aside0 (Below w.heap.size w w'))
      case atStart => exact ⟨l0, [], H, ⟨Kd.V_mono HV1.out (fun _ hk => ⟨hk, by simp [Value.ownBlock]⟩)⟩, ⟨Kd.N_nil _ _ _ _ _⟩, HB1⟩
      case round =>
        clear H HB1 HV1
        obtain ⟨x0, x5, HA, HV, HN, HB⟩ := hrel
        cases gk with
        | zero => exact absurd HA.out (by simp [page_Split.l0])
        | succ k1 =>
          have h := HA.out
          clear HA
          rw [page_Split.l0] at h
          obtain ⟨A, c, e0⟩ := Kd.V_slice HV.out
          subst e0
          obtain ⟨A5, c5, e5⟩ := Kd.N_slice HN.out
          subst e5
          by_cases hl : 0 < x0.length
          · rw [if_pos hl] at h
            have p1 : decide (0 < (x0.length : Int)) = true := decide_eq_true (by omega)
            have p1n : decide (0 < x0.length) = true := decide_eq_true hl
            by_cases ho : x5.length < 5000000000000
            · rw [if_pos ho] at h
              obtain ⟨j, hj⟩ : ∃ j : Int, (if (x0.length : Int) < a1 then (x0.length : Int) else a1) = j := ⟨_, rfl⟩
              rw [hj] at h
              have hjb : 0 ≤ j ∧ j ≤ x0.length ∧ 1 ≤ j := by have := HN1.out; split at hj <;> omega
              obtain ⟨y1, hy1⟩ : ∃ y : List Int, y = x0.take j.toNat := ⟨_, rfl⟩
              obtain ⟨y2, hy2⟩ : ∃ y : List Int, y = x0.drop j.toNat := ⟨_, rfl⟩
              rw [← hy1, ← hy2] at h
              have H2 := Aside0.mk h
              have HO := Aside0.mk ho
              have hv := Kd.V_at HV.out
              obtain ⟨i0, hi0, _, hsz, _⟩ := info_parts infoU8
              have hcap := cut_cap (P := Try.prog) 22 5 .i64 Try.underlying22 hi0 A x0.length c j hjb.1 hjb.2.1 hv.2.1
              have hcut := cut_from (P := Try.prog) 22 5 .i64 Try.underlying22 hi0 1 hsz A x0.length c j hjb.1 hjb.2.1
              obtain ⟨A2, hA2⟩ : ∃ A1, A1 = (if c = j.toNat then A else (A : Option Addr).map (·.add (j.toNat * 1))) := ⟨_, rfl⟩
              have DKA2 := Aside0.mk hA2
              have hF1 := Kd.F_take (m := j.toNat) hv.2.2 (by omega)
              have hF2 := Kd.F_cut (m := j.toNat) (c := c) hv.2.2 (by omega) hv.2.1
              have el : (x0.take j.toNat).length = j.toNat := by rw [List.length_take]; omega
              have el2 : (x0.drop j.toNat).length = x0.length - j.toNat := List.length_drop
              rw [← hy1] at el hF1
              rw [← hy2] at el2 hF2
              rw [← hA2, ← el2] at hcut
              rw [← el] at hcap
              have HF1 := Aside0.mk hF1
              have HF2 := Aside0.mk (show Kd.F (Kd.int .u8) wr _ A2 y2.length y2 by rw [hA2]; exact hF2)
              have HCC := Aside0.mk (show y2.length ≤ c - j.toNat by rw [el2]; have := hv.2.1; omega)
              have HJ := Aside0.mk hjb
              have q0 := eq_true hjb.1
              have q1 := eq_true hjb.2.1
              clear hv hF1 hF2 hA2 el2 hi0 hsz h ho hjb el HV hy1 hy2
              go_wp2_with (first | ((with_reducible refine gate_builtin (b := .append) (xs := #[.tmp 18, .tmp 23]) rfl ?_); at_builtin; refine Kd.N_append (Kd.slice 5 (Kd.int .u8)) (w0 := w) w.heap.size rfl (.tmp 18) (.tmp 23) 42 22 (.slice none 0 0) 24 rfl Try.underlying42 info22s rfl (by decide) (by decide) _ x5 y1 [.slice A y1.length y1.length] (fun k_ => w.heap.size ≤ k_) (fun k_ => w.heap.size ≤ k_ ∧ some k_ ≠ (Value.slice A5 x5.length c5).ownBlock) rfl rfl ?hp (fun _ hk => hk) ?hfresh HN.out HB.out HB.out.size ?hl ?_; (case hp => exact Kd.FK_slice_mk (Nat.le_refl _) HF1.out); (case hfresh => exact fun k hk => Nat.le_trans HB.out.size hk); (case hl => have := HO.out; omega); intro v1 w3 hn hb hg hat; have HN3 := Aside0.mk hn; have HB3 := Aside0.mk hb; have HF3 := Aside0.mk (Kd.F_after HF2.out hg hat); clear hn hb hg hat))
              go_roundg k1
              case measure => omega
              case rel => exact ⟨_, _, H2, ⟨Kd.V_mk HCC.out HF3.out⟩, HN3, HB3⟩
            · rw [if_neg ho] at h; cases h
          · rw [if_neg hl] at h
            obtain rfl := Option.some.inj h
            have p1 : decide (0 < (x0.length : Int)) = false := decide_eq_false (by omega)
            have p1n : decide (0 < x0.length) = false := decide_eq_false hl
            clear h hl
            go_wp2
            go_ret
            exact ⟨_, rfl, HN.out, HB.out⟩
    · rw [if_neg h2] at h; cases h

end Go.Proofs.Ytgflafifemhmgaa.MPg
