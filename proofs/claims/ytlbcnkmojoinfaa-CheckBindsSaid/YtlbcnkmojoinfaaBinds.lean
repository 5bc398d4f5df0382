/- The walk of the law CheckBinds. -/
import Derived.Test.YtlbcnkmojoinfaaFewer
namespace Go.Proofs.Ytlbcnkmojoinfaa.ChecksV
open Go.RowKit Go.Proofs.Ytlbcnkmojoinfaa.MCk Go.Proofs.YtlbcnkmojoinfaaW.PrintWords Go.Proofs.YtlbcnkmojoinfaaW.PrintLast
/-- The variables that stand with Is in tests. -/
def isT : List S61 → List ByteArray → List ByteArray
  | [], b => b
  | t :: r, b => isT r (if t.f0 = 0 ∧ ¬ t.f1.toList = [] then b ++ [t.f1] else b)
def isA : List S57 → List ByteArray → List ByteArray
  | [], b => b
  | a :: r, b => isA r (isT a.f2 b)
def isC : List S44 → List ByteArray → List ByteArray
  | [], b => b
  | c :: r, b => isC r (if c.f0 = true then b else isA c.f2 b)
/-- Names of b are names of n. -/
def SubN (b n : List ByteArray) : Prop := ∀ x, hasN b x = true → hasN n x = true
theorem hasN_append (a b : List ByteArray) (x : ByteArray) : hasN (a ++ b) x = (hasN a x || hasN b x) := by
  unfold hasN
  rw [List.any_append]
theorem SubN.more {b n : List ByteArray} (h : SubN b n) (m : List ByteArray) : SubN b (n ++ m) := fun x hx => by rw [hasN_append, h x hx]; rfl
theorem SubN.both {b n : List ByteArray} (h : SubN b n) (m : List ByteArray) : SubN (b ++ m) (n ++ m) := fun x hx => by
  rw [hasN_append, Bool.or_eq_true] at hx
  rw [hasN_append, Bool.or_eq_true]
  exact hx.imp (h x) id
theorem binds_sub : ∀ (l : List S61) (b n : List ByteArray), SubN b n → SubN (bindsT l b).1 (isT l n)
  | [], b, n, h => h
  | t :: r, b, n, h => by
    rw [bindsT, isT]
    by_cases h1 : t.f1.toList = [] ∨ hasN b t.f1 = true
    · rw [if_pos h1]
      refine binds_sub r b _ ?_
      split
      · exact h.more _
      · exact h
    · rw [if_neg h1]
      by_cases h2 : t.f0 = 0
      · rw [if_pos h2, if_pos ⟨h2, fun e => h1 (.inl e)⟩]
        exact binds_sub r _ _ (h.both _)
      · rw [if_neg h2]
        intro x hx
        cases hx
theorem attrs_sub (cs : List ByteArray) : ∀ (l : List S57) (met b n : List ByteArray), SubN b n → SubN (attrsT cs l met b).1 (isA l n)
  | [], met, b, n, h => h
  | a :: r, met, b, n, h => by
    rw [attrsT, isA]
    split
    · split
      · intro x hx
        cases hx
      · split
        · exact attrs_sub cs r _ _ _ (binds_sub a.f2 b n h)
        · intro x hx
          cases hx
    · intro x hx
      cases hx
theorem cond_sub (l : List S30) (c : S44) (b n : List ByteArray) (h : SubN b n) : SubN (condT l c.f0 c.f1 c.f2 b).1 (if c.f0 = true then n else isA c.f2 n) := by
  unfold condT
  split
  · intro x hx
    cases hx
  · split
    · by_cases hn : c.f0 = true
      · rw [if_pos hn, if_pos hn]
        exact h
      · rw [if_neg hn, if_neg hn]
        exact attrs_sub _ c.f2 [] b n h
    · intro x hx
      cases hx
theorem conds_sub (l : List S30) : ∀ (cs : List S44) (b n : List ByteArray), SubN b n → SubN (condsT l cs b).1 (isC cs n)
  | [], b, n, h => h
  | c :: r, b, n, h => by
    rw [condsT, isC]
    split
    · exact conds_sub l r _ _ (cond_sub l c b n h)
    · intro x hx
      cases hx
theorem rule_binds (l : List S30) (r : S38) (h : ruleT l r = 0) : ∃ b, SubN b (isC r.f1 []) ∧ actsT l r.f1 r.f2 b = 0 := by
  unfold ruleT at h
  split at h
  · exact absurd h (by decide)
  · split at h
    · exact ⟨_, conds_sub l r.f1 [] [] (fun x hx => hx), h⟩
    · rename_i h1
      exact absurd h h1
theorem expr_sub (b n : List ByteArray) (hs : SubN b n) : ∀ (l : List S80), exprT b l = 0 → exprT n l = 0
  | [], h => h
  | x :: r, h => by
    rw [exprT] at h ⊢
    split at h
    · exact absurd h (by decide)
    · rename_i h1
      rw [if_neg (fun h2 => h1 ⟨h2.1, Bool.eq_false_iff.mpr (fun h3 => by rw [hs _ h3] at h2; cases h2.2)⟩)]
      exact expr_sub b n hs r h
theorem told_l (b : List ByteArray) (hb : b.length ≤ 90000) (l : List S80) (hl : l.length ≤ 1000) (d : Nat) : ∀ (k j : Nat), j + d = l.length → exprT b (l.drop j) = 0 → intarsialaw17_told.l0 (k + 100000 + d + 1) l b (j : Int) = some true := by
  induction d with
  | zero =>
    intro k j hj _
    rw [intarsialaw17_told.l0, if_neg (by omega)]
  | succ d ih =>
    intro k j hj he
    have hlt : j < l.length := by omega
    have ew : wrap64 ((j : Int) + 1) = ((j + 1 : Nat) : Int) := by unfold wrap64; omega
    rw [List.drop_eq_getElem_cons hlt, exprT] at he
    rw [show k + 100000 + (d + 1) + 1 = (k + 100000 + d + 1) + 1 by omega, intarsialaw17_told.l0, if_pos (by omega), if_pos (by omega), rd80 l j hlt, ew]
    generalize l[j] = t at he
    by_cases hc : t.f0 = 1 ∧ hasN b t.f2 = false
    · rw [if_pos hc] at he
      exact absurd he (by decide)
    · rw [if_neg hc] at he
      by_cases h1 : t.f0 = 1
      · have hh : hasN b t.f2 = true := by
          cases h : hasN b t.f2 with
          | true => rfl
          | false => exact absurd ⟨h1, h⟩ hc
        rw [if_pos h1, in_is _ b t.f2 (by omega) (by omega), Option.bind_some, if_pos hh]
        exact ih k (j + 1) (by omega) he
      · rw [if_neg h1]
        exact ih k (j + 1) (by omega) he
theorem told_is (l : List S80) (b : List ByteArray) (hl : l.length ≤ 1000) (hb : b.length ≤ 90000) (he : exprT b l = 0) : intarsialaw17_told.f 101001 l b = some true := by
  have := told_l b hb l hl l.length (1000 - l.length) 0 (by omega) he
  rw [show 1000 - l.length + 100000 + l.length + 1 = 101001 by omega] at this
  exact this
theorem sets_each (cs b : List ByteArray) : ∀ (l : List S67) (met : List ByteArray), setsT cs b met l = 0 → ∀ s ∈ l, exprT b s.f1 = 0
  | [], met, h => fun s hs => by cases hs
  | s :: r, met, h => by
    rw [setsT] at h
    split at h
    · split at h
      · exact absurd h (by decide)
      · split at h
        · rename_i h1
          intro x hx
          rcases List.mem_cons.mp hx with rfl | hx
          · exact h1
          · exact sets_each cs b r _ h x hx
        · rename_i h1
          exact absurd h h1
    · exact absurd h (by decide)
theorem exprs_each (b : List ByteArray) : ∀ (l : List (List S80)), exprsT b l = 0 → ∀ x ∈ l, exprT b x = 0
  | [], h => fun s hs => by cases hs
  | s :: r, h => by
    rw [exprsT] at h
    split at h
    · rename_i h1
      intro x hx
      rcases List.mem_cons.mp hx with rfl | hx
      · exact h1
      · exact exprs_each b r h x hx
    · rename_i h1
      exact absurd h h1
theorem act_parts (l : List S30) (cs : List S44) (a : S65) (b : List ByteArray) (h : actT l cs a b = 0) : (∀ s ∈ a.f4, exprT b s.f1 = 0) ∧ ∀ x ∈ a.f5, exprT b x = 0 := by
  unfold actT at h
  split at h
  · split at h
    · rename_i h1
      exact ⟨sets_each _ b a.f4 [] h1, exprs_each b a.f5 h⟩
    · rename_i h1
      exact absurd h h1
  · rename_i h1
    exact absurd h h1
theorem act_told4 (l : List S30) (cs : List S44) (a : S65) (b n : List ByteArray) (h : actT l cs a b = 0) (hs : SubN b n) (hf : FewAct a) (hn : n.length ≤ 90000) : ∀ s ∈ a.f4, intarsialaw17_told.f 101001 s.f1 n = some true :=
  fun s hm => told_is s.f1 n (hf.2.1 s hm).2 hn (expr_sub b n hs _ ((act_parts l cs a b h).1 s hm))
theorem act_told5 (l : List S30) (cs : List S44) (a : S65) (b n : List ByteArray) (h : actT l cs a b = 0) (hs : SubN b n) (hf : FewAct a) (hn : n.length ≤ 90000) : ∀ x ∈ a.f5, intarsialaw17_told.f 101001 x n = some true :=
  fun x hm => told_is x n (hf.2.2.2 x hm) hn (expr_sub b n hs _ ((act_parts l cs a b h).2 x hm))
theorem sub_bind3 (a : S65) (b n : List ByteArray) (h3 : a.f0 = 3) (h : SubN b n) : SubN (bindA a b) (n ++ [a.f3]) := by
  unfold bindA
  rw [if_pos h3]
  exact h.both _
end Go.Proofs.Ytlbcnkmojoinfaa.ChecksV
namespace Go.Proofs.Ytlbcnkmojoinfaa.MCk
open Go.RowKit Go.Maps Go.Proofs.Ytlbcnkmojoinfaa.Hand Go.Proofs.Ytlbcnkmojoinfaa.ChecksV Go.Proofs.YtlbcnkmojoinfaaW.PrintWords Go.Proofs.YtlbcnkmojoinfaaW.PrintLast Go.Proofs.YtlbcnkmojoinfaaW.PrintMore
set_option linter.unusedVariables false
set_option linter.unusedSimpArgs false
set_option maxHeartbeats 16000000 in
set_option maxRecDepth 100000 in
theorem CheckBinds_calls (xs : List S30) (A : Option Addr) (c : Nat) (ys : List S38) (B : Option Addr) (d : Nat) (w : World)
    (hC : Kd.C k30 w A xs.length xs) (hc : xs.length ≤ c) (hE : Kd.C k38 w B ys.length ys) (he : ys.length ≤ d) :
    Calls Try.prog 5 #[.agg #[.slice A xs.length c, .slice B ys.length d]] w fun e w' => e = .returned (.bool true) ∧ Below w.heap.size w w' := by
  have HC := Aside0.mk hC
  have HCc := Aside0.mk hc
  have HE := Aside0.mk hE
  have HEc := Aside0.mk he
  clear hC hc hE he
  go_enter Try.func5, Try.ntmps5
  go_upto_region 1 with fail
  have HB := Aside0.mk (Below.refl w.heap.size w)
  obtain ⟨g3, hg3⟩ : ∃ g, g = w.heap.size := ⟨_, rfl⟩
  have hW := below_alloc (Below.refl w.heap.size w) (Obj.cells #[Value.slice A xs.length c, Value.slice B ys.length d] 25)
  have hN := blk_new w (Obj.cells #[Value.slice A xs.length c, Value.slice B ys.length d] 25)
  rw [← hg3] at hN ⊢
  generalize w.alloc (Obj.cells #[Value.slice A xs.length c, Value.slice B ys.length d] 25) = W1 at hW hN ⊢
  have n_HB := Aside0.mk (below_step HB.out hW)
  have n_HC := Aside0.mk (Kd.C_below HC.out hW)
  have n_HE := Aside0.mk (Kd.C_below HE.out hW)
  clear HB HC HE
  have HB := n_HB
  have HC := n_HC
  have HE := n_HE
  clear n_HB n_HC n_HE
  have HK3 := Aside0.mk (hN)
  have Eg3 := Aside0.mk hg3
  clear hW hN hg3
  have k0 := blk_cell HK3.out 0
  have k1 := blk_cell HK3.out 1
  go_wp2_with fail
  go_at_call 7
  clear k0 k1
  obtain ⟨r, hr, hP⟩ := light_tell xs ys
  refine (intarsiaref15_Light.calls 2000 A c xs B d ys r W1 HC.out HCc.out HE.out HEc.out hr).mono ?_
  clear hr
  rintro ex W2 ⟨rfl, hb⟩
  have n_HB := Aside0.mk (below_step HB.out hb)
  have n_HC := Aside0.mk (Kd.C_below HC.out hb)
  have n_HE := Aside0.mk (Kd.C_below HE.out hb)
  have n_HK3 := Aside0.mk (blk_below HK3.out hb)
  clear HB HC HE HK3
  have HB := n_HB
  have HC := n_HC
  have HE := n_HE
  have HK3 := n_HK3
  clear n_HB n_HC n_HE n_HK3
  clear hb
  cases r with
  | false =>
    clear hP
    go_wp2_with fail
    go_at_call 8
    refine (awake_calls W2).mono ?_
    rintro ex VA ⟨rfl, hb⟩
    have HBA := Aside0.mk (below_step HB.out hb)
    clear hb
    go_wp2_with fail
    go_ret
    exact ⟨rfl, HBA.out⟩
  | true =>
    obtain ⟨hFC, hFR, hx, hy⟩ := hP rfl
    have HFC := Aside0.mk hFC
    have HFR := Aside0.mk hFR
    have HX := Aside0.mk hx
    have HY := Aside0.mk hy
    clear hP hFC hFR hx hy
    have k0 := blk_cell HK3.out 0
    have k1 := blk_cell HK3.out 1
    go_wp2_with fail
    go_at_call 18
    clear k0 k1
    refine (check_Program xs A c ys B d W2 HC.out HCc.out HE.out HFC.out HFR.out).mono ?_
    rintro ex W3 ⟨rfl, hb⟩
    have n_HB := Aside0.mk (below_step HB.out hb)
    have n_HC := Aside0.mk (Kd.C_below HC.out hb)
    have n_HE := Aside0.mk (Kd.C_below HE.out hb)
    have n_HK3 := Aside0.mk (blk_below HK3.out hb)
    clear HB HC HE HK3
    have HB := n_HB
    have HC := n_HC
    have HE := n_HE
    have HK3 := n_HK3
    clear n_HB n_HC n_HE n_HK3
    clear hb
    by_cases hz : programT xs ys = 0
    · skip
      have HZ := Aside0.mk (rules_one xs ys [] (prog_parts hz).2)
      rw [hz]
      clear hz
      go_wp2_with fail
      have HL := Aside0.mk (Below.refl W3.heap.size W3)
      go_loopw [3] (fun i wr => ∃ (j : Nat), j ≤ ys.length ∧ i = .int .i64 (j : Int) ∧ Below W3.heap.size W3 wr)
        (fun i _ => ys.length - (intOf i).toNat)
      case atStart => exact ⟨0, Nat.zero_le _, rfl, HL.out⟩
      case round =>
        obtain ⟨j, hj, rfl, hb⟩ := hrel
        clear HL
        have HL := Aside0.mk hb
        clear hb
        have q1 := blk_cell (blk_below HK3.out HL.out) 1
        by_cases hlt : j < ys.length
        · skip
          have b1 : decide ((j : Int) < (ys.length : Int)) = true := decide_eq_true (by omega)
          have b1n : decide (j < ys.length) = true := decide_eq_true (by omega)
          have HLT := Aside0.mk hlt
          obtain ⟨ad, B1, d1, B2, d2, e1, hx0, hx1, hx2, hl1, hi1, hl2, hi2⟩ := at_T38 HE.out (j : Int) (by omega) (by omega)
          subst e1
          rw [rd38 ys j hlt] at hx0 hx1 hx2 hl1 hi1 hl2 hi2
          have hfe := (HFR.out.2 _ (List.getElem_mem hlt)).2
          have hrl := HZ.out _ (List.getElem_mem hlt)
          rw [Int.toNat_natCast] at hx0 hx1 hx2
          generalize ys[j] = y at hx0 hx1 hx2 hl1 hi1 hl2 hi2 hfe hrl
          replace hx0 := (HL.out.cell (World.block_lt_of_cell? W3 _ hx0)).trans hx0
          replace hx1 := (HL.out.cell (World.block_lt_of_cell? W3 _ hx1)).trans hx1
          replace hx2 := (HL.out.cell (World.block_lt_of_cell? W3 _ hx2)).trans hx2
          have p0 := eq_true (show 0 ≤ (j : Int) by omega)
          have p1 := eq_true (show (j : Int) < (ys.length : Int) by omega)
          have HI1 := Aside0.mk hi1
          have HI2 := Aside0.mk hi2
          have HFE := Aside0.mk hfe
          have HRL := Aside0.mk hrl
          clear hl1 hi1 hl2 hi2 hfe hrl hlt
          go_upto_region 7 with fail
          obtain ⟨g4, hg4⟩ : ∃ g, g = wr.heap.size := ⟨_, rfl⟩
          have hW := below_alloc (Below.refl wr.heap.size wr) (Obj.cells #[Value.string y.f0, Value.slice B1 y.f1.length d1, Value.slice B2 y.f2.length d2] 38)
          have hN := blk_new wr (Obj.cells #[Value.string y.f0, Value.slice B1 y.f1.length d1, Value.slice B2 y.f2.length d2] 38)
          rw [← hg4] at hN ⊢
          generalize wr.alloc (Obj.cells #[Value.string y.f0, Value.slice B1 y.f1.length d1, Value.slice B2 y.f2.length d2] 38) = Va at hW hN ⊢
          have n_HL := Aside0.mk (below_step HL.out hW)
          have HK4 := Aside0.mk hN
          clear hW hN hg4 HL hx0 hx1 hx2 q1 b1 b1n p0 p1
          have HL := n_HL
          clear n_HL
          go_wp2_with fail
          go_loopw [5, 6] (fun v i wr => ∃ (m : Nat) (n : List ByteArray), m ≤ y.f1.length ∧ i = .int .i64 (m : Int) ∧ n.length ≤ 120 * m ∧ isC (y.f1.drop m) n = isC y.f1 [] ∧ Kd.R Kd.string 9 wr W3.heap.size (fun k => g4 < k) v n ∧ Below W3.heap.size W3 wr ∧ wr.heap[g4]? = some (Obj.cells #[Value.string y.f0, Value.slice B1 y.f1.length d1, Value.slice B2 y.f2.length d2] 38))
            (fun _ i _ => y.f1.length - (intOf i).toNat)
          case atStart => exact ⟨0, [], Nat.zero_le _, rfl, Nat.le_refl _, rfl, Kd.R_nil _ _ _ _ _, HL.out, HK4.out⟩
          case round =>
            obtain ⟨m, n, hm, rfl, hnl, hic, hR, hb, hk4⟩ := hrel
            clear HL HK4
            have HNL := Aside0.mk hnl
            have HIC := Aside0.mk hic
            have HRN := Aside0.mk hR
            have HL := Aside0.mk hb
            have HK4 := Aside0.mk hk4
            clear hnl hic hR hb hk4
            have q1 := blk_cell HK4.out 1
            by_cases hlm : m < y.f1.length
            · skip
              have b1 : decide ((m : Int) < (y.f1.length : Int)) = true := decide_eq_true (by omega)
              have b1n : decide (m < y.f1.length) = true := decide_eq_true (by omega)
              have HLM := Aside0.mk hlm
              obtain ⟨ae, B3, d3, e1, hy0, hy1, hy2, hl3, hi3⟩ := at_T44 HI1.out (m : Int) (by omega) (by omega)
              subst e1
              have hic := HIC.out
              rw [List.drop_eq_getElem_cons hlm, isC] at hic
              rw [rd44 y.f1 m hlm] at hy0 hy1 hy2 hl3 hi3
              have hfc := HFE.out.2.1 _ (List.getElem_mem hlm)
              rw [Int.toNat_natCast] at hy0 hy1 hy2
              generalize y.f1[m] = z at hy0 hy1 hy2 hl3 hi3 hfc hic
              have HY0 := Aside0.mk hy0
              have HY2 := Aside0.mk hy2
              have HI3 := Aside0.mk hi3
              have HFZ := Aside0.mk hfc
              have HIZ := Aside0.mk hic
              clear hfc hic hi3 hl3 hlm hy0 hy1 hy2
              go_wp2_with fail
              clear q1 b1 b1n
              go_loopw [5, 7] (fun v i wr => ∃ (k : Nat) (n : List ByteArray), k ≤ z.f2.length ∧ i = .int .i64 (k : Int) ∧ n.length ≤ 120 * m + 12 * k ∧ isC (y.f1.drop (m + 1)) (if z.f0 = true then n else isA (z.f2.drop k) n) = isC y.f1 [] ∧ Kd.R Kd.string 9 wr W3.heap.size (fun k => g4 < k) v n ∧ Below W3.heap.size W3 wr ∧ wr.heap[g4]? = some (Obj.cells #[Value.string y.f0, Value.slice (some ae) y.f1.length d1, Value.slice B2 y.f2.length d2] 38))
                (fun _ i _ => z.f2.length - (intOf i).toNat)
              case atStart => exact ⟨0, n, Nat.zero_le _, rfl, HNL.out, HIZ.out, HRN.out, HL.out, HK4.out⟩
              case round =>
                clear HRN HL HK4 HNL HIZ HIC
                obtain ⟨k, n, hk, rfl, hnl, hic, hR, hb, hk4⟩ := hrel
                have HNL := Aside0.mk hnl
                have HIC := Aside0.mk hic
                have HRN := Aside0.mk hR
                have HL := Aside0.mk hb
                have HK4 := Aside0.mk hk4
                clear hnl hic hR hb hk4
                have q1 := blk_cell HK4.out 1
                have hy0 := HY0.out
                have hy2 := HY2.out
                replace hy0 := (HL.out.cell (World.block_lt_of_cell? W3 _ hy0)).trans hy0
                replace hy2 := (HL.out.cell (World.block_lt_of_cell? W3 _ hy2)).trans hy2
                have p0 := eq_true (show 0 ≤ (m : Int) by omega)
                have p1 := eq_true (show (m : Int) < (y.f1.length : Int) by have := HLM.out; omega)
                by_cases hlk : k < z.f2.length
                · by_cases hn : z.f0 = true
                  · have HNG := Aside0.mk hn
                    have b1 : decide ((k : Int) < (z.f2.length : Int)) = true := decide_eq_true (by omega)
                    have b1n : decide (k < z.f2.length) = true := decide_eq_true (by omega)
                    rw [hn] at hy0
                    clear hn
                    go_wp2_with fail
                    have hic := HIC.out
                    rw [if_pos HNG.out] at hic
                    have hlm := HLM.out
                    have h8 := HFE.out.1
                    have h10 := HFZ.out.1
                    have hnl := HNL.out
                    rw [add1' (by omega)]
                    exact ⟨⟨m + 1, n, by omega, rfl, by omega, hic, HRN.out, HL.out, HK4.out⟩, by simp [intOf]; omega⟩
                  · skip
                    have b1 : decide ((k : Int) < (z.f2.length : Int)) = true := decide_eq_true (by omega)
                    have b1n : decide (k < z.f2.length) = true := decide_eq_true (by omega)
                    have HLK := Aside0.mk hlk
                    obtain ⟨af, B4, d4, B5, d5, e1, hz0, hz1, hz2, hl4, hi4, hl5, hi5⟩ := at_T57 HI3.out (k : Int) (by omega) (by omega)
                    subst e1
                    have hic := HIC.out
                    rw [if_neg hn, List.drop_eq_getElem_cons hlk, isA] at hic
                    rw [rd57 z.f2 k hlk] at hz0 hz1 hz2 hl4 hi4 hl5 hi5
                    have hfa := HFZ.out.2 _ (List.getElem_mem hlk)
                    rw [Int.toNat_natCast] at hz0 hz1 hz2
                    generalize z.f2[k] = a at hz0 hz1 hz2 hl4 hi4 hl5 hi5 hfa hic
                    replace hz0 := (HL.out.cell (World.block_lt_of_cell? W3 _ hz0)).trans hz0
                    replace hz1 := (HL.out.cell (World.block_lt_of_cell? W3 _ hz1)).trans hz1
                    replace hz2 := (HL.out.cell (World.block_lt_of_cell? W3 _ hz2)).trans hz2
                    have HI5 := Aside0.mk hi5
                    have HFA := Aside0.mk hfa
                    have HIA := Aside0.mk hic
                    have HNG := Aside0.mk hn
                    replace hn := Bool.eq_false_iff.mpr hn
                    rw [hn] at hy0
                    have p2 := eq_true (show 0 ≤ (k : Int) by omega)
                    have p3 := eq_true (show (k : Int) < (z.f2.length : Int) by omega)
                    clear hfa hic hi5 hl5 hi4 hl4 hn hlk
                    go_wp2_with fail
                    clear q1 b1 b1n hz0 hz1 hz2 hy0 hy2
                    go_loopw [5, 9] (fun v i wr => ∃ (t : Nat) (n : List ByteArray), t ≤ a.f2.length ∧ i = .int .i64 (t : Int) ∧ n.length ≤ 120 * m + 12 * k + t ∧ isC (y.f1.drop (m + 1)) (isA (z.f2.drop (k + 1)) (isT (a.f2.drop t) n)) = isC y.f1 [] ∧ Kd.R Kd.string 9 wr W3.heap.size (fun k => g4 < k) v n ∧ Below W3.heap.size W3 wr ∧ wr.heap[g4]? = some (Obj.cells #[Value.string y.f0, Value.slice (some ae) y.f1.length d1, Value.slice B2 y.f2.length d2] 38))
                      (fun _ i _ => a.f2.length - (intOf i).toNat)
                    case atStart => exact ⟨0, n, Nat.zero_le _, rfl, HNL.out, HIA.out, HRN.out, HL.out, HK4.out⟩
                    case round =>
                      clear HRN HL HK4 HNL HIA HIC p0 p1 p2 p3
                      obtain ⟨t, n, ht, rfl, hnl, hic, hR, hb, hk4⟩ := hrel
                      have HNL := Aside0.mk hnl
                      have HIC := Aside0.mk hic
                      have HRN := Aside0.mk hR
                      have HL := Aside0.mk hb
                      have HK4 := Aside0.mk hk4
                      clear hnl hic hR hb hk4
                      by_cases hlt : t < a.f2.length
                      · skip
                        have b1 : decide ((t : Int) < (a.f2.length : Int)) = true := decide_eq_true (by omega)
                        have b1n : decide (t < a.f2.length) = true := decide_eq_true (by omega)
                        have HTT := Aside0.mk hlt
                        obtain ⟨ag, e1, hu0, hu1, hu2, hu3, hu4⟩ := at_T61 HI5.out (t : Int) (by omega) (by omega)
                        subst e1
                        have hic := HIC.out
                        rw [List.drop_eq_getElem_cons hlt, isT] at hic
                        rw [rd61 a.f2 t hlt] at hu0 hu1 hu2 hu3 hu4
                        rw [Int.toNat_natCast] at hu0 hu1
                        clear hu2 hu3 hu4
                        generalize a.f2[t] = u at hu0 hu1 hic
                        replace hu0 := (HL.out.cell (World.block_lt_of_cell? W3 _ hu0)).trans hu0
                        replace hu1 := (HL.out.cell (World.block_lt_of_cell? W3 _ hu1)).trans hu1
                        have HD := Aside0.mk hic
                        have p0 := eq_true (show 0 ≤ (t : Int) by omega)
                        have p1 := eq_true (show (t : Int) < (a.f2.length : Int) by omega)
                        obtain ⟨T, cT, rfl⟩ := Kd.R_slice HRN.out
                        clear hic hlt
                        by_cases hp : u.f0 = 0
                        · have bp : (u.f0 == 0) = true := beq_iff_eq.mpr hp
                          by_cases he : u.f1.toList = []
                          · have hd := HD.out
                            rw [if_neg (fun h => h.2 he)] at hd
                            have HD2 := Aside0.mk hd
                            have be1 : (u.f1.toList == []) = true := by rw [he]; rfl
                            have be2 : (u.f1.toList != []) = false := by rw [he]; rfl
                            clear hd
                            go_wp2_with fail
                            have hlt := HTT.out
                            have hnl := HNL.out
                            have h12 := HFA.out.2
                            rw [add1' (by omega)]
                            exact ⟨⟨t + 1, n, by omega, rfl, by omega, HD2.out, HRN.out, HL.out, HK4.out⟩, by simp [intOf]; omega⟩
                          · have hd := HD.out
                            rw [if_pos ⟨hp, he⟩] at hd
                            have HD2 := Aside0.mk hd
                            have be1 : (u.f1.toList == []) = false := beq_eq_false_iff_ne.mpr he
                            have be2 : (u.f1.toList != []) = true := bne_iff_ne.mpr he
                            clear hd
                            go_wp2_with (first | ((with_reducible refine gate_builtin (b := .append) (xs := #[.tmp 92, .tmp 98]) rfl ?_); at_builtin; refine Kd.R_append Kd.string (w0 := W3) W3.heap.size rfl (.tmp 92) (.tmp 98) 26 9 (.string ⟨#[]⟩) 16 rfl Try.underlying26 info9 rfl (by decide) (by omega) (.slice T n.length cT) n (u.f1) [.string u.f1] (fun k => g4 < k) (fun _ => False) rfl rfl ?aP (fun _ hk => hk.elim) ?aF ?aO ?aB ?aS ?aL ?_; (case aP => exact rfl); (case aB => exact HL.out); (case aF => exact fun k hk => Nat.lt_of_lt_of_le (blk_lt HK4.out) hk); (case aO => exact HRN.out); (case aS => exact HL.out.size); (case aL => have := HNL.out; have := HLM.out; have := HLK.out; have := HTT.out; have := HFE.out.1; have := HFZ.out.1; have := HFA.out.2; omega); intro v1 w1 ho hb hg hat; have n_HK4 := Aside0.mk (blk_grown HK4.out hg (fun e => by have := HRN.out.1 g4 e.symm; omega)); have n_HRN := Aside0.mk ho; have n_HL := Aside0.mk hb; clear ho hb hg hat HRN HL HK4) | fail)

                            have hlt := HTT.out
                            have hnl := HNL.out
                            have h12 := HFA.out.2
                            rw [add1' (by omega)]
                            exact ⟨⟨t + 1, n ++ [u.f1], by omega, rfl, by rw [List.length_append]; show n.length + 1 ≤ _; omega, HD2.out, n_HRN.out, n_HL.out, n_HK4.out⟩, by simp [intOf]; omega⟩
                        · have bp : (u.f0 == 0) = false := beq_eq_false_iff_ne.mpr hp
                          have hd := HD.out
                          rw [if_neg (fun h => hp h.1)] at hd
                          have HD2 := Aside0.mk hd
                          clear hd
                          go_wp2_with fail
                          have hlt := HTT.out
                          have hnl := HNL.out
                          have h12 := HFA.out.2
                          rw [add1' (by omega)]
                          exact ⟨⟨t + 1, n, by omega, rfl, by omega, HD2.out, HRN.out, HL.out, HK4.out⟩, by simp [intOf]; omega⟩
                      · skip
                        obtain rfl : t = a.f2.length := by omega
                        have b1 : decide ((a.f2.length : Int) < (a.f2.length : Int)) = false := decide_eq_false (by omega)
                        have b1n : decide (a.f2.length < a.f2.length) = false := decide_eq_false (by omega)
                        have hic := HIC.out
                        rw [List.drop_length, isT] at hic
                        clear hlt
                        go_wp2_with fail
                        have hlk := HLK.out
                        have hnl := HNL.out
                        have h10 := HFZ.out.1
                        have h12 := HFA.out.2
                        rw [add1' (by omega)]
                        exact ⟨⟨k + 1, n, by omega, rfl, by omega, by rw [if_neg HNG.out]; exact hic, HRN.out, HL.out, HK4.out⟩, by simp [intOf]; omega⟩
                · skip
                  obtain rfl : k = z.f2.length := by omega
                  have b1 : decide ((z.f2.length : Int) < (z.f2.length : Int)) = false := decide_eq_false (by omega)
                  have b1n : decide (z.f2.length < z.f2.length) = false := decide_eq_false (by omega)
                  have hic := HIC.out
                  rw [List.drop_length, isA, ite_self] at hic
                  clear hlk
                  go_wp2_with fail
                  have hlm := HLM.out
                  have h8 := HFE.out.1
                  have h10 := HFZ.out.1
                  have hnl := HNL.out
                  rw [add1' (by omega)]
                  exact ⟨⟨m + 1, n, by omega, rfl, by omega, hic, HRN.out, HL.out, HK4.out⟩, by simp [intOf]; omega⟩
            · skip
              obtain rfl : m = y.f1.length := by omega
              have b1 : decide ((y.f1.length : Int) < (y.f1.length : Int)) = false := decide_eq_false (by omega)
              have b1n : decide (y.f1.length < y.f1.length) = false := decide_eq_false (by omega)
              have hic := HIC.out
              rw [List.drop_length, isC] at hic
              subst hic
              clear hlm
              go_wp2_with fail
              clear q1 b1 b1n
              obtain ⟨b, hsub, hact⟩ := rule_binds xs y HRL.out
              have HSB := Aside0.mk hsub
              have HAC := Aside0.mk hact
              have HNN := Aside0.mk (show (isC y.f1 []).length ≤ 960 by have := HNL.out; have := HFE.out.1; omega)
              clear hsub hact HNL HIC
              go_loopw [5, 10] (fun v i wr => ∃ (p : Nat) (n b : List ByteArray), p ≤ y.f2.length ∧ i = .int .i64 (p : Int) ∧ n.length ≤ 960 + p ∧ SubN b n ∧ actsT xs y.f1 (y.f2.drop p) b = 0 ∧ Kd.R Kd.string 9 wr W3.heap.size (fun k => g4 < k) v n ∧ Below W3.heap.size W3 wr ∧ wr.heap[g4]? = some (Obj.cells #[Value.string y.f0, Value.slice B1 y.f1.length d1, Value.slice B2 y.f2.length d2] 38))
                (fun _ i _ => y.f2.length - (intOf i).toNat)
              case atStart => exact ⟨0, _, b, Nat.zero_le _, rfl, HNN.out, HSB.out, HAC.out, HRN.out, HL.out, HK4.out⟩
              case round =>
                clear HRN HL HK4 HSB HAC HNN
                obtain ⟨p, n, b, hp, rfl, hnl, hsb, hac, hR, hb, hk4⟩ := hrel
                have HNL := Aside0.mk hnl
                have HSB := Aside0.mk hsb
                have HAC := Aside0.mk hac
                have HRN := Aside0.mk hR
                have HL := Aside0.mk hb
                have HK4 := Aside0.mk hk4
                clear hnl hsb hac hR hb hk4
                have q2 := blk_cell HK4.out 2
                by_cases hlp : p < y.f2.length
                · skip
                  have b1 : decide ((p : Int) < (y.f2.length : Int)) = true := decide_eq_true (by omega)
                  have b1n : decide (p < y.f2.length) = true := decide_eq_true (by omega)
                  have HLP := Aside0.mk hlp
                  obtain ⟨ah, B4, d4, B5, d5, e1, hx0, hx1, hx2, hx3, hx4, hx5, hl4, hi4, hl5, hi5⟩ := at_T65 HI2.out (p : Int) (by omega) (by omega)
                  subst e1
                  have hac := HAC.out
                  rw [List.drop_eq_getElem_cons hlp, actsT] at hac
                  rw [rd65 y.f2 p hlp] at hx0 hx1 hx2 hx3 hx4 hx5 hl4 hi4 hl5 hi5
                  have hfa := HFE.out.2.2.2 _ (List.getElem_mem hlp)
                  rw [Int.toNat_natCast] at hx0 hx1 hx2 hx3 hx4 hx5
                  generalize y.f2[p] = a at hx0 hx1 hx2 hx3 hx4 hx5 hl4 hi4 hl5 hi5 hac hfa
                  replace hx0 := (HL.out.cell (World.block_lt_of_cell? W3 _ hx0)).trans hx0
                  replace hx1 := (HL.out.cell (World.block_lt_of_cell? W3 _ hx1)).trans hx1
                  replace hx2 := (HL.out.cell (World.block_lt_of_cell? W3 _ hx2)).trans hx2
                  replace hx3 := (HL.out.cell (World.block_lt_of_cell? W3 _ hx3)).trans hx3
                  replace hx4 := (HL.out.cell (World.block_lt_of_cell? W3 _ hx4)).trans hx4
                  replace hx5 := (HL.out.cell (World.block_lt_of_cell? W3 _ hx5)).trans hx5
                  have p0 := eq_true (show 0 ≤ (p : Int) by omega)
                  have p1 := eq_true (show (p : Int) < (y.f2.length : Int) by omega)
                  have haz : actT xs y.f1 a b = 0 := by
                    by_cases h : actT xs y.f1 a b = 0
                    · exact h
                    · rw [if_neg h] at hac
                      exact hac
                  rw [if_pos haz] at hac
                  have hlen : n.length ≤ 90000 := by have := HNL.out; have := HFE.out.2.2.1; omega
                  have HT4 := Aside0.mk (act_told4 xs y.f1 a b n haz HSB.out hfa hlen)
                  have HT5 := Aside0.mk (act_told5 xs y.f1 a b n haz HSB.out hfa hlen)
                  have HI4 := Aside0.mk hi4
                  have HI5 := Aside0.mk hi5
                  have HFA := Aside0.mk hfa
                  have HA2 := Aside0.mk hac
                  obtain ⟨T, cT, rfl⟩ := Kd.R_slice HRN.out
                  clear hi4 hl4 hi5 hl5 hac hfa haz hlen hlp HAC
                  go_upto_region 24 with fail
                  obtain ⟨g11, hg11⟩ : ∃ g, g = wr.heap.size := ⟨_, rfl⟩
                  have hW := below_alloc (Below.refl wr.heap.size wr) (Obj.cells #[Value.int IntKind.u8 a.f0, Value.string a.f1, Value.int IntKind.i64 a.f2, Value.string a.f3, Value.slice B4 a.f4.length d4, Value.slice B5 a.f5.length d5] 65)
                  have hN := blk_new wr (Obj.cells #[Value.int IntKind.u8 a.f0, Value.string a.f1, Value.int IntKind.i64 a.f2, Value.string a.f3, Value.slice B4 a.f4.length d4, Value.slice B5 a.f5.length d5] 65)
                  rw [← hg11] at hN ⊢
                  generalize wr.alloc (Obj.cells #[Value.int IntKind.u8 a.f0, Value.string a.f1, Value.int IntKind.i64 a.f2, Value.string a.f3, Value.slice B4 a.f4.length d4, Value.slice B5 a.f5.length d5] 65) = Va at hW hN ⊢
                  have n_HL := Aside0.mk (below_step HL.out hW)
                  have n_HK4 := Aside0.mk (blk_below HK4.out hW)
                  have n_HRN := Aside0.mk (Kd.R_below HRN.out hW)
                  have HK11 := Aside0.mk hN
                  clear hW hN hg11 HL HK4 HRN hx0 hx1 hx2 hx3 hx4 hx5 q2 b1 b1n p0 p1
                  have HL := n_HL
                  have HK4 := n_HK4
                  have HRN := n_HRN
                  clear n_HL n_HK4 n_HRN
                  go_wp2_with fail
                  go_loopw [12] (fun i wr => ∃ (q : Nat), q ≤ a.f4.length ∧ i = .int .i64 (q : Int) ∧ Kd.R Kd.string 9 wr W3.heap.size (fun k => g4 < k) (.slice T n.length cT) n ∧ Below W3.heap.size W3 wr ∧ wr.heap[g4]? = some (Obj.cells #[Value.string y.f0, Value.slice B1 y.f1.length d1, Value.slice (some ah) y.f2.length d2] 38) ∧ wr.heap[g11]? = some (Obj.cells #[Value.int IntKind.u8 a.f0, Value.string a.f1, Value.int IntKind.i64 a.f2, Value.string a.f3, Value.slice B4 a.f4.length d4, Value.slice B5 a.f5.length d5] 65))
                    (fun i _ => a.f4.length - (intOf i).toNat)
                  case atStart => exact ⟨0, Nat.zero_le _, rfl, HRN.out, HL.out, HK4.out, HK11.out⟩
                  case round =>
                    clear HRN HL HK4 HK11
                    obtain ⟨q, hq, rfl, hR, hb, hk4, hk11⟩ := hrel
                    have HRN := Aside0.mk hR
                    have HL := Aside0.mk hb
                    have HK4 := Aside0.mk hk4
                    have HK11 := Aside0.mk hk11
                    clear hR hb hk4 hk11
                    have q4 := blk_cell HK11.out 4
                    by_cases hlq : q < a.f4.length
                    · skip
                      have b1 : decide ((q : Int) < (a.f4.length : Int)) = true := decide_eq_true (by omega)
                      have b1n : decide (q < a.f4.length) = true := decide_eq_true (by omega)
                      have HLQ := Aside0.mk hlq
                      obtain ⟨ai, B6, d6, e1, hx0, hx1, hl6, hi6⟩ := at_T67 HI4.out (q : Int) (by omega) (by omega)
                      subst e1
                      rw [rd67 a.f4 q hlq] at hx0 hx1 hl6 hi6
                      have hto := HT4.out _ (List.getElem_mem hlq)
                      rw [Int.toNat_natCast] at hx0 hx1
                      generalize a.f4[q] = s at hx0 hx1 hl6 hi6 hto
                      replace hx0 := (HL.out.cell (World.block_lt_of_cell? W3 _ hx0)).trans hx0
                      replace hx1 := (HL.out.cell (World.block_lt_of_cell? W3 _ hx1)).trans hx1
                      have p0 := eq_true (show 0 ≤ (q : Int) by omega)
                      have p1 := eq_true (show (q : Int) < (a.f4.length : Int) by omega)
                      have HI6 := Aside0.mk hi6
                      have HL6 := Aside0.mk hl6
                      have HTO := Aside0.mk hto
                      clear hi6 hl6 hto hlq
                      go_wp2_with fail
                      go_at_call 19
                      refine (intarsialaw17_told.calls 101001 B6 d6 s.f1 T cT n true wr (Kd.C_below HI6.out HL.out) HL6.out (Kd.R_reads' HRN.out).2.2 (Kd.R_reads' HRN.out).2.1 HTO.out).mono ?_
                      rintro ex V1 ⟨rfl, hd⟩
                      have hb := below_drawn hd
                      clear hd
                      clear hx0 hx1 q4 b1 b1n p0 p1
                      have n_HL := Aside0.mk (below_step HL.out hb)
                      have n_HK4 := Aside0.mk (blk_below HK4.out hb)
                      have n_HK11 := Aside0.mk (blk_below HK11.out hb)
                      have n_HRN := Aside0.mk (Kd.R_below HRN.out hb)
                      clear hb HL HK4 HK11 HRN
                      have HL := n_HL
                      have HK4 := n_HK4
                      have HK11 := n_HK11
                      have HRN := n_HRN
                      clear n_HL n_HK4 n_HK11 n_HRN
                      go_wp2_with fail
                      have hlq := HLQ.out
                      have h4 := HFA.out.1
                      rw [add1' (by omega)]
                      exact ⟨⟨q + 1, by omega, rfl, HRN.out, HL.out, HK4.out, HK11.out⟩, by simp [intOf]; omega⟩
                    · skip
                      obtain rfl : q = a.f4.length := by omega
                      have b1 : decide ((a.f4.length : Int) < (a.f4.length : Int)) = false := decide_eq_false (by omega)
                      have b1n : decide (a.f4.length < a.f4.length) = false := decide_eq_false (by omega)
                      clear hlq
                      go_wp2_with fail
                      clear q4 b1 b1n
                      go_loopw [13] (fun i wr => ∃ (q : Nat), q ≤ a.f5.length ∧ i = .int .i64 (q : Int) ∧ Kd.R Kd.string 9 wr W3.heap.size (fun k => g4 < k) (.slice T n.length cT) n ∧ Below W3.heap.size W3 wr ∧ wr.heap[g4]? = some (Obj.cells #[Value.string y.f0, Value.slice B1 y.f1.length d1, Value.slice (some ah) y.f2.length d2] 38) ∧ wr.heap[g11]? = some (Obj.cells #[Value.int IntKind.u8 a.f0, Value.string a.f1, Value.int IntKind.i64 a.f2, Value.string a.f3, Value.slice B4 a.f4.length d4, Value.slice B5 a.f5.length d5] 65))
                        (fun i _ => a.f5.length - (intOf i).toNat)
                      case atStart => exact ⟨0, Nat.zero_le _, rfl, HRN.out, HL.out, HK4.out, HK11.out⟩
                      case round =>
                        clear HRN HL HK4 HK11
                        obtain ⟨q, hq, rfl, hR, hb, hk4, hk11⟩ := hrel
                        have HRN := Aside0.mk hR
                        have HL := Aside0.mk hb
                        have HK4 := Aside0.mk hk4
                        have HK11 := Aside0.mk hk11
                        clear hR hb hk4 hk11
                        have q5 := blk_cell HK11.out 5
                        by_cases hlq : q < a.f5.length
                        · skip
                          have b1 : decide ((q : Int) < (a.f5.length : Int)) = true := decide_eq_true (by omega)
                          have b1n : decide (q < a.f5.length) = true := decide_eq_true (by omega)
                          have HLQ := Aside0.mk hlq
                          obtain ⟨ai, B6, d6, e1, hx0, hl6, hi6⟩ := at_L12 HI5.out (q : Int) (by omega) (by omega)
                          subst e1
                          rw [rdL12 a.f5 q hlq] at hx0 hl6 hi6
                          have hto := HT5.out _ (List.getElem_mem hlq)
                          rw [Int.toNat_natCast] at hx0
                          generalize a.f5[q] = s at hx0 hl6 hi6 hto
                          replace hx0 := (HL.out.cell (World.block_lt_of_cell? W3 _ hx0)).trans hx0
                          have p0 := eq_true (show 0 ≤ (q : Int) by omega)
                          have p1 := eq_true (show (q : Int) < (a.f5.length : Int) by omega)
                          have HI6 := Aside0.mk hi6
                          have HL6 := Aside0.mk hl6
                          have HTO := Aside0.mk hto
                          clear hi6 hl6 hto hlq
                          go_wp2_with fail
                          go_at_call 19
                          refine (intarsialaw17_told.calls 101001 B6 d6 s T cT n true wr (Kd.C_below HI6.out HL.out) HL6.out (Kd.R_reads' HRN.out).2.2 (Kd.R_reads' HRN.out).2.1 HTO.out).mono ?_
                          rintro ex V1 ⟨rfl, hd⟩
                          have hb := below_drawn hd
                          clear hd
                          clear hx0 q5 b1 b1n p0 p1
                          have n_HL := Aside0.mk (below_step HL.out hb)
                          have n_HK4 := Aside0.mk (blk_below HK4.out hb)
                          have n_HK11 := Aside0.mk (blk_below HK11.out hb)
                          have n_HRN := Aside0.mk (Kd.R_below HRN.out hb)
                          clear hb HL HK4 HK11 HRN
                          have HL := n_HL
                          have HK4 := n_HK4
                          have HK11 := n_HK11
                          have HRN := n_HRN
                          clear n_HL n_HK4 n_HK11 n_HRN
                          go_wp2_with fail
                          have hlq := HLQ.out
                          have h4 := HFA.out.2.2.1
                          rw [add1' (by omega)]
                          exact ⟨⟨q + 1, by omega, rfl, HRN.out, HL.out, HK4.out, HK11.out⟩, by simp [intOf]; omega⟩
                        · skip
                          obtain rfl : q = a.f5.length := by omega
                          have b1 : decide ((a.f5.length : Int) < (a.f5.length : Int)) = false := decide_eq_false (by omega)
                          have b1n : decide (a.f5.length < a.f5.length) = false := decide_eq_false (by omega)
                          have q0 := blk_cell HK11.out 0
                          have q3 := blk_cell HK11.out 3
                          clear hlq
                          by_cases h3 : a.f0 = 3
                          · have b3 : (a.f0 == 3) = true := beq_iff_eq.mpr h3
                            have HS3 := Aside0.mk (sub_bind3 a b n h3 HSB.out)
                            go_wp2_with (first | ((with_reducible refine gate_builtin (b := .append) (xs := #[.tmp 146, .tmp 149]) rfl ?_); at_builtin; refine Kd.R_append Kd.string (w0 := W3) W3.heap.size rfl (.tmp 146) (.tmp 149) 26 9 (.string ⟨#[]⟩) 16 rfl Try.underlying26 info9 rfl (by decide) (by omega) (.slice T n.length cT) n (a.f3) [.string a.f3] (fun k => g4 < k) (fun _ => False) rfl rfl ?aP (fun _ hk => hk.elim) ?aF ?aO ?aB ?aS ?aL ?_; (case aP => exact rfl); (case aB => exact HL.out); (case aF => exact fun k hk => Nat.lt_of_lt_of_le (blk_lt HK4.out) hk); (case aO => exact HRN.out); (case aS => exact HL.out.size); (case aL => have := HNL.out; have := HLP.out; have := HFE.out.2.2.1; omega); intro v1 w1 ho hb hg hat; have n_HK4 := Aside0.mk (blk_grown HK4.out hg (fun e => by have := HRN.out.1 g4 e.symm; omega)); have n_HRN := Aside0.mk ho; have n_HL := Aside0.mk hb; clear ho hb hg hat HRN HL HK4) | fail)

                            have hlp := HLP.out
                            have hnl := HNL.out
                            have h8 := HFE.out.2.2.1
                            rw [add1' (by omega)]
                            exact ⟨⟨p + 1, n ++ [a.f3], bindA a b, by omega, rfl, by rw [List.length_append]; show n.length + 1 ≤ _; omega, HS3.out, HA2.out, n_HRN.out, n_HL.out, n_HK4.out⟩, by simp [intOf]; omega⟩
                          · have b3 : (a.f0 == 3) = false := beq_eq_false_iff_ne.mpr h3
                            have HS3 := Aside0.mk (show SubN (bindA a b) n by unfold bindA; rw [if_neg h3]; exact HSB.out)
                            go_wp2_with fail
                            have hlp := HLP.out
                            have hnl := HNL.out
                            have h8 := HFE.out.2.2.1
                            rw [add1' (by omega)]
                            exact ⟨⟨p + 1, n, bindA a b, by omega, rfl, by omega, HS3.out, HA2.out, HRN.out, HL.out, HK4.out⟩, by simp [intOf]; omega⟩
                · skip
                  obtain rfl : p = y.f2.length := by omega
                  have b1 : decide ((y.f2.length : Int) < (y.f2.length : Int)) = false := decide_eq_false (by omega)
                  have b1n : decide (y.f2.length < y.f2.length) = false := decide_eq_false (by omega)
                  clear hlp
                  go_wp2_with fail
                  have hlt := HLT.out
                  have hyl := HY.out
                  rw [add1' (by omega)]
                  exact ⟨⟨j + 1, by omega, rfl, HL.out⟩, by simp [intOf]; omega⟩
        · skip
          obtain rfl : j = ys.length := by omega
          have b1 : decide ((ys.length : Int) < (ys.length : Int)) = false := decide_eq_false (by omega)
          have b1n : decide (ys.length < ys.length) = false := decide_eq_false (by omega)
          clear hlt
          go_wp2_with fail
          go_at_call 8
          refine (awake_calls wr).mono ?_
          rintro ex VA ⟨rfl, hb⟩
          have HBA := Aside0.mk (below_step (below_step HB.out HL.out) hb)
          clear hb
          go_wp2_with fail
          go_ret
          exact ⟨rfl, HBA.out⟩
    · skip
      have hzz : (programT xs ys != 0) = true := bne_iff_ne.mpr hz
      clear hz
      go_wp2_with fail
      go_at_call 8
      refine (awake_calls W3).mono ?_
      rintro ex VA ⟨rfl, hb⟩
      have HBA := Aside0.mk (below_step HB.out hb)
      clear hb
      go_wp2_with fail
      go_ret
      exact ⟨rfl, HBA.out⟩
end Go.Proofs.Ytlbcnkmojoinfaa.MCk
