/- The walk of the law RootTorn. -/
import Derived.Test.YtgflafifemhmgaaRootAw
namespace Go.Proofs.Ytgflafifemhmgaa.MRt
open Go.RowKit Go.Proofs.Ytgflafifemhmgaa.Hand Go.Proofs.Ytgflafifemhmgaa.Crc Go.Proofs.Ytgflafifemhmgaa.RootV Go.Proofs.Ytgflafifemhmgaa.RSums Go.Proofs.Ytgflafifemhmgaa.RPure Go.Proofs.YtgflafifemhmgaaW.PrintWords Go.Proofs.YtgflafifemhmgaaW.PrintLast Go.Proofs.YtgflafifemhmgaaW.PrintMore
set_option linter.unusedVariables false
set_option linter.unusedSimpArgs false
def RootTorn.T14 : Bool × List (List Nat × List Nat) := (true, [([], []), ([], []), ([], []), ([1, 2], [1, 2]), ([0, 3], [0, 3]), ([], []), ([], []), ([5, 6], [5, 6]), ([4, 7, 4], [4, 7]), ([8, 8, 0, 1, 2, 3, 4, 5, 6, 7, 8], [8])])
def RootTorn.B14 : List Nat := [0, 0, 0, 6, 15, 0, 0, 96, 255, 511]
theorem RootTorn.tab14 : rtab .any (opsOf Try.f11 14) = RootTorn.T14 := by kernel_rfl
theorem RootTorn.bits14 : waitsOk RootTorn.T14.2 RootTorn.B14 = true := by kernel_rfl
/-- The elder root, and the one between. -/
def older (r s : RV) : RV := ⟨r.ep - 2, s.bl, s.nx, s.st, s.tb, s.mp⟩
def midr (r : RV) : RV := ⟨r.ep - 1, r.bl, r.nx, r.st, r.tb, r.mp⟩
theorem torn_k (t : Int) (h : 0 ≤ t ∧ t < 65536) : ∃ k : Nat, Int.tmod t 257 = (k : Int) ∧ k ≤ 256 := by
 refine ⟨(t % 257).toNat, ?_, by omega⟩
 rw [Int.tmod_eq_emod_of_nonneg h.1]
 omega
theorem torn_wk (k : Nat) (h : k ≤ 256) : wrap64 (k : Int) = (k : Int) := by unfold wrap64; omega
theorem torn_wt (t : Int) (h : 0 ≤ t ∧ t < 65536) : wrap64 t = t := by unfold wrap64; omega
theorem torn_w2 (x : Int) (h0 : ¬ x < 2) (h1 : ¬ 1099511627776 < x) : wrap64 (x - 2) = x - 2 ∧ wrap64 (x - 1) = x - 1 := by unfold wrap64; omega
theorem torn_wm (x : Int) : wrap64 (x % 2) = x % 2 := by unfold wrap64; omega
theorem mid_not (r : RV) : rsame (midr r) r = false := decide_eq_false (fun h => by have : r.ep - 1 = r.ep := h.1; omega)
theorem torn_all {r o m : RV} {k : Nat} (hr : rcheck r = 0) (ho : rcheck o = 0) (hm : rcheck m = 0) (h1 : o.ep = r.ep - 2) (h2 : m.ep = r.ep - 1) (hk : k ≤ 256) :
  ((rget ((rput r).1.take k ++ (rput o).1.drop k)).2 = 0 → (rget ((rput r).1.take k ++ (rput o).1.drop k)).1 = r ∨ (rget ((rput r).1.take k ++ (rput o).1.drop k)).1 = o) ∧
  (r.ep % 2 = 0 → ∃ y n, rchoose ((rput r).1.take k ++ (rput o).1.drop k) (rput m).1 = (y, n, 0) ∧ (y = r ∨ y = m)) ∧
  (r.ep % 2 = 1 → ∃ y n, rchoose (rput m).1 ((rput r).1.take k ++ (rput o).1.drop k) = (y, n, 0) ∧ (y = r ∨ y = m)) := by
 rw [rput_ok hr, rput_ok ho, rput_ok hm]
 exact ⟨fun h => rget_torn hr ho (by omega) k hk (by rw [← h]), fun he => torn_even hr ho hm h1 h2 he k hk, fun he => torn_odd hr ho hm h1 h2 he k hk⟩
set_option maxHeartbeats 32000000 in
set_option maxRecDepth 100000 in
theorem RootTorn_calls (r : RV) (A : Option Addr) (c : Nat) (B : Option Addr) (d : Nat) (s : RV) (C : Option Addr) (e : Nat) (D : Option Addr) (f : Nat) (t : Int) (w : World) (hrA : Kd.C (Kd.int .i64) w A r.tb.length r.tb) (hcA : r.tb.length ≤ c) (hrB : Kd.C (Kd.int .i64) w B r.mp.length r.mp) (hcB : r.mp.length ≤ d) (hep : -9223372036854775808 ≤ r.ep ∧ r.ep < 9223372036854775808)
  (hrC : Kd.C (Kd.int .i64) w C s.tb.length s.tb) (hcC : s.tb.length ≤ e) (hrD : Kd.C (Kd.int .i64) w D s.mp.length s.mp) (hcD : s.mp.length ≤ f) (hes : -9223372036854775808 ≤ s.ep ∧ s.ep < 9223372036854775808) (ht : 0 ≤ t ∧ t < 65536) :
  Calls Try.prog 11 #[.agg #[.int .i64 r.ep, .int .i64 r.bl, .int .i64 r.nx, .int .i64 r.st, .slice A r.tb.length c, .slice B r.mp.length d], .agg #[.int .i64 s.ep, .int .i64 s.bl, .int .i64 s.nx, .int .i64 s.st, .slice C s.tb.length e, .slice D s.mp.length f], .int .u16 t] w fun e w' => e = .returned (.bool true) ∧ Below w.heap.size w w' := by
 have HA := Aside0.mk hrA
 have HCA := Aside0.mk hcA
 have HD := Aside0.mk hrB
 have HCD := Aside0.mk hcB
 have HE := Aside0.mk hrC
 have HCE := Aside0.mk hcC
 have HF := Aside0.mk hrD
 have HCF := Aside0.mk hcD
 have HTT := Aside0.mk ht
 have HA0 := HA
 have HD0 := HD
 have HE0 := HE
 have HF0 := HF
 clear hrA hcA hrB hcB hep hrC hcC hrD hcD hes ht
 go_enter Try.func11, Try.ntmps11
 go_wp2_with fail
 go_at_call 23
 have HB := Aside0.mk (Below.refl w.heap.size w)
 have hsz1 : (w.alloc (Obj.cells #[Value.int IntKind.i64 (r).ep, Value.int IntKind.i64 (r).bl, Value.int IntKind.i64 (r).nx, Value.int IntKind.i64 (r).st, Value.slice A (r).tb.length c, Value.slice B (r).mp.length d] 52)).heap.size = w.heap.size + 1 := World.size_alloc _ _
 obtain ⟨g2, hg2⟩ : ∃ g, g = w.heap.size := ⟨_, rfl⟩
 have hW := below_alloc (Below.refl w.heap.size w) (Obj.cells #[Value.int IntKind.i64 (r).ep, Value.int IntKind.i64 (r).bl, Value.int IntKind.i64 (r).nx, Value.int IntKind.i64 (r).st, Value.slice A (r).tb.length c, Value.slice B (r).mp.length d] 52)
 have hN := blk_new w (Obj.cells #[Value.int IntKind.i64 (r).ep, Value.int IntKind.i64 (r).bl, Value.int IntKind.i64 (r).nx, Value.int IntKind.i64 (r).st, Value.slice A (r).tb.length c, Value.slice B (r).mp.length d] 52)
 rw [← hg2] at hN hsz1 ⊢
 generalize w.alloc (Obj.cells #[Value.int IntKind.i64 (r).ep, Value.int IntKind.i64 (r).bl, Value.int IntKind.i64 (r).nx, Value.int IntKind.i64 (r).st, Value.slice A (r).tb.length c, Value.slice B (r).mp.length d] 52) = U0 at hW hN hsz1 ⊢
 have n_HB := Aside0.mk (below_step HB.out hW)
 have n_HA := Aside0.mk (Kd.C_below HA.out hW)
 have n_HD := Aside0.mk (Kd.C_below HD.out hW)
 have n_HE := Aside0.mk (Kd.C_below HE.out hW)
 have n_HF := Aside0.mk (Kd.C_below HF.out hW)
 clear HB HA HD HE HF
 have HB := n_HB
 have HA := n_HA
 have HD := n_HD
 have HE := n_HE
 have HF := n_HF
 clear n_HB n_HA n_HD n_HE n_HF
 have HK2 := Aside0.mk (hN)
 have HZ2 := Aside0.mk hW.size
 clear hW hN
 obtain ⟨g3, hg3⟩ : ∃ g, g = U0.heap.size := ⟨_, rfl⟩
 rw [← hsz1]
 have hl2 := blk_lt HK2.out
 have hW := below_alloc (Below.refl U0.heap.size U0) (Obj.cells #[Value.int IntKind.i64 (s).ep, Value.int IntKind.i64 (s).bl, Value.int IntKind.i64 (s).nx, Value.int IntKind.i64 (s).st, Value.slice C (s).tb.length e, Value.slice D (s).mp.length f] 52)
 have hN := blk_new U0 (Obj.cells #[Value.int IntKind.i64 (s).ep, Value.int IntKind.i64 (s).bl, Value.int IntKind.i64 (s).nx, Value.int IntKind.i64 (s).st, Value.slice C (s).tb.length e, Value.slice D (s).mp.length f] 52)
 rw [← hg3] at hN ⊢
 generalize U0.alloc (Obj.cells #[Value.int IntKind.i64 (s).ep, Value.int IntKind.i64 (s).bl, Value.int IntKind.i64 (s).nx, Value.int IntKind.i64 (s).st, Value.slice C (s).tb.length e, Value.slice D (s).mp.length f] 52) = U1 at hW hN ⊢
 have HG23 := Aside0.mk (show g2 < g3 by omega)
 have HG3 := Aside0.mk (show w.heap.size ≤ g3 by have := HZ2.out; omega)
 have n_HB := Aside0.mk (below_step HB.out hW)
 have n_HA := Aside0.mk (Kd.C_below HA.out hW)
 have n_HD := Aside0.mk (Kd.C_below HD.out hW)
 have n_HE := Aside0.mk (Kd.C_below HE.out hW)
 have n_HF := Aside0.mk (Kd.C_below HF.out hW)
 have n_HK2 := Aside0.mk (blk_below HK2.out hW)
 clear HB HA HD HE HF HK2
 have HB := n_HB
 have HA := n_HA
 have HD := n_HD
 have HE := n_HE
 have HF := n_HF
 have HK2 := n_HK2
 clear n_HB n_HA n_HD n_HE n_HF n_HK2
 have HK3 := Aside0.mk (hN)
 clear hW hN hg2 hg3 hsz1 hl2
 have hg := intarsialaw05_light.calls r.ep r.bl r.nx r.st A c r.tb B d r.mp _ U1 HA.out HCA.out HD.out HCD.out (light_is r)
 refine hg.mono ?_
 clear hg
 rintro ex U2 ⟨rfl, hb⟩
 have n_HB := Aside0.mk (below_step HB.out hb)
 have n_HA := Aside0.mk (Kd.C_below HA.out hb)
 have n_HD := Aside0.mk (Kd.C_below HD.out hb)
 have n_HE := Aside0.mk (Kd.C_below HE.out hb)
 have n_HF := Aside0.mk (Kd.C_below HF.out hb)
 have n_HK2 := Aside0.mk (blk_below HK2.out hb)
 have n_HK3 := Aside0.mk (blk_below HK3.out hb)
 clear HB HA HD HE HF HK2 HK3
 have HB := n_HB
 have HA := n_HA
 have HD := n_HD
 have HE := n_HE
 have HF := n_HF
 have HK2 := n_HK2
 have HK3 := n_HK3
 clear n_HB n_HA n_HD n_HE n_HF n_HK2 n_HK3
 clear hb
 by_cases hl : r.tb.length ≤ 60 ∧ r.mp.length ≤ 60
 ·
  have HL := Aside0.mk hl
  rw [decide_eq_true hl]
  clear hl
  have cy0 := blk_cell HK3.out 0; have fy0 := blk_frozen HK3.out 0; have cy1 := blk_cell HK3.out 1; have fy1 := blk_frozen HK3.out 1; have cy2 := blk_cell HK3.out 2; have fy2 := blk_frozen HK3.out 2; have cy3 := blk_cell HK3.out 3; have fy3 := blk_frozen HK3.out 3; have cy4 := blk_cell HK3.out 4; have fy4 := blk_frozen HK3.out 4; have cy5 := blk_cell HK3.out 5; have fy5 := blk_frozen HK3.out 5
  go_wp2_with fail
  go_at_call 23
  clear cy0 fy0 cy1 fy1 cy2 fy2 cy3 fy3 cy4 fy4 cy5 fy5
  have hg := intarsialaw05_light.calls s.ep s.bl s.nx s.st C e s.tb D f s.mp _ U2 HE.out HCE.out HF.out HCF.out (light_is s)
  refine hg.mono ?_
  clear hg
  rintro ex U3 ⟨rfl, hb⟩
  have n_HB := Aside0.mk (below_step HB.out hb)
  have n_HA := Aside0.mk (Kd.C_below HA.out hb)
  have n_HD := Aside0.mk (Kd.C_below HD.out hb)
  have n_HE := Aside0.mk (Kd.C_below HE.out hb)
  have n_HF := Aside0.mk (Kd.C_below HF.out hb)
  have n_HK2 := Aside0.mk (blk_below HK2.out hb)
  have n_HK3 := Aside0.mk (blk_below HK3.out hb)
  clear HB HA HD HE HF HK2 HK3
  have HB := n_HB
  have HA := n_HA
  have HD := n_HD
  have HE := n_HE
  have HF := n_HF
  have HK2 := n_HK2
  have HK3 := n_HK3
  clear n_HB n_HA n_HD n_HE n_HF n_HK2 n_HK3
  clear hb
  by_cases hl2 : s.tb.length ≤ 60 ∧ s.mp.length ≤ 60
  ·
   rw [decide_eq_true hl2]
   have HL2 := Aside0.mk hl2
   clear hl2
   by_cases hlo : r.ep < 2
   ·
    have b1 : decide (r.ep < 2) = true := decide_eq_true hlo
    clear hlo
    have cx0 := blk_cell HK2.out 0; have fx0 := blk_frozen HK2.out 0; have cx1 := blk_cell HK2.out 1; have fx1 := blk_frozen HK2.out 1; have cx2 := blk_cell HK2.out 2; have fx2 := blk_frozen HK2.out 2; have cx3 := blk_cell HK2.out 3; have fx3 := blk_frozen HK2.out 3; have cx4 := blk_cell HK2.out 4; have fx4 := blk_frozen HK2.out 4; have cx5 := blk_cell HK2.out 5; have fx5 := blk_frozen HK2.out 5
    go_wp2_with fail
    go_at_call 24
    clear cx0 fx0 cx1 fx1 cx2 fx2 cx3 fx3 cx4 fx4 cx5 fx5
    refine (awake_calls U3).mono ?_
    rintro ex VA ⟨rfl, hb⟩
    have HBA := Aside0.mk (below_step HB.out hb)
    clear hb
    go_wp2
    go_ret
    exact ⟨rfl, HBA.out⟩
   ·
    have b1 : decide (r.ep < 2) = false := decide_eq_false hlo
    by_cases hhi : 1099511627776 < r.ep
    ·
     have b2 : decide (1099511627776 < r.ep) = true := decide_eq_true hhi
     clear hlo hhi
     have cx0 := blk_cell HK2.out 0; have fx0 := blk_frozen HK2.out 0; have cx1 := blk_cell HK2.out 1; have fx1 := blk_frozen HK2.out 1; have cx2 := blk_cell HK2.out 2; have fx2 := blk_frozen HK2.out 2; have cx3 := blk_cell HK2.out 3; have fx3 := blk_frozen HK2.out 3; have cx4 := blk_cell HK2.out 4; have fx4 := blk_frozen HK2.out 4; have cx5 := blk_cell HK2.out 5; have fx5 := blk_frozen HK2.out 5
     go_wp2_with fail
     go_at_call 24
     clear cx0 fx0 cx1 fx1 cx2 fx2 cx3 fx3 cx4 fx4 cx5 fx5
     refine (awake_calls U3).mono ?_
     rintro ex VA ⟨rfl, hb⟩
     have HBA := Aside0.mk (below_step HB.out hb)
     clear hb
     go_wp2
     go_ret
     exact ⟨rfl, HBA.out⟩
    ·
     have b2 : decide (1099511627776 < r.ep) = false := decide_eq_false hhi
     have HEP := Aside0.mk (show 0 ≤ r.ep by omega)
     have hw2 := (torn_w2 r.ep hlo hhi).1
     have hw1 := (torn_w2 r.ep hlo hhi).2
     have cx0 := blk_cell HK2.out 0; have fx0 := blk_frozen HK2.out 0; have cx1 := blk_cell HK2.out 1; have fx1 := blk_frozen HK2.out 1; have cx2 := blk_cell HK2.out 2; have fx2 := blk_frozen HK2.out 2; have cx3 := blk_cell HK2.out 3; have fx3 := blk_frozen HK2.out 3; have cx4 := blk_cell HK2.out 4; have fx4 := blk_frozen HK2.out 4; have cx5 := blk_cell HK2.out 5; have fx5 := blk_frozen HK2.out 5
     have cy0 := blk_cell HK3.out 0; have fy0 := blk_frozen HK3.out 0; have cy1 := blk_cell HK3.out 1; have fy1 := blk_frozen HK3.out 1; have cy2 := blk_cell HK3.out 2; have fy2 := blk_frozen HK3.out 2; have cy3 := blk_cell HK3.out 3; have fy3 := blk_frozen HK3.out 3; have cy4 := blk_cell HK3.out 4; have fy4 := blk_frozen HK3.out 4; have cy5 := blk_cell HK3.out 5; have fy5 := blk_frozen HK3.out 5
     go_upto_region 4 with fail
     clear cx0 fx0 cx1 fx1 cx2 fx2 cx3 fx3 cx4 fx4 cx5 fx5 cy0 fy0 cy1 fy1 cy2 fy2 cy3 fy3 cy4 fy4 cy5 fy5
     have hb := (Below.refl g3 U3).setCell (p := ⟨g3, 0, none⟩) (Nat.le_refl _) (Value.int IntKind.i64 (r.ep - 2))
     have hk3 : (U3.setCell ⟨g3, 0, none⟩ (Value.int IntKind.i64 (r.ep - 2))).heap[g3]? = _ := heap_setCell_same _ g3 0 _ 52 _ HK3.out
     have hk2 := (Below.heap_setCell U3 ⟨g3, 0, none⟩ (Value.int IntKind.i64 (r.ep - 2)) g2 (by have := HG23.out; show g2 ≠ g3; omega)).trans HK2.out
     have hbw := HB.out.setCell (p := ⟨g3, 0, none⟩) HG3.out (Value.int IntKind.i64 (r.ep - 2))
     generalize U3.setCell ⟨g3, 0, none⟩ (Value.int IntKind.i64 (r.ep - 2)) = U4 at hb hk3 hk2 hbw ⊢
     clear HB HK2 HK3 HA HD HE HF
     have HB := Aside0.mk hbw
     have HK2 := Aside0.mk hk2
     have HK3 := Aside0.mk hk3
     have HA := Aside0.mk (Kd.C_below HA0.out hbw)
     have HD := Aside0.mk (Kd.C_below HD0.out hbw)
     have HE := Aside0.mk (Kd.C_below HE0.out hbw)
     have HF := Aside0.mk (Kd.C_below HF0.out hbw)
     clear hb hk3 hk2 hbw
     have cx0 := blk_cell HK2.out 0; have fx0 := blk_frozen HK2.out 0; have cx1 := blk_cell HK2.out 1; have fx1 := blk_frozen HK2.out 1; have cx2 := blk_cell HK2.out 2; have fx2 := blk_frozen HK2.out 2; have cx3 := blk_cell HK2.out 3; have fx3 := blk_frozen HK2.out 3; have cx4 := blk_cell HK2.out 4; have fx4 := blk_frozen HK2.out 4; have cx5 := blk_cell HK2.out 5; have fx5 := blk_frozen HK2.out 5
     go_wp2_with fail
     go_at_call 25
     clear cx0 fx0 cx1 fx1 cx2 fx2 cx3 fx3 cx4 fx4 cx5 fx5
     have hg := root_Put.calls 3000 r.ep r.bl r.nx r.st A c r.tb B d r.mp (rput r).1 (rput r).2 U4 HA.out HCA.out HD.out HCD.out (put_is 0 r (by have := HL.out; have := HL2.out; show _ ≤ 1000; first | exact Nat.le_trans HL.out.1 (by decide) | exact Nat.le_trans HL2.out.1 (by decide)) (by have := HL.out; have := HL2.out; show _ ≤ 1000; first | exact Nat.le_trans HL.out.2 (by decide) | exact Nat.le_trans HL2.out.2 (by decide)))
     refine hg.mono ?_
     clear hg
     rintro ex U5 ⟨v, rfl, hr, hb⟩
     obtain ⟨L1, cL1, rfl⟩ := Kd.R_slice hr
     have n_HB := Aside0.mk (below_step HB.out hb)
     have n_HA := Aside0.mk (Kd.C_below HA.out hb)
     have n_HD := Aside0.mk (Kd.C_below HD.out hb)
     have n_HE := Aside0.mk (Kd.C_below HE.out hb)
     have n_HF := Aside0.mk (Kd.C_below HF.out hb)
     have n_HK2 := Aside0.mk (blk_below HK2.out hb)
     have n_HK3 := Aside0.mk (blk_below HK3.out hb)
     clear HB HA HD HE HF HK2 HK3
     have HB := n_HB
     have HA := n_HA
     have HD := n_HD
     have HE := n_HE
     have HF := n_HF
     have HK2 := n_HK2
     have HK3 := n_HK3
     clear n_HB n_HA n_HD n_HE n_HF n_HK2 n_HK3
     have HL1 := Aside0.mk ((Kd.R_reads' hr).2.2)
     have HCL1 := Aside0.mk (Kd.R_reads' hr).2.1
     clear hr hb
     have cy0 := blk_cell HK3.out 0; have fy0 := blk_frozen HK3.out 0; have cy1 := blk_cell HK3.out 1; have fy1 := blk_frozen HK3.out 1; have cy2 := blk_cell HK3.out 2; have fy2 := blk_frozen HK3.out 2; have cy3 := blk_cell HK3.out 3; have fy3 := blk_frozen HK3.out 3; have cy4 := blk_cell HK3.out 4; have fy4 := blk_frozen HK3.out 4; have cy5 := blk_cell HK3.out 5; have fy5 := blk_frozen HK3.out 5
     go_wp2_with fail
     go_at_call 25
     clear cy0 fy0 cy1 fy1 cy2 fy2 cy3 fy3 cy4 fy4 cy5 fy5
     have hg := root_Put.calls 3000 (r.ep - 2) s.bl s.nx s.st C e s.tb D f s.mp (rput (older r s)).1 (rput (older r s)).2 U5 HE.out HCE.out HF.out HCF.out (put_is 0 (older r s) (by have := HL.out; have := HL2.out; show _ ≤ 1000; first | exact Nat.le_trans HL.out.1 (by decide) | exact Nat.le_trans HL2.out.1 (by decide)) (by have := HL.out; have := HL2.out; show _ ≤ 1000; first | exact Nat.le_trans HL.out.2 (by decide) | exact Nat.le_trans HL2.out.2 (by decide)))
     refine hg.mono ?_
     clear hg
     rintro ex U6 ⟨v, rfl, hr, hb⟩
     obtain ⟨L2, cL2, rfl⟩ := Kd.R_slice hr
     have n_HB := Aside0.mk (below_step HB.out hb)
     have n_HA := Aside0.mk (Kd.C_below HA.out hb)
     have n_HD := Aside0.mk (Kd.C_below HD.out hb)
     have n_HE := Aside0.mk (Kd.C_below HE.out hb)
     have n_HF := Aside0.mk (Kd.C_below HF.out hb)
     have n_HK2 := Aside0.mk (blk_below HK2.out hb)
     have n_HK3 := Aside0.mk (blk_below HK3.out hb)
     have n_HL1 := Aside0.mk (Kd.C_below HL1.out hb)
     clear HB HA HD HE HF HK2 HK3 HL1
     have HB := n_HB
     have HA := n_HA
     have HD := n_HD
     have HE := n_HE
     have HF := n_HF
     have HK2 := n_HK2
     have HK3 := n_HK3
     have HL1 := n_HL1
     clear n_HB n_HA n_HD n_HE n_HF n_HK2 n_HK3 n_HL1
     have HL2L := Aside0.mk ((Kd.R_reads' hr).2.2)
     have HCL2 := Aside0.mk (Kd.R_reads' hr).2.1
     clear hr hb
     have cx0 := blk_cell HK2.out 0; have fx0 := blk_frozen HK2.out 0; have cx1 := blk_cell HK2.out 1; have fx1 := blk_frozen HK2.out 1; have cx2 := blk_cell HK2.out 2; have fx2 := blk_frozen HK2.out 2; have cx3 := blk_cell HK2.out 3; have fx3 := blk_frozen HK2.out 3; have cx4 := blk_cell HK2.out 4; have fx4 := blk_frozen HK2.out 4; have cx5 := blk_cell HK2.out 5; have fx5 := blk_frozen HK2.out 5
     go_upto_region 7 with fail
     clear cx0 fx0 cx1 fx1 cx2 fx2 cx3 fx3 cx4 fx4 cx5 fx5
     obtain ⟨g11, hg11⟩ : ∃ g, g = U6.heap.size := ⟨_, rfl⟩
     have hW := below_alloc (Below.refl U6.heap.size U6) (Obj.cells #[Value.int IntKind.i64 (r).ep, Value.int IntKind.i64 (r).bl, Value.int IntKind.i64 (r).nx, Value.int IntKind.i64 (r).st, Value.slice A (r).tb.length c, Value.slice B (r).mp.length d] 52)
     have hN := blk_new U6 (Obj.cells #[Value.int IntKind.i64 (r).ep, Value.int IntKind.i64 (r).bl, Value.int IntKind.i64 (r).nx, Value.int IntKind.i64 (r).st, Value.slice A (r).tb.length c, Value.slice B (r).mp.length d] 52)
     rw [← hg11] at hN ⊢
     generalize U6.alloc (Obj.cells #[Value.int IntKind.i64 (r).ep, Value.int IntKind.i64 (r).bl, Value.int IntKind.i64 (r).nx, Value.int IntKind.i64 (r).st, Value.slice A (r).tb.length c, Value.slice B (r).mp.length d] 52) = U7 at hW hN ⊢
     have hk2 := blk_below HK2.out hW
     have cx0 := blk_cell hk2 0
     have cy0 := blk_cell hN 0
     have fy0 := blk_frozen hN 0
     have HWW := Aside0.mk hW
     have HNN := Aside0.mk hN
     have HGG := Aside0.mk hg11
     clear hk2 hW hN hg11
     go_upto_region 8 with fail
     clear cx0 cy0 fy0
     have hW := HWW.out
     have hN := HNN.out
     have hg11 := HGG.out
     have hb8 := hW.setCell (p := ⟨g11, 0, none⟩) (Nat.le_of_eq hg11.symm) (Value.int IntKind.i64 (r.ep - 1))
     have hN8 : (U7.setCell ⟨g11, 0, none⟩ (Value.int IntKind.i64 (r.ep - 1))).heap[g11]? = _ := heap_setCell_same _ g11 0 _ 52 _ hN
     generalize U7.setCell ⟨g11, 0, none⟩ (Value.int IntKind.i64 (r.ep - 1)) = U8 at hb8 hN8 ⊢
     have n_HB := Aside0.mk (below_step HB.out hb8)
     have n_HA := Aside0.mk (Kd.C_below HA.out hb8)
     have n_HD := Aside0.mk (Kd.C_below HD.out hb8)
     have n_HE := Aside0.mk (Kd.C_below HE.out hb8)
     have n_HF := Aside0.mk (Kd.C_below HF.out hb8)
     have n_HK2 := Aside0.mk (blk_below HK2.out hb8)
     have n_HK3 := Aside0.mk (blk_below HK3.out hb8)
     have n_HL1 := Aside0.mk (Kd.C_below HL1.out hb8)
     have n_HL2L := Aside0.mk (Kd.C_below HL2L.out hb8)
     clear HB HA HD HE HF HK2 HK3 HL1 HL2L
     have HB := n_HB
     have HA := n_HA
     have HD := n_HD
     have HE := n_HE
     have HF := n_HF
     have HK2 := n_HK2
     have HK3 := n_HK3
     have HL1 := n_HL1
     have HL2L := n_HL2L
     clear n_HB n_HA n_HD n_HE n_HF n_HK2 n_HK3 n_HL1 n_HL2L
     have HK11 := Aside0.mk (hN8)
     clear hW hN HWW HNN HGG hb8 hN8 hg11
     have cy0 := blk_cell HK11.out 0; have fy0 := blk_frozen HK11.out 0; have cy1 := blk_cell HK11.out 1; have fy1 := blk_frozen HK11.out 1; have cy2 := blk_cell HK11.out 2; have fy2 := blk_frozen HK11.out 2; have cy3 := blk_cell HK11.out 3; have fy3 := blk_frozen HK11.out 3; have cy4 := blk_cell HK11.out 4; have fy4 := blk_frozen HK11.out 4; have cy5 := blk_cell HK11.out 5; have fy5 := blk_frozen HK11.out 5
     go_wp2_with fail
     go_at_call 25
     clear cy0 fy0 cy1 fy1 cy2 fy2 cy3 fy3 cy4 fy4 cy5 fy5
     have hg := root_Put.calls 3000 (r.ep - 1) r.bl r.nx r.st A c r.tb B d r.mp (rput (midr r)).1 (rput (midr r)).2 U8 HA.out HCA.out HD.out HCD.out (put_is 0 (midr r) (by have := HL.out; have := HL2.out; show _ ≤ 1000; first | exact Nat.le_trans HL.out.1 (by decide) | exact Nat.le_trans HL2.out.1 (by decide)) (by have := HL.out; have := HL2.out; show _ ≤ 1000; first | exact Nat.le_trans HL.out.2 (by decide) | exact Nat.le_trans HL2.out.2 (by decide)))
     refine hg.mono ?_
     clear hg
     rintro ex U9 ⟨v, rfl, hr, hb⟩
     obtain ⟨L3, cL3, rfl⟩ := Kd.R_slice hr
     have n_HB := Aside0.mk (below_step HB.out hb)
     have n_HA := Aside0.mk (Kd.C_below HA.out hb)
     have n_HD := Aside0.mk (Kd.C_below HD.out hb)
     have n_HE := Aside0.mk (Kd.C_below HE.out hb)
     have n_HF := Aside0.mk (Kd.C_below HF.out hb)
     have n_HK2 := Aside0.mk (blk_below HK2.out hb)
     have n_HK3 := Aside0.mk (blk_below HK3.out hb)
     have n_HL1 := Aside0.mk (Kd.C_below HL1.out hb)
     have n_HL2L := Aside0.mk (Kd.C_below HL2L.out hb)
     have n_HK11 := Aside0.mk (blk_below HK11.out hb)
     clear HB HA HD HE HF HK2 HK3 HL1 HL2L HK11
     have HB := n_HB
     have HA := n_HA
     have HD := n_HD
     have HE := n_HE
     have HF := n_HF
     have HK2 := n_HK2
     have HK3 := n_HK3
     have HL1 := n_HL1
     have HL2L := n_HL2L
     have HK11 := n_HK11
     clear n_HB n_HA n_HD n_HE n_HF n_HK2 n_HK3 n_HL1 n_HL2L n_HK11
     have HL3 := Aside0.mk ((Kd.R_reads' hr).2.2)
     have HCL3 := Aside0.mk (Kd.R_reads' hr).2.1
     clear hr hb
     clear hlo hhi b1 b2
     by_cases hr1 : rcheck r = 0
     ·
      have HR1 := Aside0.mk hr1
      clear hr1
      by_cases hr2 : rcheck (older r s) = 0
      ·
       have HR2 := Aside0.mk hr2
       clear hr2
       by_cases hr3 : rcheck (midr r) = 0
       ·
        have HR3 := Aside0.mk hr3
        clear hr3
        have eb1 : ((rput r).2 != 0) = false := by rw [rput_err.mpr HR1.out]; rfl
        have eb2 : ((rput (older r s)).2 != 0) = false := by rw [rput_err.mpr HR2.out]; rfl
        have eb3 : ((rput (midr r)).2 != 0) = false := by rw [rput_err.mpr HR3.out]; rfl
        have ok1 := rcheck_ok HR1.out
        have ok2 := rcheck_ok HR2.out
        have n1 : (rput r).1.length = 256 := by rw [rput_ok HR1.out]; exact rlaid_len ok1.2.2.2.2.1 ok1.2.2.2.2.2.1
        have n2 : (rput (older r s)).1.length = 256 := by rw [rput_ok HR2.out]; exact rlaid_len ok2.2.2.2.2.1 ok2.2.2.2.2.2.1
        have N1 := Aside0.mk n1
        have N2 := Aside0.mk n2
        have l1 : (((rput r).1.length : Int) != 256) = false := by rw [n1]; rfl
        have l2 : (((rput (older r s)).1.length : Int) != 256) = false := by rw [n2]; rfl
        have l1n : ((rput r).1.length != 256) = false := by rw [n1]; rfl
        have l2n : ((rput (older r s)).1.length != 256) = false := by rw [n2]; rfl
        obtain ⟨k, htm, hk256⟩ := torn_k t HTT.out
        have hwk := torn_wk k hk256
        have hwt := torn_wt t HTT.out
        have kn := Int.natCast_nonneg k
        have kn1 : (k : Int) ≤ ((rput r).1.length : Int) := by rw [n1]; exact Int.ofNat_le.mpr hk256
        have kn2 : (k : Int) ≤ ((rput (older r s)).1.length : Int) := by rw [n2]; exact Int.ofNat_le.mpr hk256
        have HKK := Aside0.mk hk256
        obtain ⟨i0, hi0, _, hsz, _⟩ := info_parts infoU8
        have hcutT := cut_to (P := Try.prog) 22 5 .i64 Try.underlying22 hi0 L1 (rput r).1.length cL1 (k : Int) kn kn1 HCL1.out
        have hcutD := cut_from (P := Try.prog) 22 5 .i64 Try.underlying22 hi0 1 hsz L2 (rput (older r s)).1.length cL2 (k : Int) kn kn2
        rw [Int.toNat_natCast] at hcutT hcutD
        obtain ⟨AD, hAD⟩ : ∃ A1, A1 = (if cL2 = k then L2 else (L2 : Option Addr).map (·.add (k * 1))) := ⟨_, rfl⟩
        rw [← hAD] at hcutD
        have hT := Kd.C_take (m := k) HL1.out (by rw [n1]; exact hk256)
        have hD := Kd.C_drop (m := k) (c := cL2) HL2L.out (by rw [n2]; exact hk256) HCL2.out
        replace hD : Kd.C (Kd.int .u8) U9 AD ((rput (older r s)).1.drop k).length ((rput (older r s)).1.drop k) := by rw [hAD]; exact hD
        have lT : ((rput r).1.take k).length = k := by rw [List.length_take, n1]; exact Nat.min_eq_left hk256
        have lD : ((rput (older r s)).1.drop k).length = (rput (older r s)).1.length - k := List.length_drop
        rw [lT] at hT
        rw [lD] at hD
        have HTK := Aside0.mk hT
        have HDK := Aside0.mk hD
        have LT := Aside0.mk lT
        have LD := Aside0.mk lD
        clear hT hD lT lD hAD hsz hi0 n1 n2 ok1 ok2 hk256 kn kn1 kn2
        go_wp2_with fail
        have hD := below_drew1 (Below.refl U9.heap.size U9)
        have n_HB := Aside0.mk (below_step HB.out hD)
        have n_HA := Aside0.mk (Kd.C_below HA.out hD)
        have n_HD := Aside0.mk (Kd.C_below HD.out hD)
        have n_HE := Aside0.mk (Kd.C_below HE.out hD)
        have n_HF := Aside0.mk (Kd.C_below HF.out hD)
        have n_HK2 := Aside0.mk (blk_below HK2.out hD)
        have n_HK3 := Aside0.mk (blk_below HK3.out hD)
        have n_HL1 := Aside0.mk (Kd.C_below HL1.out hD)
        have n_HL2L := Aside0.mk (Kd.C_below HL2L.out hD)
        have n_HK11 := Aside0.mk (blk_below HK11.out hD)
        have n_HL3 := Aside0.mk (Kd.C_below HL3.out hD)
        have n_HTK := Aside0.mk (Kd.C_below HTK.out hD)
        have n_HDK := Aside0.mk (Kd.C_below HDK.out hD)
        clear HB HA HD HE HF HK2 HK3 HL1 HL2L HK11 HL3 HTK HDK
        have HB := n_HB
        have HA := n_HA
        have HD := n_HD
        have HE := n_HE
        have HF := n_HF
        have HK2 := n_HK2
        have HK3 := n_HK3
        have HL1 := n_HL1
        have HL2L := n_HL2L
        have HK11 := n_HK11
        have HL3 := n_HL3
        have HTK := n_HTK
        have HDK := n_HDK
        clear n_HB n_HA n_HD n_HE n_HF n_HK2 n_HK3 n_HL1 n_HL2L n_HK11 n_HL3 n_HTK n_HDK
        clear hD
        refine start_ (n := 10) (S := fun w' => True) (ds := []) #[false, false, false, false, false, false, false, false, false, false] (by kernel_rfl) rfl rfl trivial (fun hHeld => ?_); refine with_tabW RootTorn.tab14 RootTorn.bits14 (fun HT_ HW_ => ?_)
        generalize U9.drew = V0 at HB HA HD HE HF HK2 HK3 HL1 HL2L HK11 HL3 HTK HDK hHeld ⊢
        refine pure_ (i := 1) (N := some 89) (v := ?_) (a' := ?_) #[false, true, false, false, false, false, false, false, false, false] rfl rfl (any_of HT_.out (by kernel_rfl)) (fun _ _ _ h => h) (Or.inl ⟨by rfl, ?_⟩) ?_ ?_
        rotate_left
        ·
         intro w'
         go_simp
         with_reducible rfl
        rotate_left
        ·
         simp only [Act.put, List.setIfInBounds_toArray, List.set_cons_zero, List.set_cons_succ, i64_w, i32_w]
         rfl
        refine pure_ (i := 2) (N := some 90) (v := ?_) (a' := ?_) #[false, true, true, false, false, false, false, false, false, false] rfl rfl (any_of HT_.out (by kernel_rfl)) (fun _ _ _ h => h) (Or.inl ⟨by rfl, ?_⟩) ?_ ?_
        rotate_left
        ·
         intro w'
         go_simp
         with_reducible rfl
        rotate_left
        ·
         simp only [Act.put, List.setIfInBounds_toArray, List.set_cons_zero, List.set_cons_succ, i64_w, i32_w]
         rfl
        refine pure_ (i := 3) (N := some 91) (v := ?_) (a' := ?_) #[false, true, true, true, false, false, false, false, false, false] rfl rfl (any_of HT_.out (by kernel_rfl)) (fun _ _ _ h => h) (Or.inl ⟨by rfl, ?_⟩) ?_ ?_
        rotate_left
        ·
         intro w'
         go_simp
         with_reducible rfl
        rotate_left
        ·
         simp only [Act.put, List.setIfInBounds_toArray, List.set_cons_zero, List.set_cons_succ, i64_w, i32_w]
         rfl
        refine pure_ (i := 5) (N := some 93) (v := ?_) (a' := ?_) #[false, true, true, true, false, true, false, false, false, false] rfl rfl (any_of HT_.out (by kernel_rfl)) (fun _ _ _ h => h) (Or.inl ⟨by rfl, ?_⟩) ?_ ?_
        rotate_left
        ·
         intro w'
         go_simp
         with_reducible rfl
        rotate_left
        ·
         simp only [Act.put, List.setIfInBounds_toArray, List.set_cons_zero, List.set_cons_succ, i64_w, i32_w]
         rfl
        refine pure_ (i := 6) (N := some 94) (v := ?_) (a' := ?_) #[false, true, true, true, false, true, true, false, false, false] rfl rfl (any_of HT_.out (by kernel_rfl)) (fun _ _ _ h => h) (Or.inl ⟨by rfl, ?_⟩) ?_ ?_
        rotate_left
        ·
         intro w'
         go_simp
         with_reducible rfl
        rotate_left
        ·
         simp only [Act.put, List.setIfInBounds_toArray, List.set_cons_zero, List.set_cons_succ, i64_w, i32_w]
         rfl
        refine pure_ (i := 7) (N := some 95) (v := ?_) (a' := ?_) #[false, true, true, true, false, true, true, true, false, false] rfl rfl (any_of HT_.out (by kernel_rfl)) (fun _ _ _ h => h) (Or.inl ⟨by rfl, ?_⟩) ?_ ?_
        rotate_left
        ·
         intro w'
         go_simp
         with_reducible rfl
        rotate_left
        ·
         simp only [Act.put, List.setIfInBounds_toArray, List.set_cons_zero, List.set_cons_succ, i64_w, i32_w]
         rfl
        refine one_ (i := 0) (N := some 88) #[true, true, true, true, false, true, true, true, false, false] rfl rfl (one_of HT_.out (by kernel_rfl)) (by decide) (fun K hK => ?_)
        refine Kd.R_lit_step (Kd.int .u8) V0.heap.size 5 ?hg (N := 88) ?hd (xs := ([] : List Int)) (inner := []) (ok := fun _ => True) (okp := fun _ => True) ?hr ?hp (fun _ hk => hk) trivial (Below.refl _ _) (Nat.le_refl _) (by simp) ?_; (case hd => rfl); (case hg => rfl); (case hr => first | (go_simp; done) | (go_simp; rfl)); (case hp => exact Reps.none _ _)
        intro v88 V1 ho1 hb1 hgx hnx
        clear hgx hnx
        have HO1 := Aside0.mk ho1
        have HB1 := Aside0.mk hb1
        clear ho1 hb1
        refine hK.out _ _ trivial (fun hHeld => ?_)
        clear hK K
        refine norm_ (a' := ?_) ?_ ?_
        rotate_left
        ·
         show Act.put _ (some 88) _ = _
         simp only [Act.put, List.setIfInBounds_toArray, List.set_cons_zero, List.set_cons_succ, i64_w, i32_w]
         rfl
        refine one_ (i := 4) (N := some 92) #[true, true, true, true, true, true, true, true, false, false] rfl rfl (one_of HT_.out (by kernel_rfl)) (by decide) (fun K hK => ?_)
        refine Kd.R_append_rows_step (Kd.int .u8) (w0 := V0) V0.heap.size (by rfl) (.tmp 88) (.tmp 91) 22 5 (.int .u8 0) 1 rfl Try.underlying22 infoU8 rfl (by decide) (by omega) v88 (([] : List Int)) ((rput r).1.take k) _ _ _ (fun _ => True) (fun _ => False) rfl rfl ?aO ?aR (fun _ _ h => h) (fun _ h => h.elim) ?aF ?aB ?aS ?aL ?_
        (case aR => exact Kd.C_below HTK.out HB1.out)
        (case aB => exact HB1.out)
        (case aF => exact fun _ _ => trivial)
        (case aO => exact HO1.out)
        (case aS => exact HB1.out.size)
        (case aL => have := HKK.out; show (0 + k) * 1 ≤ _; omega)
        intro v92 V2 ho hb hg hat
        have HO2 := Aside0.mk ho
        have HB2 := Aside0.mk hb
        clear ho hb hg hat HO1 HB1
        refine hK.out _ _ trivial (fun hHeld => ?_)
        clear hK K
        refine norm_ (a' := ?_) ?_ ?_
        rotate_left
        ·
         show Act.put _ (some 92) _ = _
         simp only [Act.put, List.setIfInBounds_toArray, List.set_cons_zero, List.set_cons_succ, i64_w, i32_w]
         rfl
        refine one_ (i := 8) (N := some 96) #[true, true, true, true, true, true, true, true, true, false] rfl rfl (one_of HT_.out (by kernel_rfl)) (by decide) (fun K hK => ?_)
        refine Kd.R_append_rows_step (Kd.int .u8) (w0 := V0) V0.heap.size (by rfl) (.tmp 92) (.tmp 95) 22 5 (.int .u8 0) 1 rfl Try.underlying22 infoU8 rfl (by decide) (by omega) v92 (([] : List Int) ++ (rput r).1.take k) ((rput (older r s)).1.drop k) _ _ _ (fun _ => True) (fun _ => False) rfl rfl ?aO ?aR (fun _ _ h => h) (fun _ h => h.elim) ?aF ?aB ?aS ?aL ?_
        (case aR => exact Kd.C_below HDK.out HB2.out)
        (case aB => exact HB2.out)
        (case aF => exact fun _ _ => trivial)
        (case aO => exact HO2.out)
        (case aS => exact HB2.out.size)
        (case aL => have := HKK.out; rw [List.length_append, LT.out, N2.out]; show (0 + k + (256 - k)) * 1 ≤ _; omega)
        intro v96 V3 ho hb hg hat
        have HO3 := Aside0.mk ho
        have HB3 := Aside0.mk hb
        clear ho hb hg hat HO2 HB2
        refine hK.out _ _ trivial (fun hHeld => ?_)
        clear hK K
        refine norm_ (a' := ?_) ?_ ?_
        rotate_left
        ·
         show Act.put _ (some 96) _ = _
         simp only [Act.put, List.setIfInBounds_toArray, List.set_cons_zero, List.set_cons_succ, i64_w, i32_w]
         rfl
        refine pure_ (i := 9) (N := some 15) (v := ?_) (a' := ?_) #[true, true, true, true, true, true, true, true, true, true] rfl rfl (any_of HT_.out (by kernel_rfl)) (fun _ _ _ h => h) (Or.inl ⟨by rfl, ?_⟩) ?_ ?_
        rotate_left
        ·
         intro w'
         go_simp
         with_reducible rfl
        rotate_left
        ·
         simp only [Act.put, List.setIfInBounds_toArray, List.set_cons_zero, List.set_cons_succ, i64_w, i32_w]
         rfl
        refine done_ (done_of HT_.out (by kernel_rfl)) ?_
        have hb := HB3.out
        have ho := HO3.out
        rw [List.nil_append] at ho
        obtain ⟨T, cT, rfl⟩ := Kd.R_slice ho
        have n_HB := Aside0.mk (below_step HB.out hb)
        have n_HA := Aside0.mk (Kd.C_below HA.out hb)
        have n_HD := Aside0.mk (Kd.C_below HD.out hb)
        have n_HE := Aside0.mk (Kd.C_below HE.out hb)
        have n_HF := Aside0.mk (Kd.C_below HF.out hb)
        have n_HK2 := Aside0.mk (blk_below HK2.out hb)
        have n_HK3 := Aside0.mk (blk_below HK3.out hb)
        have n_HL1 := Aside0.mk (Kd.C_below HL1.out hb)
        have n_HL2L := Aside0.mk (Kd.C_below HL2L.out hb)
        have n_HK11 := Aside0.mk (blk_below HK11.out hb)
        have n_HL3 := Aside0.mk (Kd.C_below HL3.out hb)
        have n_HTK := Aside0.mk (Kd.C_below HTK.out hb)
        have n_HDK := Aside0.mk (Kd.C_below HDK.out hb)
        clear HB HA HD HE HF HK2 HK3 HL1 HL2L HK11 HL3 HTK HDK
        have HB := n_HB
        have HA := n_HA
        have HD := n_HD
        have HE := n_HE
        have HF := n_HF
        have HK2 := n_HK2
        have HK3 := n_HK3
        have HL1 := n_HL1
        have HL2L := n_HL2L
        have HK11 := n_HK11
        have HL3 := n_HL3
        have HTK := n_HTK
        have HDK := n_HDK
        clear n_HB n_HA n_HD n_HE n_HF n_HK2 n_HK3 n_HL1 n_HL2L n_HK11 n_HL3 n_HTK n_HDK
        have hpure := torn_all (k := k) HR1.out HR2.out HR3.out rfl rfl HKK.out
        have hty : ∀ x ∈ (rput r).1.take k ++ (rput (older r s)).1.drop k, Byte x := byte_app (fun x hx => rput_byte r x (List.mem_of_mem_take hx)) (fun x hx => rput_byte (older r s) x (List.mem_of_mem_drop hx))
        generalize (rput r).1.take k ++ (rput (older r s)).1.drop k = torn at ho hpure hty ⊢
        have HTN := Aside0.mk (Kd.R_reads' ho).2.2
        have HTC := Aside0.mk (Kd.R_reads' ho).2.1
        have HTY := Aside0.mk hty
        have HPU := Aside0.mk hpure
        clear hb ho HO3 HB3 HTK HDK LT LD hpure hty hHeld HT_ HW_ hcutT hcutD htm hwk hwt
        go_wp2_with fail
        go_at_call 30
        have hg := root_Get T cT torn V3 HTN.out HTC.out HTY.out
        refine hg.mono ?_
        clear hg
        rintro ex V4 ⟨v, rfl, hv, hb⟩
        obtain ⟨vT, vM, rfl, hT, hM⟩ := hv
        obtain ⟨T4, cT4, rfl⟩ := Kd.R_slice hT
        obtain ⟨M4, cM4, rfl⟩ := Kd.R_slice hM
        have n_HB := Aside0.mk (below_step HB.out hb)
        have n_HA := Aside0.mk (Kd.C_below HA.out hb)
        have n_HD := Aside0.mk (Kd.C_below HD.out hb)
        have n_HE := Aside0.mk (Kd.C_below HE.out hb)
        have n_HF := Aside0.mk (Kd.C_below HF.out hb)
        have n_HK2 := Aside0.mk (blk_below HK2.out hb)
        have n_HK3 := Aside0.mk (blk_below HK3.out hb)
        have n_HL1 := Aside0.mk (Kd.C_below HL1.out hb)
        have n_HL2L := Aside0.mk (Kd.C_below HL2L.out hb)
        have n_HK11 := Aside0.mk (blk_below HK11.out hb)
        have n_HL3 := Aside0.mk (Kd.C_below HL3.out hb)
        have n_HTN := Aside0.mk (Kd.C_below HTN.out hb)
        clear HB HA HD HE HF HK2 HK3 HL1 HL2L HK11 HL3 HTN
        have HB := n_HB
        have HA := n_HA
        have HD := n_HD
        have HE := n_HE
        have HF := n_HF
        have HK2 := n_HK2
        have HK3 := n_HK3
        have HL1 := n_HL1
        have HL2L := n_HL2L
        have HK11 := n_HK11
        have HL3 := n_HL3
        have HTN := n_HTN
        clear n_HB n_HA n_HD n_HE n_HF n_HK2 n_HK3 n_HL1 n_HL2L n_HK11 n_HL3 n_HTN
        have HT4 := Aside0.mk (hT)
        have HM4 := Aside0.mk (hM)
        clear hT hM hb
        go_upto_region 16 with fail
        obtain ⟨g16, hg16⟩ : ∃ g, g = V4.heap.size := ⟨_, rfl⟩
        have hW := below_alloc (Below.refl V4.heap.size V4) (Obj.cells #[Value.int IntKind.i64 ((rget torn).1).ep, Value.int IntKind.i64 ((rget torn).1).bl, Value.int IntKind.i64 ((rget torn).1).nx, Value.int IntKind.i64 ((rget torn).1).st, Value.slice T4 ((rget torn).1).tb.length cT4, Value.slice M4 ((rget torn).1).mp.length cM4] 55)
        have hN := blk_new V4 (Obj.cells #[Value.int IntKind.i64 ((rget torn).1).ep, Value.int IntKind.i64 ((rget torn).1).bl, Value.int IntKind.i64 ((rget torn).1).nx, Value.int IntKind.i64 ((rget torn).1).st, Value.slice T4 ((rget torn).1).tb.length cT4, Value.slice M4 ((rget torn).1).mp.length cM4] 55)
        rw [← hg16] at hN ⊢
        generalize V4.alloc (Obj.cells #[Value.int IntKind.i64 ((rget torn).1).ep, Value.int IntKind.i64 ((rget torn).1).bl, Value.int IntKind.i64 ((rget torn).1).nx, Value.int IntKind.i64 ((rget torn).1).st, Value.slice T4 ((rget torn).1).tb.length cT4, Value.slice M4 ((rget torn).1).mp.length cM4] 55) = V5 at hW hN ⊢
        have n_HB := Aside0.mk (below_step HB.out hW)
        have n_HA := Aside0.mk (Kd.C_below HA.out hW)
        have n_HD := Aside0.mk (Kd.C_below HD.out hW)
        have n_HE := Aside0.mk (Kd.C_below HE.out hW)
        have n_HF := Aside0.mk (Kd.C_below HF.out hW)
        have n_HK2 := Aside0.mk (blk_below HK2.out hW)
        have n_HK3 := Aside0.mk (blk_below HK3.out hW)
        have n_HL1 := Aside0.mk (Kd.C_below HL1.out hW)
        have n_HL2L := Aside0.mk (Kd.C_below HL2L.out hW)
        have n_HK11 := Aside0.mk (blk_below HK11.out hW)
        have n_HL3 := Aside0.mk (Kd.C_below HL3.out hW)
        have n_HTN := Aside0.mk (Kd.C_below HTN.out hW)
        have n_HT4 := Aside0.mk (Kd.R_below HT4.out hW)
        have n_HM4 := Aside0.mk (Kd.R_below HM4.out hW)
        clear HB HA HD HE HF HK2 HK3 HL1 HL2L HK11 HL3 HTN HT4 HM4
        have HB := n_HB
        have HA := n_HA
        have HD := n_HD
        have HE := n_HE
        have HF := n_HF
        have HK2 := n_HK2
        have HK3 := n_HK3
        have HL1 := n_HL1
        have HL2L := n_HL2L
        have HK11 := n_HK11
        have HL3 := n_HL3
        have HTN := n_HTN
        have HT4 := n_HT4
        have HM4 := n_HM4
        clear n_HB n_HA n_HD n_HE n_HF n_HK2 n_HK3 n_HL1 n_HL2L n_HK11 n_HL3 n_HTN n_HT4 n_HM4
        have HK16 := Aside0.mk (hN)
        have Eg16 := Aside0.mk hg16
        clear hW hN hg16
        by_cases h0 : (rget torn).2 = 0
        ·
         cases hs1 : rsame (rget torn).1 r
         ·
          skip
          have hgz : ((rget torn).2 == 0) = true := beq_iff_eq.mpr h0
          have hx : (rget torn).1 = older r s := by
           rcases HPU.out.1 h0 with h | h
           ·
            rw [h, rsame_self] at hs1; cases hs1
           ·
            exact h
          have HSQ := Aside0.mk hs1
          have HSX := Aside0.mk (show rsame (rget torn).1 (older r s) = true by rw [hx]; exact rsame_self _)
          clear hs1 h0 hx
          have cx0 := blk_cell HK16.out 0; have fx0 := blk_frozen HK16.out 0; have cx1 := blk_cell HK16.out 1; have fx1 := blk_frozen HK16.out 1; have cx2 := blk_cell HK16.out 2; have fx2 := blk_frozen HK16.out 2; have cx3 := blk_cell HK16.out 3; have fx3 := blk_frozen HK16.out 3; have cx4 := blk_cell HK16.out 4; have fx4 := blk_frozen HK16.out 4; have cx5 := blk_cell HK16.out 5; have fx5 := blk_frozen HK16.out 5
          have cy0 := blk_cell HK2.out 0; have fy0 := blk_frozen HK2.out 0; have cy1 := blk_cell HK2.out 1; have fy1 := blk_frozen HK2.out 1; have cy2 := blk_cell HK2.out 2; have fy2 := blk_frozen HK2.out 2; have cy3 := blk_cell HK2.out 3; have fy3 := blk_frozen HK2.out 3; have cy4 := blk_cell HK2.out 4; have fy4 := blk_frozen HK2.out 4; have cy5 := blk_cell HK2.out 5; have fy5 := blk_frozen HK2.out 5
          go_wp2_with fail
          go_at_call 29
          clear cx0 fx0 cx1 fx1 cx2 fx2 cx3 fx3 cx4 fx4 cx5 fx5 cy0 fy0 cy1 fy1 cy2 fy2 cy3 fy3 cy4 fy4 cy5 fy5
          have hs := intarsiaref05_Same.calls 1001 ((rget torn).1).ep ((rget torn).1).bl ((rget torn).1).nx ((rget torn).1).st T4 cT4 ((rget torn).1).tb M4 cM4 ((rget torn).1).mp (r).ep (r).bl (r).nx (r).st A c (r).tb B d (r).mp false V5 (Kd.R_reads' HT4.out).2.2 (Kd.R_reads' HT4.out).2.1 (Kd.R_reads' HM4.out).2.2 (Kd.R_reads' HM4.out).2.1 HA.out HCA.out HD.out HCD.out (by have := rSame_is ((rget torn).1) (r) (Nat.le_trans (rget_len torn).1 (by decide)) (Nat.le_trans (rget_len torn).2 (by decide)); rw [HSQ.out] at this; exact this)
          refine hs.mono ?_
          clear hs
          rintro ex V6 ⟨rfl, hb⟩
          have n_HB := Aside0.mk (below_step HB.out hb)
          have n_HA := Aside0.mk (Kd.C_below HA.out hb)
          have n_HD := Aside0.mk (Kd.C_below HD.out hb)
          have n_HE := Aside0.mk (Kd.C_below HE.out hb)
          have n_HF := Aside0.mk (Kd.C_below HF.out hb)
          have n_HK2 := Aside0.mk (blk_below HK2.out hb)
          have n_HK3 := Aside0.mk (blk_below HK3.out hb)
          have n_HL1 := Aside0.mk (Kd.C_below HL1.out hb)
          have n_HL2L := Aside0.mk (Kd.C_below HL2L.out hb)
          have n_HK11 := Aside0.mk (blk_below HK11.out hb)
          have n_HL3 := Aside0.mk (Kd.C_below HL3.out hb)
          have n_HTN := Aside0.mk (Kd.C_below HTN.out hb)
          have n_HT4 := Aside0.mk (Kd.R_below HT4.out hb)
          have n_HM4 := Aside0.mk (Kd.R_below HM4.out hb)
          have n_HK16 := Aside0.mk (blk_below HK16.out hb)
          clear HB HA HD HE HF HK2 HK3 HL1 HL2L HK11 HL3 HTN HT4 HM4 HK16
          have HB := n_HB
          have HA := n_HA
          have HD := n_HD
          have HE := n_HE
          have HF := n_HF
          have HK2 := n_HK2
          have HK3 := n_HK3
          have HL1 := n_HL1
          have HL2L := n_HL2L
          have HK11 := n_HK11
          have HL3 := n_HL3
          have HTN := n_HTN
          have HT4 := n_HT4
          have HM4 := n_HM4
          have HK16 := n_HK16
          clear n_HB n_HA n_HD n_HE n_HF n_HK2 n_HK3 n_HL1 n_HL2L n_HK11 n_HL3 n_HTN n_HT4 n_HM4 n_HK16
          clear hb HSQ
          have cx0 := blk_cell HK16.out 0; have fx0 := blk_frozen HK16.out 0; have cx1 := blk_cell HK16.out 1; have fx1 := blk_frozen HK16.out 1; have cx2 := blk_cell HK16.out 2; have fx2 := blk_frozen HK16.out 2; have cx3 := blk_cell HK16.out 3; have fx3 := blk_frozen HK16.out 3; have cx4 := blk_cell HK16.out 4; have fx4 := blk_frozen HK16.out 4; have cx5 := blk_cell HK16.out 5; have fx5 := blk_frozen HK16.out 5
          have cy0 := blk_cell HK3.out 0; have fy0 := blk_frozen HK3.out 0; have cy1 := blk_cell HK3.out 1; have fy1 := blk_frozen HK3.out 1; have cy2 := blk_cell HK3.out 2; have fy2 := blk_frozen HK3.out 2; have cy3 := blk_cell HK3.out 3; have fy3 := blk_frozen HK3.out 3; have cy4 := blk_cell HK3.out 4; have fy4 := blk_frozen HK3.out 4; have cy5 := blk_cell HK3.out 5; have fy5 := blk_frozen HK3.out 5
          have HSQ := HSX
          clear HSX
          go_wp2_with fail
          go_at_call 29
          clear cx0 fx0 cx1 fx1 cx2 fx2 cx3 fx3 cx4 fx4 cx5 fx5 cy0 fy0 cy1 fy1 cy2 fy2 cy3 fy3 cy4 fy4 cy5 fy5
          have hs := intarsiaref05_Same.calls 1001 ((rget torn).1).ep ((rget torn).1).bl ((rget torn).1).nx ((rget torn).1).st T4 cT4 ((rget torn).1).tb M4 cM4 ((rget torn).1).mp (older r s).ep (older r s).bl (older r s).nx (older r s).st C e (older r s).tb D f (older r s).mp true V6 (Kd.R_reads' HT4.out).2.2 (Kd.R_reads' HT4.out).2.1 (Kd.R_reads' HM4.out).2.2 (Kd.R_reads' HM4.out).2.1 HE.out HCE.out HF.out HCF.out (by have := rSame_is ((rget torn).1) (older r s) (Nat.le_trans (rget_len torn).1 (by decide)) (Nat.le_trans (rget_len torn).2 (by decide)); rw [HSQ.out] at this; exact this)
          refine hs.mono ?_
          clear hs
          rintro ex V7 ⟨rfl, hb⟩
          have n_HB := Aside0.mk (below_step HB.out hb)
          have n_HA := Aside0.mk (Kd.C_below HA.out hb)
          have n_HD := Aside0.mk (Kd.C_below HD.out hb)
          have n_HE := Aside0.mk (Kd.C_below HE.out hb)
          have n_HF := Aside0.mk (Kd.C_below HF.out hb)
          have n_HK2 := Aside0.mk (blk_below HK2.out hb)
          have n_HK3 := Aside0.mk (blk_below HK3.out hb)
          have n_HL1 := Aside0.mk (Kd.C_below HL1.out hb)
          have n_HL2L := Aside0.mk (Kd.C_below HL2L.out hb)
          have n_HK11 := Aside0.mk (blk_below HK11.out hb)
          have n_HL3 := Aside0.mk (Kd.C_below HL3.out hb)
          have n_HTN := Aside0.mk (Kd.C_below HTN.out hb)
          have n_HT4 := Aside0.mk (Kd.R_below HT4.out hb)
          have n_HM4 := Aside0.mk (Kd.R_below HM4.out hb)
          have n_HK16 := Aside0.mk (blk_below HK16.out hb)
          clear HB HA HD HE HF HK2 HK3 HL1 HL2L HK11 HL3 HTN HT4 HM4 HK16
          have HB := n_HB
          have HA := n_HA
          have HD := n_HD
          have HE := n_HE
          have HF := n_HF
          have HK2 := n_HK2
          have HK3 := n_HK3
          have HL1 := n_HL1
          have HL2L := n_HL2L
          have HK11 := n_HK11
          have HL3 := n_HL3
          have HTN := n_HTN
          have HT4 := n_HT4
          have HM4 := n_HM4
          have HK16 := n_HK16
          clear n_HB n_HA n_HD n_HE n_HF n_HK2 n_HK3 n_HL1 n_HL2L n_HK11 n_HL3 n_HTN n_HT4 n_HM4 n_HK16
          clear hb HSQ
          clear hgz
          go_upto_region 18 with fail
          by_cases he : r.ep % 2 = 1
          ·
           skip
           have HPAR := Aside0.mk he
           clear he
           have htm : Int.tmod r.ep 2 = r.ep % 2 := Int.tmod_eq_emod_of_nonneg HEP.out
           have hwm := torn_wm r.ep
           have hee := HPAR.out
           have p1 : (r.ep % 2 == 1) = true := by rw [hee]; rfl
           clear hee
           have cx0 := blk_cell HK2.out 0; have fx0 := blk_frozen HK2.out 0; have cx1 := blk_cell HK2.out 1; have fx1 := blk_frozen HK2.out 1; have cx2 := blk_cell HK2.out 2; have fx2 := blk_frozen HK2.out 2; have cx3 := blk_cell HK2.out 3; have fx3 := blk_frozen HK2.out 3; have cx4 := blk_cell HK2.out 4; have fx4 := blk_frozen HK2.out 4; have cx5 := blk_cell HK2.out 5; have fx5 := blk_frozen HK2.out 5
           go_wp2_with fail
           go_at_call 32
           clear cx0 fx0 cx1 fx1 cx2 fx2 cx3 fx3 cx4 fx4 cx5 fx5
           have hg := root_Choose L3 cL3 (rput (midr r)).1 T cT torn V7 HL3.out HCL3.out (rput_byte _) HTN.out HTC.out HTY.out
           obtain ⟨y, n, hch, hy⟩ := HPU.out.2.2 HPAR.out
           rw [hch] at hg
           refine hg.mono ?_
           clear hg hch
           rintro ex V10 ⟨v, rfl, hv, hb⟩
           obtain ⟨vT, vM, rfl, hT, hM⟩ := hv
           obtain ⟨T5, cT5, rfl⟩ := Kd.R_slice hT
           obtain ⟨M5, cM5, rfl⟩ := Kd.R_slice hM
           have n_HB := Aside0.mk (below_step HB.out hb)
           have n_HA := Aside0.mk (Kd.C_below HA.out hb)
           have n_HD := Aside0.mk (Kd.C_below HD.out hb)
           have n_HE := Aside0.mk (Kd.C_below HE.out hb)
           have n_HF := Aside0.mk (Kd.C_below HF.out hb)
           have n_HK2 := Aside0.mk (blk_below HK2.out hb)
           have n_HK3 := Aside0.mk (blk_below HK3.out hb)
           have n_HL1 := Aside0.mk (Kd.C_below HL1.out hb)
           have n_HL2L := Aside0.mk (Kd.C_below HL2L.out hb)
           have n_HK11 := Aside0.mk (blk_below HK11.out hb)
           have n_HL3 := Aside0.mk (Kd.C_below HL3.out hb)
           have n_HTN := Aside0.mk (Kd.C_below HTN.out hb)
           have n_HT4 := Aside0.mk (Kd.R_below HT4.out hb)
           have n_HM4 := Aside0.mk (Kd.R_below HM4.out hb)
           have n_HK16 := Aside0.mk (blk_below HK16.out hb)
           clear HB HA HD HE HF HK2 HK3 HL1 HL2L HK11 HL3 HTN HT4 HM4 HK16
           have HB := n_HB
           have HA := n_HA
           have HD := n_HD
           have HE := n_HE
           have HF := n_HF
           have HK2 := n_HK2
           have HK3 := n_HK3
           have HL1 := n_HL1
           have HL2L := n_HL2L
           have HK11 := n_HK11
           have HL3 := n_HL3
           have HTN := n_HTN
           have HT4 := n_HT4
           have HM4 := n_HM4
           have HK16 := n_HK16
           clear n_HB n_HA n_HD n_HE n_HF n_HK2 n_HK3 n_HL1 n_HL2L n_HK11 n_HL3 n_HTN n_HT4 n_HM4 n_HK16
           have HT5 := Aside0.mk (hT)
           have HM5 := Aside0.mk (hM)
           clear hT hM hb
           go_upto_region 22 with fail
           obtain ⟨g20, hg20⟩ : ∃ g, g = V10.heap.size := ⟨_, rfl⟩
           have hW := below_alloc (Below.refl V10.heap.size V10) (Obj.cells #[Value.int IntKind.i64 (y).ep, Value.int IntKind.i64 (y).bl, Value.int IntKind.i64 (y).nx, Value.int IntKind.i64 (y).st, Value.slice T5 (y).tb.length cT5, Value.slice M5 (y).mp.length cM5] 55)
           have hN := blk_new V10 (Obj.cells #[Value.int IntKind.i64 (y).ep, Value.int IntKind.i64 (y).bl, Value.int IntKind.i64 (y).nx, Value.int IntKind.i64 (y).st, Value.slice T5 (y).tb.length cT5, Value.slice M5 (y).mp.length cM5] 55)
           rw [← hg20] at hN ⊢
           generalize V10.alloc (Obj.cells #[Value.int IntKind.i64 (y).ep, Value.int IntKind.i64 (y).bl, Value.int IntKind.i64 (y).nx, Value.int IntKind.i64 (y).st, Value.slice T5 (y).tb.length cT5, Value.slice M5 (y).mp.length cM5] 55) = V11 at hW hN ⊢
           have n_HB := Aside0.mk (below_step HB.out hW)
           have n_HA := Aside0.mk (Kd.C_below HA.out hW)
           have n_HD := Aside0.mk (Kd.C_below HD.out hW)
           have n_HE := Aside0.mk (Kd.C_below HE.out hW)
           have n_HF := Aside0.mk (Kd.C_below HF.out hW)
           have n_HK2 := Aside0.mk (blk_below HK2.out hW)
           have n_HK3 := Aside0.mk (blk_below HK3.out hW)
           have n_HL1 := Aside0.mk (Kd.C_below HL1.out hW)
           have n_HL2L := Aside0.mk (Kd.C_below HL2L.out hW)
           have n_HK11 := Aside0.mk (blk_below HK11.out hW)
           have n_HL3 := Aside0.mk (Kd.C_below HL3.out hW)
           have n_HTN := Aside0.mk (Kd.C_below HTN.out hW)
           have n_HT4 := Aside0.mk (Kd.R_below HT4.out hW)
           have n_HM4 := Aside0.mk (Kd.R_below HM4.out hW)
           have n_HK16 := Aside0.mk (blk_below HK16.out hW)
           have n_HT5 := Aside0.mk (Kd.R_below HT5.out hW)
           have n_HM5 := Aside0.mk (Kd.R_below HM5.out hW)
           clear HB HA HD HE HF HK2 HK3 HL1 HL2L HK11 HL3 HTN HT4 HM4 HK16 HT5 HM5
           have HB := n_HB
           have HA := n_HA
           have HD := n_HD
           have HE := n_HE
           have HF := n_HF
           have HK2 := n_HK2
           have HK3 := n_HK3
           have HL1 := n_HL1
           have HL2L := n_HL2L
           have HK11 := n_HK11
           have HL3 := n_HL3
           have HTN := n_HTN
           have HT4 := n_HT4
           have HM4 := n_HM4
           have HK16 := n_HK16
           have HT5 := n_HT5
           have HM5 := n_HM5
           clear n_HB n_HA n_HD n_HE n_HF n_HK2 n_HK3 n_HL1 n_HL2L n_HK11 n_HL3 n_HTN n_HT4 n_HM4 n_HK16 n_HT5 n_HM5
           have HK20 := Aside0.mk (hN)
           have Eg20 := Aside0.mk hg20
           clear hW hN hg20
           clear htm hwm p1
           rcases hy with rfl | rfl
           ·
            skip
            have HSQ := Aside0.mk (rsame_self y)
            have cx0 := blk_cell HK20.out 0; have fx0 := blk_frozen HK20.out 0; have cx1 := blk_cell HK20.out 1; have fx1 := blk_frozen HK20.out 1; have cx2 := blk_cell HK20.out 2; have fx2 := blk_frozen HK20.out 2; have cx3 := blk_cell HK20.out 3; have fx3 := blk_frozen HK20.out 3; have cx4 := blk_cell HK20.out 4; have fx4 := blk_frozen HK20.out 4; have cx5 := blk_cell HK20.out 5; have fx5 := blk_frozen HK20.out 5
            have cy0 := blk_cell HK2.out 0; have fy0 := blk_frozen HK2.out 0; have cy1 := blk_cell HK2.out 1; have fy1 := blk_frozen HK2.out 1; have cy2 := blk_cell HK2.out 2; have fy2 := blk_frozen HK2.out 2; have cy3 := blk_cell HK2.out 3; have fy3 := blk_frozen HK2.out 3; have cy4 := blk_cell HK2.out 4; have fy4 := blk_frozen HK2.out 4; have cy5 := blk_cell HK2.out 5; have fy5 := blk_frozen HK2.out 5
            go_wp2_with fail
            go_at_call 29
            clear cx0 fx0 cx1 fx1 cx2 fx2 cx3 fx3 cx4 fx4 cx5 fx5 cy0 fy0 cy1 fy1 cy2 fy2 cy3 fy3 cy4 fy4 cy5 fy5
            have hs := intarsiaref05_Same.calls 1001 (y).ep (y).bl (y).nx (y).st T5 cT5 (y).tb M5 cM5 (y).mp (y).ep (y).bl (y).nx (y).st A c (y).tb B d (y).mp true V11 (Kd.R_reads' HT5.out).2.2 (Kd.R_reads' HT5.out).2.1 (Kd.R_reads' HM5.out).2.2 (Kd.R_reads' HM5.out).2.1 HA.out HCA.out HD.out HCD.out (by have := rSame_is (y) (y) (Nat.le_trans HL.out.1 (by decide)) (Nat.le_trans HL.out.2 (by decide)); rw [HSQ.out] at this; exact this)
            refine hs.mono ?_
            clear hs
            rintro ex V12 ⟨rfl, hb⟩
            have n_HB := Aside0.mk (below_step HB.out hb)
            have n_HA := Aside0.mk (Kd.C_below HA.out hb)
            have n_HD := Aside0.mk (Kd.C_below HD.out hb)
            have n_HE := Aside0.mk (Kd.C_below HE.out hb)
            have n_HF := Aside0.mk (Kd.C_below HF.out hb)
            have n_HK2 := Aside0.mk (blk_below HK2.out hb)
            have n_HK3 := Aside0.mk (blk_below HK3.out hb)
            have n_HL1 := Aside0.mk (Kd.C_below HL1.out hb)
            have n_HL2L := Aside0.mk (Kd.C_below HL2L.out hb)
            have n_HK11 := Aside0.mk (blk_below HK11.out hb)
            have n_HL3 := Aside0.mk (Kd.C_below HL3.out hb)
            have n_HTN := Aside0.mk (Kd.C_below HTN.out hb)
            have n_HT4 := Aside0.mk (Kd.R_below HT4.out hb)
            have n_HM4 := Aside0.mk (Kd.R_below HM4.out hb)
            have n_HK16 := Aside0.mk (blk_below HK16.out hb)
            have n_HT5 := Aside0.mk (Kd.R_below HT5.out hb)
            have n_HM5 := Aside0.mk (Kd.R_below HM5.out hb)
            have n_HK20 := Aside0.mk (blk_below HK20.out hb)
            clear HB HA HD HE HF HK2 HK3 HL1 HL2L HK11 HL3 HTN HT4 HM4 HK16 HT5 HM5 HK20
            have HB := n_HB
            have HA := n_HA
            have HD := n_HD
            have HE := n_HE
            have HF := n_HF
            have HK2 := n_HK2
            have HK3 := n_HK3
            have HL1 := n_HL1
            have HL2L := n_HL2L
            have HK11 := n_HK11
            have HL3 := n_HL3
            have HTN := n_HTN
            have HT4 := n_HT4
            have HM4 := n_HM4
            have HK16 := n_HK16
            have HT5 := n_HT5
            have HM5 := n_HM5
            have HK20 := n_HK20
            clear n_HB n_HA n_HD n_HE n_HF n_HK2 n_HK3 n_HL1 n_HL2L n_HK11 n_HL3 n_HTN n_HT4 n_HM4 n_HK16 n_HT5 n_HM5 n_HK20
            clear hb HSQ
            go_wp2_with fail
            go_at_call 24
            refine (awake_calls V12).mono ?_
            rintro ex VA ⟨rfl, hb⟩
            have HBA := Aside0.mk (below_step HB.out hb)
            clear hb
            go_wp2
            go_ret
            exact ⟨rfl, HBA.out⟩
           ·
            skip
            have HSQ := Aside0.mk (mid_not r)
            have cx0 := blk_cell HK20.out 0; have fx0 := blk_frozen HK20.out 0; have cx1 := blk_cell HK20.out 1; have fx1 := blk_frozen HK20.out 1; have cx2 := blk_cell HK20.out 2; have fx2 := blk_frozen HK20.out 2; have cx3 := blk_cell HK20.out 3; have fx3 := blk_frozen HK20.out 3; have cx4 := blk_cell HK20.out 4; have fx4 := blk_frozen HK20.out 4; have cx5 := blk_cell HK20.out 5; have fx5 := blk_frozen HK20.out 5
            have cy0 := blk_cell HK2.out 0; have fy0 := blk_frozen HK2.out 0; have cy1 := blk_cell HK2.out 1; have fy1 := blk_frozen HK2.out 1; have cy2 := blk_cell HK2.out 2; have fy2 := blk_frozen HK2.out 2; have cy3 := blk_cell HK2.out 3; have fy3 := blk_frozen HK2.out 3; have cy4 := blk_cell HK2.out 4; have fy4 := blk_frozen HK2.out 4; have cy5 := blk_cell HK2.out 5; have fy5 := blk_frozen HK2.out 5
            go_wp2_with fail
            go_at_call 29
            clear cx0 fx0 cx1 fx1 cx2 fx2 cx3 fx3 cx4 fx4 cx5 fx5 cy0 fy0 cy1 fy1 cy2 fy2 cy3 fy3 cy4 fy4 cy5 fy5
            have hs := intarsiaref05_Same.calls 1001 (midr r).ep (midr r).bl (midr r).nx (midr r).st T5 cT5 (midr r).tb M5 cM5 (midr r).mp (r).ep (r).bl (r).nx (r).st A c (r).tb B d (r).mp false V11 (Kd.R_reads' HT5.out).2.2 (Kd.R_reads' HT5.out).2.1 (Kd.R_reads' HM5.out).2.2 (Kd.R_reads' HM5.out).2.1 HA.out HCA.out HD.out HCD.out (by have := rSame_is (midr r) (r) (Nat.le_trans HL.out.1 (by decide)) (Nat.le_trans HL.out.2 (by decide)); rw [HSQ.out] at this; exact this)
            refine hs.mono ?_
            clear hs
            rintro ex V12 ⟨rfl, hb⟩
            have n_HB := Aside0.mk (below_step HB.out hb)
            have n_HA := Aside0.mk (Kd.C_below HA.out hb)
            have n_HD := Aside0.mk (Kd.C_below HD.out hb)
            have n_HE := Aside0.mk (Kd.C_below HE.out hb)
            have n_HF := Aside0.mk (Kd.C_below HF.out hb)
            have n_HK2 := Aside0.mk (blk_below HK2.out hb)
            have n_HK3 := Aside0.mk (blk_below HK3.out hb)
            have n_HL1 := Aside0.mk (Kd.C_below HL1.out hb)
            have n_HL2L := Aside0.mk (Kd.C_below HL2L.out hb)
            have n_HK11 := Aside0.mk (blk_below HK11.out hb)
            have n_HL3 := Aside0.mk (Kd.C_below HL3.out hb)
            have n_HTN := Aside0.mk (Kd.C_below HTN.out hb)
            have n_HT4 := Aside0.mk (Kd.R_below HT4.out hb)
            have n_HM4 := Aside0.mk (Kd.R_below HM4.out hb)
            have n_HK16 := Aside0.mk (blk_below HK16.out hb)
            have n_HT5 := Aside0.mk (Kd.R_below HT5.out hb)
            have n_HM5 := Aside0.mk (Kd.R_below HM5.out hb)
            have n_HK20 := Aside0.mk (blk_below HK20.out hb)
            clear HB HA HD HE HF HK2 HK3 HL1 HL2L HK11 HL3 HTN HT4 HM4 HK16 HT5 HM5 HK20
            have HB := n_HB
            have HA := n_HA
            have HD := n_HD
            have HE := n_HE
            have HF := n_HF
            have HK2 := n_HK2
            have HK3 := n_HK3
            have HL1 := n_HL1
            have HL2L := n_HL2L
            have HK11 := n_HK11
            have HL3 := n_HL3
            have HTN := n_HTN
            have HT4 := n_HT4
            have HM4 := n_HM4
            have HK16 := n_HK16
            have HT5 := n_HT5
            have HM5 := n_HM5
            have HK20 := n_HK20
            clear n_HB n_HA n_HD n_HE n_HF n_HK2 n_HK3 n_HL1 n_HL2L n_HK11 n_HL3 n_HTN n_HT4 n_HM4 n_HK16 n_HT5 n_HM5 n_HK20
            clear hb HSQ
            have cx0 := blk_cell HK20.out 0; have fx0 := blk_frozen HK20.out 0; have cx1 := blk_cell HK20.out 1; have fx1 := blk_frozen HK20.out 1; have cx2 := blk_cell HK20.out 2; have fx2 := blk_frozen HK20.out 2; have cx3 := blk_cell HK20.out 3; have fx3 := blk_frozen HK20.out 3; have cx4 := blk_cell HK20.out 4; have fx4 := blk_frozen HK20.out 4; have cx5 := blk_cell HK20.out 5; have fx5 := blk_frozen HK20.out 5
            have cy0 := blk_cell HK11.out 0; have fy0 := blk_frozen HK11.out 0; have cy1 := blk_cell HK11.out 1; have fy1 := blk_frozen HK11.out 1; have cy2 := blk_cell HK11.out 2; have fy2 := blk_frozen HK11.out 2; have cy3 := blk_cell HK11.out 3; have fy3 := blk_frozen HK11.out 3; have cy4 := blk_cell HK11.out 4; have fy4 := blk_frozen HK11.out 4; have cy5 := blk_cell HK11.out 5; have fy5 := blk_frozen HK11.out 5
            have HSQ := Aside0.mk (rsame_self (midr r))
            go_wp2_with fail
            go_at_call 29
            clear cx0 fx0 cx1 fx1 cx2 fx2 cx3 fx3 cx4 fx4 cx5 fx5 cy0 fy0 cy1 fy1 cy2 fy2 cy3 fy3 cy4 fy4 cy5 fy5
            have hs := intarsiaref05_Same.calls 1001 (midr r).ep (midr r).bl (midr r).nx (midr r).st T5 cT5 (midr r).tb M5 cM5 (midr r).mp (midr r).ep (midr r).bl (midr r).nx (midr r).st A c (midr r).tb B d (midr r).mp true V12 (Kd.R_reads' HT5.out).2.2 (Kd.R_reads' HT5.out).2.1 (Kd.R_reads' HM5.out).2.2 (Kd.R_reads' HM5.out).2.1 HA.out HCA.out HD.out HCD.out (by have := rSame_is (midr r) (midr r) (Nat.le_trans HL.out.1 (by decide)) (Nat.le_trans HL.out.2 (by decide)); rw [HSQ.out] at this; exact this)
            refine hs.mono ?_
            clear hs
            rintro ex V13 ⟨rfl, hb⟩
            have n_HB := Aside0.mk (below_step HB.out hb)
            have n_HA := Aside0.mk (Kd.C_below HA.out hb)
            have n_HD := Aside0.mk (Kd.C_below HD.out hb)
            have n_HE := Aside0.mk (Kd.C_below HE.out hb)
            have n_HF := Aside0.mk (Kd.C_below HF.out hb)
            have n_HK2 := Aside0.mk (blk_below HK2.out hb)
            have n_HK3 := Aside0.mk (blk_below HK3.out hb)
            have n_HL1 := Aside0.mk (Kd.C_below HL1.out hb)
            have n_HL2L := Aside0.mk (Kd.C_below HL2L.out hb)
            have n_HK11 := Aside0.mk (blk_below HK11.out hb)
            have n_HL3 := Aside0.mk (Kd.C_below HL3.out hb)
            have n_HTN := Aside0.mk (Kd.C_below HTN.out hb)
            have n_HT4 := Aside0.mk (Kd.R_below HT4.out hb)
            have n_HM4 := Aside0.mk (Kd.R_below HM4.out hb)
            have n_HK16 := Aside0.mk (blk_below HK16.out hb)
            have n_HT5 := Aside0.mk (Kd.R_below HT5.out hb)
            have n_HM5 := Aside0.mk (Kd.R_below HM5.out hb)
            have n_HK20 := Aside0.mk (blk_below HK20.out hb)
            clear HB HA HD HE HF HK2 HK3 HL1 HL2L HK11 HL3 HTN HT4 HM4 HK16 HT5 HM5 HK20
            have HB := n_HB
            have HA := n_HA
            have HD := n_HD
            have HE := n_HE
            have HF := n_HF
            have HK2 := n_HK2
            have HK3 := n_HK3
            have HL1 := n_HL1
            have HL2L := n_HL2L
            have HK11 := n_HK11
            have HL3 := n_HL3
            have HTN := n_HTN
            have HT4 := n_HT4
            have HM4 := n_HM4
            have HK16 := n_HK16
            have HT5 := n_HT5
            have HM5 := n_HM5
            have HK20 := n_HK20
            clear n_HB n_HA n_HD n_HE n_HF n_HK2 n_HK3 n_HL1 n_HL2L n_HK11 n_HL3 n_HTN n_HT4 n_HM4 n_HK16 n_HT5 n_HM5 n_HK20
            clear hb HSQ
            go_wp2_with fail
            go_at_call 24
            refine (awake_calls V13).mono ?_
            rintro ex VA ⟨rfl, hb⟩
            have HBA := Aside0.mk (below_step HB.out hb)
            clear hb
            go_wp2
            go_ret
            exact ⟨rfl, HBA.out⟩
          ·
           skip
           have HPAR := Aside0.mk (show r.ep % 2 = 0 by omega)
           clear he
           have htm : Int.tmod r.ep 2 = r.ep % 2 := Int.tmod_eq_emod_of_nonneg HEP.out
           have hwm := torn_wm r.ep
           have hee := HPAR.out
           have p1 : (r.ep % 2 == 1) = false := by rw [hee]; rfl
           clear hee
           have cx0 := blk_cell HK2.out 0; have fx0 := blk_frozen HK2.out 0; have cx1 := blk_cell HK2.out 1; have fx1 := blk_frozen HK2.out 1; have cx2 := blk_cell HK2.out 2; have fx2 := blk_frozen HK2.out 2; have cx3 := blk_cell HK2.out 3; have fx3 := blk_frozen HK2.out 3; have cx4 := blk_cell HK2.out 4; have fx4 := blk_frozen HK2.out 4; have cx5 := blk_cell HK2.out 5; have fx5 := blk_frozen HK2.out 5
           go_wp2_with fail
           go_at_call 32
           clear cx0 fx0 cx1 fx1 cx2 fx2 cx3 fx3 cx4 fx4 cx5 fx5
           have hg := root_Choose T cT torn L3 cL3 (rput (midr r)).1 V7 HTN.out HTC.out HTY.out HL3.out HCL3.out (rput_byte _)
           obtain ⟨y, n, hch, hy⟩ := HPU.out.2.1 HPAR.out
           rw [hch] at hg
           refine hg.mono ?_
           clear hg hch
           rintro ex V10 ⟨v, rfl, hv, hb⟩
           obtain ⟨vT, vM, rfl, hT, hM⟩ := hv
           obtain ⟨T5, cT5, rfl⟩ := Kd.R_slice hT
           obtain ⟨M5, cM5, rfl⟩ := Kd.R_slice hM
           have n_HB := Aside0.mk (below_step HB.out hb)
           have n_HA := Aside0.mk (Kd.C_below HA.out hb)
           have n_HD := Aside0.mk (Kd.C_below HD.out hb)
           have n_HE := Aside0.mk (Kd.C_below HE.out hb)
           have n_HF := Aside0.mk (Kd.C_below HF.out hb)
           have n_HK2 := Aside0.mk (blk_below HK2.out hb)
           have n_HK3 := Aside0.mk (blk_below HK3.out hb)
           have n_HL1 := Aside0.mk (Kd.C_below HL1.out hb)
           have n_HL2L := Aside0.mk (Kd.C_below HL2L.out hb)
           have n_HK11 := Aside0.mk (blk_below HK11.out hb)
           have n_HL3 := Aside0.mk (Kd.C_below HL3.out hb)
           have n_HTN := Aside0.mk (Kd.C_below HTN.out hb)
           have n_HT4 := Aside0.mk (Kd.R_below HT4.out hb)
           have n_HM4 := Aside0.mk (Kd.R_below HM4.out hb)
           have n_HK16 := Aside0.mk (blk_below HK16.out hb)
           clear HB HA HD HE HF HK2 HK3 HL1 HL2L HK11 HL3 HTN HT4 HM4 HK16
           have HB := n_HB
           have HA := n_HA
           have HD := n_HD
           have HE := n_HE
           have HF := n_HF
           have HK2 := n_HK2
           have HK3 := n_HK3
           have HL1 := n_HL1
           have HL2L := n_HL2L
           have HK11 := n_HK11
           have HL3 := n_HL3
           have HTN := n_HTN
           have HT4 := n_HT4
           have HM4 := n_HM4
           have HK16 := n_HK16
           clear n_HB n_HA n_HD n_HE n_HF n_HK2 n_HK3 n_HL1 n_HL2L n_HK11 n_HL3 n_HTN n_HT4 n_HM4 n_HK16
           have HT5 := Aside0.mk (hT)
           have HM5 := Aside0.mk (hM)
           clear hT hM hb
           go_upto_region 22 with fail
           obtain ⟨g20, hg20⟩ : ∃ g, g = V10.heap.size := ⟨_, rfl⟩
           have hW := below_alloc (Below.refl V10.heap.size V10) (Obj.cells #[Value.int IntKind.i64 (y).ep, Value.int IntKind.i64 (y).bl, Value.int IntKind.i64 (y).nx, Value.int IntKind.i64 (y).st, Value.slice T5 (y).tb.length cT5, Value.slice M5 (y).mp.length cM5] 55)
           have hN := blk_new V10 (Obj.cells #[Value.int IntKind.i64 (y).ep, Value.int IntKind.i64 (y).bl, Value.int IntKind.i64 (y).nx, Value.int IntKind.i64 (y).st, Value.slice T5 (y).tb.length cT5, Value.slice M5 (y).mp.length cM5] 55)
           rw [← hg20] at hN ⊢
           generalize V10.alloc (Obj.cells #[Value.int IntKind.i64 (y).ep, Value.int IntKind.i64 (y).bl, Value.int IntKind.i64 (y).nx, Value.int IntKind.i64 (y).st, Value.slice T5 (y).tb.length cT5, Value.slice M5 (y).mp.length cM5] 55) = V11 at hW hN ⊢
           have n_HB := Aside0.mk (below_step HB.out hW)
           have n_HA := Aside0.mk (Kd.C_below HA.out hW)
           have n_HD := Aside0.mk (Kd.C_below HD.out hW)
           have n_HE := Aside0.mk (Kd.C_below HE.out hW)
           have n_HF := Aside0.mk (Kd.C_below HF.out hW)
           have n_HK2 := Aside0.mk (blk_below HK2.out hW)
           have n_HK3 := Aside0.mk (blk_below HK3.out hW)
           have n_HL1 := Aside0.mk (Kd.C_below HL1.out hW)
           have n_HL2L := Aside0.mk (Kd.C_below HL2L.out hW)
           have n_HK11 := Aside0.mk (blk_below HK11.out hW)
           have n_HL3 := Aside0.mk (Kd.C_below HL3.out hW)
           have n_HTN := Aside0.mk (Kd.C_below HTN.out hW)
           have n_HT4 := Aside0.mk (Kd.R_below HT4.out hW)
           have n_HM4 := Aside0.mk (Kd.R_below HM4.out hW)
           have n_HK16 := Aside0.mk (blk_below HK16.out hW)
           have n_HT5 := Aside0.mk (Kd.R_below HT5.out hW)
           have n_HM5 := Aside0.mk (Kd.R_below HM5.out hW)
           clear HB HA HD HE HF HK2 HK3 HL1 HL2L HK11 HL3 HTN HT4 HM4 HK16 HT5 HM5
           have HB := n_HB
           have HA := n_HA
           have HD := n_HD
           have HE := n_HE
           have HF := n_HF
           have HK2 := n_HK2
           have HK3 := n_HK3
           have HL1 := n_HL1
           have HL2L := n_HL2L
           have HK11 := n_HK11
           have HL3 := n_HL3
           have HTN := n_HTN
           have HT4 := n_HT4
           have HM4 := n_HM4
           have HK16 := n_HK16
           have HT5 := n_HT5
           have HM5 := n_HM5
           clear n_HB n_HA n_HD n_HE n_HF n_HK2 n_HK3 n_HL1 n_HL2L n_HK11 n_HL3 n_HTN n_HT4 n_HM4 n_HK16 n_HT5 n_HM5
           have HK20 := Aside0.mk (hN)
           have Eg20 := Aside0.mk hg20
           clear hW hN hg20
           clear htm hwm p1
           rcases hy with rfl | rfl
           ·
            skip
            have HSQ := Aside0.mk (rsame_self y)
            have cx0 := blk_cell HK20.out 0; have fx0 := blk_frozen HK20.out 0; have cx1 := blk_cell HK20.out 1; have fx1 := blk_frozen HK20.out 1; have cx2 := blk_cell HK20.out 2; have fx2 := blk_frozen HK20.out 2; have cx3 := blk_cell HK20.out 3; have fx3 := blk_frozen HK20.out 3; have cx4 := blk_cell HK20.out 4; have fx4 := blk_frozen HK20.out 4; have cx5 := blk_cell HK20.out 5; have fx5 := blk_frozen HK20.out 5
            have cy0 := blk_cell HK2.out 0; have fy0 := blk_frozen HK2.out 0; have cy1 := blk_cell HK2.out 1; have fy1 := blk_frozen HK2.out 1; have cy2 := blk_cell HK2.out 2; have fy2 := blk_frozen HK2.out 2; have cy3 := blk_cell HK2.out 3; have fy3 := blk_frozen HK2.out 3; have cy4 := blk_cell HK2.out 4; have fy4 := blk_frozen HK2.out 4; have cy5 := blk_cell HK2.out 5; have fy5 := blk_frozen HK2.out 5
            go_wp2_with fail
            go_at_call 29
            clear cx0 fx0 cx1 fx1 cx2 fx2 cx3 fx3 cx4 fx4 cx5 fx5 cy0 fy0 cy1 fy1 cy2 fy2 cy3 fy3 cy4 fy4 cy5 fy5
            have hs := intarsiaref05_Same.calls 1001 (y).ep (y).bl (y).nx (y).st T5 cT5 (y).tb M5 cM5 (y).mp (y).ep (y).bl (y).nx (y).st A c (y).tb B d (y).mp true V11 (Kd.R_reads' HT5.out).2.2 (Kd.R_reads' HT5.out).2.1 (Kd.R_reads' HM5.out).2.2 (Kd.R_reads' HM5.out).2.1 HA.out HCA.out HD.out HCD.out (by have := rSame_is (y) (y) (Nat.le_trans HL.out.1 (by decide)) (Nat.le_trans HL.out.2 (by decide)); rw [HSQ.out] at this; exact this)
            refine hs.mono ?_
            clear hs
            rintro ex V12 ⟨rfl, hb⟩
            have n_HB := Aside0.mk (below_step HB.out hb)
            have n_HA := Aside0.mk (Kd.C_below HA.out hb)
            have n_HD := Aside0.mk (Kd.C_below HD.out hb)
            have n_HE := Aside0.mk (Kd.C_below HE.out hb)
            have n_HF := Aside0.mk (Kd.C_below HF.out hb)
            have n_HK2 := Aside0.mk (blk_below HK2.out hb)
            have n_HK3 := Aside0.mk (blk_below HK3.out hb)
            have n_HL1 := Aside0.mk (Kd.C_below HL1.out hb)
            have n_HL2L := Aside0.mk (Kd.C_below HL2L.out hb)
            have n_HK11 := Aside0.mk (blk_below HK11.out hb)
            have n_HL3 := Aside0.mk (Kd.C_below HL3.out hb)
            have n_HTN := Aside0.mk (Kd.C_below HTN.out hb)
            have n_HT4 := Aside0.mk (Kd.R_below HT4.out hb)
            have n_HM4 := Aside0.mk (Kd.R_below HM4.out hb)
            have n_HK16 := Aside0.mk (blk_below HK16.out hb)
            have n_HT5 := Aside0.mk (Kd.R_below HT5.out hb)
            have n_HM5 := Aside0.mk (Kd.R_below HM5.out hb)
            have n_HK20 := Aside0.mk (blk_below HK20.out hb)
            clear HB HA HD HE HF HK2 HK3 HL1 HL2L HK11 HL3 HTN HT4 HM4 HK16 HT5 HM5 HK20
            have HB := n_HB
            have HA := n_HA
            have HD := n_HD
            have HE := n_HE
            have HF := n_HF
            have HK2 := n_HK2
            have HK3 := n_HK3
            have HL1 := n_HL1
            have HL2L := n_HL2L
            have HK11 := n_HK11
            have HL3 := n_HL3
            have HTN := n_HTN
            have HT4 := n_HT4
            have HM4 := n_HM4
            have HK16 := n_HK16
            have HT5 := n_HT5
            have HM5 := n_HM5
            have HK20 := n_HK20
            clear n_HB n_HA n_HD n_HE n_HF n_HK2 n_HK3 n_HL1 n_HL2L n_HK11 n_HL3 n_HTN n_HT4 n_HM4 n_HK16 n_HT5 n_HM5 n_HK20
            clear hb HSQ
            go_wp2_with fail
            go_at_call 24
            refine (awake_calls V12).mono ?_
            rintro ex VA ⟨rfl, hb⟩
            have HBA := Aside0.mk (below_step HB.out hb)
            clear hb
            go_wp2
            go_ret
            exact ⟨rfl, HBA.out⟩
           ·
            skip
            have HSQ := Aside0.mk (mid_not r)
            have cx0 := blk_cell HK20.out 0; have fx0 := blk_frozen HK20.out 0; have cx1 := blk_cell HK20.out 1; have fx1 := blk_frozen HK20.out 1; have cx2 := blk_cell HK20.out 2; have fx2 := blk_frozen HK20.out 2; have cx3 := blk_cell HK20.out 3; have fx3 := blk_frozen HK20.out 3; have cx4 := blk_cell HK20.out 4; have fx4 := blk_frozen HK20.out 4; have cx5 := blk_cell HK20.out 5; have fx5 := blk_frozen HK20.out 5
            have cy0 := blk_cell HK2.out 0; have fy0 := blk_frozen HK2.out 0; have cy1 := blk_cell HK2.out 1; have fy1 := blk_frozen HK2.out 1; have cy2 := blk_cell HK2.out 2; have fy2 := blk_frozen HK2.out 2; have cy3 := blk_cell HK2.out 3; have fy3 := blk_frozen HK2.out 3; have cy4 := blk_cell HK2.out 4; have fy4 := blk_frozen HK2.out 4; have cy5 := blk_cell HK2.out 5; have fy5 := blk_frozen HK2.out 5
            go_wp2_with fail
            go_at_call 29
            clear cx0 fx0 cx1 fx1 cx2 fx2 cx3 fx3 cx4 fx4 cx5 fx5 cy0 fy0 cy1 fy1 cy2 fy2 cy3 fy3 cy4 fy4 cy5 fy5
            have hs := intarsiaref05_Same.calls 1001 (midr r).ep (midr r).bl (midr r).nx (midr r).st T5 cT5 (midr r).tb M5 cM5 (midr r).mp (r).ep (r).bl (r).nx (r).st A c (r).tb B d (r).mp false V11 (Kd.R_reads' HT5.out).2.2 (Kd.R_reads' HT5.out).2.1 (Kd.R_reads' HM5.out).2.2 (Kd.R_reads' HM5.out).2.1 HA.out HCA.out HD.out HCD.out (by have := rSame_is (midr r) (r) (Nat.le_trans HL.out.1 (by decide)) (Nat.le_trans HL.out.2 (by decide)); rw [HSQ.out] at this; exact this)
            refine hs.mono ?_
            clear hs
            rintro ex V12 ⟨rfl, hb⟩
            have n_HB := Aside0.mk (below_step HB.out hb)
            have n_HA := Aside0.mk (Kd.C_below HA.out hb)
            have n_HD := Aside0.mk (Kd.C_below HD.out hb)
            have n_HE := Aside0.mk (Kd.C_below HE.out hb)
            have n_HF := Aside0.mk (Kd.C_below HF.out hb)
            have n_HK2 := Aside0.mk (blk_below HK2.out hb)
            have n_HK3 := Aside0.mk (blk_below HK3.out hb)
            have n_HL1 := Aside0.mk (Kd.C_below HL1.out hb)
            have n_HL2L := Aside0.mk (Kd.C_below HL2L.out hb)
            have n_HK11 := Aside0.mk (blk_below HK11.out hb)
            have n_HL3 := Aside0.mk (Kd.C_below HL3.out hb)
            have n_HTN := Aside0.mk (Kd.C_below HTN.out hb)
            have n_HT4 := Aside0.mk (Kd.R_below HT4.out hb)
            have n_HM4 := Aside0.mk (Kd.R_below HM4.out hb)
            have n_HK16 := Aside0.mk (blk_below HK16.out hb)
            have n_HT5 := Aside0.mk (Kd.R_below HT5.out hb)
            have n_HM5 := Aside0.mk (Kd.R_below HM5.out hb)
            have n_HK20 := Aside0.mk (blk_below HK20.out hb)
            clear HB HA HD HE HF HK2 HK3 HL1 HL2L HK11 HL3 HTN HT4 HM4 HK16 HT5 HM5 HK20
            have HB := n_HB
            have HA := n_HA
            have HD := n_HD
            have HE := n_HE
            have HF := n_HF
            have HK2 := n_HK2
            have HK3 := n_HK3
            have HL1 := n_HL1
            have HL2L := n_HL2L
            have HK11 := n_HK11
            have HL3 := n_HL3
            have HTN := n_HTN
            have HT4 := n_HT4
            have HM4 := n_HM4
            have HK16 := n_HK16
            have HT5 := n_HT5
            have HM5 := n_HM5
            have HK20 := n_HK20
            clear n_HB n_HA n_HD n_HE n_HF n_HK2 n_HK3 n_HL1 n_HL2L n_HK11 n_HL3 n_HTN n_HT4 n_HM4 n_HK16 n_HT5 n_HM5 n_HK20
            clear hb HSQ
            have cx0 := blk_cell HK20.out 0; have fx0 := blk_frozen HK20.out 0; have cx1 := blk_cell HK20.out 1; have fx1 := blk_frozen HK20.out 1; have cx2 := blk_cell HK20.out 2; have fx2 := blk_frozen HK20.out 2; have cx3 := blk_cell HK20.out 3; have fx3 := blk_frozen HK20.out 3; have cx4 := blk_cell HK20.out 4; have fx4 := blk_frozen HK20.out 4; have cx5 := blk_cell HK20.out 5; have fx5 := blk_frozen HK20.out 5
            have cy0 := blk_cell HK11.out 0; have fy0 := blk_frozen HK11.out 0; have cy1 := blk_cell HK11.out 1; have fy1 := blk_frozen HK11.out 1; have cy2 := blk_cell HK11.out 2; have fy2 := blk_frozen HK11.out 2; have cy3 := blk_cell HK11.out 3; have fy3 := blk_frozen HK11.out 3; have cy4 := blk_cell HK11.out 4; have fy4 := blk_frozen HK11.out 4; have cy5 := blk_cell HK11.out 5; have fy5 := blk_frozen HK11.out 5
            have HSQ := Aside0.mk (rsame_self (midr r))
            go_wp2_with fail
            go_at_call 29
            clear cx0 fx0 cx1 fx1 cx2 fx2 cx3 fx3 cx4 fx4 cx5 fx5 cy0 fy0 cy1 fy1 cy2 fy2 cy3 fy3 cy4 fy4 cy5 fy5
            have hs := intarsiaref05_Same.calls 1001 (midr r).ep (midr r).bl (midr r).nx (midr r).st T5 cT5 (midr r).tb M5 cM5 (midr r).mp (midr r).ep (midr r).bl (midr r).nx (midr r).st A c (midr r).tb B d (midr r).mp true V12 (Kd.R_reads' HT5.out).2.2 (Kd.R_reads' HT5.out).2.1 (Kd.R_reads' HM5.out).2.2 (Kd.R_reads' HM5.out).2.1 HA.out HCA.out HD.out HCD.out (by have := rSame_is (midr r) (midr r) (Nat.le_trans HL.out.1 (by decide)) (Nat.le_trans HL.out.2 (by decide)); rw [HSQ.out] at this; exact this)
            refine hs.mono ?_
            clear hs
            rintro ex V13 ⟨rfl, hb⟩
            have n_HB := Aside0.mk (below_step HB.out hb)
            have n_HA := Aside0.mk (Kd.C_below HA.out hb)
            have n_HD := Aside0.mk (Kd.C_below HD.out hb)
            have n_HE := Aside0.mk (Kd.C_below HE.out hb)
            have n_HF := Aside0.mk (Kd.C_below HF.out hb)
            have n_HK2 := Aside0.mk (blk_below HK2.out hb)
            have n_HK3 := Aside0.mk (blk_below HK3.out hb)
            have n_HL1 := Aside0.mk (Kd.C_below HL1.out hb)
            have n_HL2L := Aside0.mk (Kd.C_below HL2L.out hb)
            have n_HK11 := Aside0.mk (blk_below HK11.out hb)
            have n_HL3 := Aside0.mk (Kd.C_below HL3.out hb)
            have n_HTN := Aside0.mk (Kd.C_below HTN.out hb)
            have n_HT4 := Aside0.mk (Kd.R_below HT4.out hb)
            have n_HM4 := Aside0.mk (Kd.R_below HM4.out hb)
            have n_HK16 := Aside0.mk (blk_below HK16.out hb)
            have n_HT5 := Aside0.mk (Kd.R_below HT5.out hb)
            have n_HM5 := Aside0.mk (Kd.R_below HM5.out hb)
            have n_HK20 := Aside0.mk (blk_below HK20.out hb)
            clear HB HA HD HE HF HK2 HK3 HL1 HL2L HK11 HL3 HTN HT4 HM4 HK16 HT5 HM5 HK20
            have HB := n_HB
            have HA := n_HA
            have HD := n_HD
            have HE := n_HE
            have HF := n_HF
            have HK2 := n_HK2
            have HK3 := n_HK3
            have HL1 := n_HL1
            have HL2L := n_HL2L
            have HK11 := n_HK11
            have HL3 := n_HL3
            have HTN := n_HTN
            have HT4 := n_HT4
            have HM4 := n_HM4
            have HK16 := n_HK16
            have HT5 := n_HT5
            have HM5 := n_HM5
            have HK20 := n_HK20
            clear n_HB n_HA n_HD n_HE n_HF n_HK2 n_HK3 n_HL1 n_HL2L n_HK11 n_HL3 n_HTN n_HT4 n_HM4 n_HK16 n_HT5 n_HM5 n_HK20
            clear hb HSQ
            go_wp2_with fail
            go_at_call 24
            refine (awake_calls V13).mono ?_
            rintro ex VA ⟨rfl, hb⟩
            have HBA := Aside0.mk (below_step HB.out hb)
            clear hb
            go_wp2
            go_ret
            exact ⟨rfl, HBA.out⟩
         ·
          skip
          have hgz : ((rget torn).2 == 0) = true := beq_iff_eq.mpr h0
          clear h0
          have HSQ := Aside0.mk hs1
          clear hs1
          have cx0 := blk_cell HK16.out 0; have fx0 := blk_frozen HK16.out 0; have cx1 := blk_cell HK16.out 1; have fx1 := blk_frozen HK16.out 1; have cx2 := blk_cell HK16.out 2; have fx2 := blk_frozen HK16.out 2; have cx3 := blk_cell HK16.out 3; have fx3 := blk_frozen HK16.out 3; have cx4 := blk_cell HK16.out 4; have fx4 := blk_frozen HK16.out 4; have cx5 := blk_cell HK16.out 5; have fx5 := blk_frozen HK16.out 5
          have cy0 := blk_cell HK2.out 0; have fy0 := blk_frozen HK2.out 0; have cy1 := blk_cell HK2.out 1; have fy1 := blk_frozen HK2.out 1; have cy2 := blk_cell HK2.out 2; have fy2 := blk_frozen HK2.out 2; have cy3 := blk_cell HK2.out 3; have fy3 := blk_frozen HK2.out 3; have cy4 := blk_cell HK2.out 4; have fy4 := blk_frozen HK2.out 4; have cy5 := blk_cell HK2.out 5; have fy5 := blk_frozen HK2.out 5
          go_wp2_with fail
          go_at_call 29
          clear cx0 fx0 cx1 fx1 cx2 fx2 cx3 fx3 cx4 fx4 cx5 fx5 cy0 fy0 cy1 fy1 cy2 fy2 cy3 fy3 cy4 fy4 cy5 fy5
          have hs := intarsiaref05_Same.calls 1001 ((rget torn).1).ep ((rget torn).1).bl ((rget torn).1).nx ((rget torn).1).st T4 cT4 ((rget torn).1).tb M4 cM4 ((rget torn).1).mp (r).ep (r).bl (r).nx (r).st A c (r).tb B d (r).mp true V5 (Kd.R_reads' HT4.out).2.2 (Kd.R_reads' HT4.out).2.1 (Kd.R_reads' HM4.out).2.2 (Kd.R_reads' HM4.out).2.1 HA.out HCA.out HD.out HCD.out (by have := rSame_is ((rget torn).1) (r) (Nat.le_trans (rget_len torn).1 (by decide)) (Nat.le_trans (rget_len torn).2 (by decide)); rw [HSQ.out] at this; exact this)
          refine hs.mono ?_
          clear hs
          rintro ex V6 ⟨rfl, hb⟩
          have n_HB := Aside0.mk (below_step HB.out hb)
          have n_HA := Aside0.mk (Kd.C_below HA.out hb)
          have n_HD := Aside0.mk (Kd.C_below HD.out hb)
          have n_HE := Aside0.mk (Kd.C_below HE.out hb)
          have n_HF := Aside0.mk (Kd.C_below HF.out hb)
          have n_HK2 := Aside0.mk (blk_below HK2.out hb)
          have n_HK3 := Aside0.mk (blk_below HK3.out hb)
          have n_HL1 := Aside0.mk (Kd.C_below HL1.out hb)
          have n_HL2L := Aside0.mk (Kd.C_below HL2L.out hb)
          have n_HK11 := Aside0.mk (blk_below HK11.out hb)
          have n_HL3 := Aside0.mk (Kd.C_below HL3.out hb)
          have n_HTN := Aside0.mk (Kd.C_below HTN.out hb)
          have n_HT4 := Aside0.mk (Kd.R_below HT4.out hb)
          have n_HM4 := Aside0.mk (Kd.R_below HM4.out hb)
          have n_HK16 := Aside0.mk (blk_below HK16.out hb)
          clear HB HA HD HE HF HK2 HK3 HL1 HL2L HK11 HL3 HTN HT4 HM4 HK16
          have HB := n_HB
          have HA := n_HA
          have HD := n_HD
          have HE := n_HE
          have HF := n_HF
          have HK2 := n_HK2
          have HK3 := n_HK3
          have HL1 := n_HL1
          have HL2L := n_HL2L
          have HK11 := n_HK11
          have HL3 := n_HL3
          have HTN := n_HTN
          have HT4 := n_HT4
          have HM4 := n_HM4
          have HK16 := n_HK16
          clear n_HB n_HA n_HD n_HE n_HF n_HK2 n_HK3 n_HL1 n_HL2L n_HK11 n_HL3 n_HTN n_HT4 n_HM4 n_HK16
          clear hb HSQ
          clear hgz
          go_upto_region 18 with fail
          by_cases he : r.ep % 2 = 1
          ·
           skip
           have HPAR := Aside0.mk he
           clear he
           have htm : Int.tmod r.ep 2 = r.ep % 2 := Int.tmod_eq_emod_of_nonneg HEP.out
           have hwm := torn_wm r.ep
           have hee := HPAR.out
           have p1 : (r.ep % 2 == 1) = true := by rw [hee]; rfl
           clear hee
           have cx0 := blk_cell HK2.out 0; have fx0 := blk_frozen HK2.out 0; have cx1 := blk_cell HK2.out 1; have fx1 := blk_frozen HK2.out 1; have cx2 := blk_cell HK2.out 2; have fx2 := blk_frozen HK2.out 2; have cx3 := blk_cell HK2.out 3; have fx3 := blk_frozen HK2.out 3; have cx4 := blk_cell HK2.out 4; have fx4 := blk_frozen HK2.out 4; have cx5 := blk_cell HK2.out 5; have fx5 := blk_frozen HK2.out 5
           go_wp2_with fail
           go_at_call 32
           clear cx0 fx0 cx1 fx1 cx2 fx2 cx3 fx3 cx4 fx4 cx5 fx5
           have hg := root_Choose L3 cL3 (rput (midr r)).1 T cT torn V6 HL3.out HCL3.out (rput_byte _) HTN.out HTC.out HTY.out
           obtain ⟨y, n, hch, hy⟩ := HPU.out.2.2 HPAR.out
           rw [hch] at hg
           refine hg.mono ?_
           clear hg hch
           rintro ex V10 ⟨v, rfl, hv, hb⟩
           obtain ⟨vT, vM, rfl, hT, hM⟩ := hv
           obtain ⟨T5, cT5, rfl⟩ := Kd.R_slice hT
           obtain ⟨M5, cM5, rfl⟩ := Kd.R_slice hM
           have n_HB := Aside0.mk (below_step HB.out hb)
           have n_HA := Aside0.mk (Kd.C_below HA.out hb)
           have n_HD := Aside0.mk (Kd.C_below HD.out hb)
           have n_HE := Aside0.mk (Kd.C_below HE.out hb)
           have n_HF := Aside0.mk (Kd.C_below HF.out hb)
           have n_HK2 := Aside0.mk (blk_below HK2.out hb)
           have n_HK3 := Aside0.mk (blk_below HK3.out hb)
           have n_HL1 := Aside0.mk (Kd.C_below HL1.out hb)
           have n_HL2L := Aside0.mk (Kd.C_below HL2L.out hb)
           have n_HK11 := Aside0.mk (blk_below HK11.out hb)
           have n_HL3 := Aside0.mk (Kd.C_below HL3.out hb)
           have n_HTN := Aside0.mk (Kd.C_below HTN.out hb)
           have n_HT4 := Aside0.mk (Kd.R_below HT4.out hb)
           have n_HM4 := Aside0.mk (Kd.R_below HM4.out hb)
           have n_HK16 := Aside0.mk (blk_below HK16.out hb)
           clear HB HA HD HE HF HK2 HK3 HL1 HL2L HK11 HL3 HTN HT4 HM4 HK16
           have HB := n_HB
           have HA := n_HA
           have HD := n_HD
           have HE := n_HE
           have HF := n_HF
           have HK2 := n_HK2
           have HK3 := n_HK3
           have HL1 := n_HL1
           have HL2L := n_HL2L
           have HK11 := n_HK11
           have HL3 := n_HL3
           have HTN := n_HTN
           have HT4 := n_HT4
           have HM4 := n_HM4
           have HK16 := n_HK16
           clear n_HB n_HA n_HD n_HE n_HF n_HK2 n_HK3 n_HL1 n_HL2L n_HK11 n_HL3 n_HTN n_HT4 n_HM4 n_HK16
           have HT5 := Aside0.mk (hT)
           have HM5 := Aside0.mk (hM)
           clear hT hM hb
           go_upto_region 22 with fail
           obtain ⟨g20, hg20⟩ : ∃ g, g = V10.heap.size := ⟨_, rfl⟩
           have hW := below_alloc (Below.refl V10.heap.size V10) (Obj.cells #[Value.int IntKind.i64 (y).ep, Value.int IntKind.i64 (y).bl, Value.int IntKind.i64 (y).nx, Value.int IntKind.i64 (y).st, Value.slice T5 (y).tb.length cT5, Value.slice M5 (y).mp.length cM5] 55)
           have hN := blk_new V10 (Obj.cells #[Value.int IntKind.i64 (y).ep, Value.int IntKind.i64 (y).bl, Value.int IntKind.i64 (y).nx, Value.int IntKind.i64 (y).st, Value.slice T5 (y).tb.length cT5, Value.slice M5 (y).mp.length cM5] 55)
           rw [← hg20] at hN ⊢
           generalize V10.alloc (Obj.cells #[Value.int IntKind.i64 (y).ep, Value.int IntKind.i64 (y).bl, Value.int IntKind.i64 (y).nx, Value.int IntKind.i64 (y).st, Value.slice T5 (y).tb.length cT5, Value.slice M5 (y).mp.length cM5] 55) = V11 at hW hN ⊢
           have n_HB := Aside0.mk (below_step HB.out hW)
           have n_HA := Aside0.mk (Kd.C_below HA.out hW)
           have n_HD := Aside0.mk (Kd.C_below HD.out hW)
           have n_HE := Aside0.mk (Kd.C_below HE.out hW)
           have n_HF := Aside0.mk (Kd.C_below HF.out hW)
           have n_HK2 := Aside0.mk (blk_below HK2.out hW)
           have n_HK3 := Aside0.mk (blk_below HK3.out hW)
           have n_HL1 := Aside0.mk (Kd.C_below HL1.out hW)
           have n_HL2L := Aside0.mk (Kd.C_below HL2L.out hW)
           have n_HK11 := Aside0.mk (blk_below HK11.out hW)
           have n_HL3 := Aside0.mk (Kd.C_below HL3.out hW)
           have n_HTN := Aside0.mk (Kd.C_below HTN.out hW)
           have n_HT4 := Aside0.mk (Kd.R_below HT4.out hW)
           have n_HM4 := Aside0.mk (Kd.R_below HM4.out hW)
           have n_HK16 := Aside0.mk (blk_below HK16.out hW)
           have n_HT5 := Aside0.mk (Kd.R_below HT5.out hW)
           have n_HM5 := Aside0.mk (Kd.R_below HM5.out hW)
           clear HB HA HD HE HF HK2 HK3 HL1 HL2L HK11 HL3 HTN HT4 HM4 HK16 HT5 HM5
           have HB := n_HB
           have HA := n_HA
           have HD := n_HD
           have HE := n_HE
           have HF := n_HF
           have HK2 := n_HK2
           have HK3 := n_HK3
           have HL1 := n_HL1
           have HL2L := n_HL2L
           have HK11 := n_HK11
           have HL3 := n_HL3
           have HTN := n_HTN
           have HT4 := n_HT4
           have HM4 := n_HM4
           have HK16 := n_HK16
           have HT5 := n_HT5
           have HM5 := n_HM5
           clear n_HB n_HA n_HD n_HE n_HF n_HK2 n_HK3 n_HL1 n_HL2L n_HK11 n_HL3 n_HTN n_HT4 n_HM4 n_HK16 n_HT5 n_HM5
           have HK20 := Aside0.mk (hN)
           have Eg20 := Aside0.mk hg20
           clear hW hN hg20
           clear htm hwm p1
           rcases hy with rfl | rfl
           ·
            skip
            have HSQ := Aside0.mk (rsame_self y)
            have cx0 := blk_cell HK20.out 0; have fx0 := blk_frozen HK20.out 0; have cx1 := blk_cell HK20.out 1; have fx1 := blk_frozen HK20.out 1; have cx2 := blk_cell HK20.out 2; have fx2 := blk_frozen HK20.out 2; have cx3 := blk_cell HK20.out 3; have fx3 := blk_frozen HK20.out 3; have cx4 := blk_cell HK20.out 4; have fx4 := blk_frozen HK20.out 4; have cx5 := blk_cell HK20.out 5; have fx5 := blk_frozen HK20.out 5
            have cy0 := blk_cell HK2.out 0; have fy0 := blk_frozen HK2.out 0; have cy1 := blk_cell HK2.out 1; have fy1 := blk_frozen HK2.out 1; have cy2 := blk_cell HK2.out 2; have fy2 := blk_frozen HK2.out 2; have cy3 := blk_cell HK2.out 3; have fy3 := blk_frozen HK2.out 3; have cy4 := blk_cell HK2.out 4; have fy4 := blk_frozen HK2.out 4; have cy5 := blk_cell HK2.out 5; have fy5 := blk_frozen HK2.out 5
            go_wp2_with fail
            go_at_call 29
            clear cx0 fx0 cx1 fx1 cx2 fx2 cx3 fx3 cx4 fx4 cx5 fx5 cy0 fy0 cy1 fy1 cy2 fy2 cy3 fy3 cy4 fy4 cy5 fy5
            have hs := intarsiaref05_Same.calls 1001 (y).ep (y).bl (y).nx (y).st T5 cT5 (y).tb M5 cM5 (y).mp (y).ep (y).bl (y).nx (y).st A c (y).tb B d (y).mp true V11 (Kd.R_reads' HT5.out).2.2 (Kd.R_reads' HT5.out).2.1 (Kd.R_reads' HM5.out).2.2 (Kd.R_reads' HM5.out).2.1 HA.out HCA.out HD.out HCD.out (by have := rSame_is (y) (y) (Nat.le_trans HL.out.1 (by decide)) (Nat.le_trans HL.out.2 (by decide)); rw [HSQ.out] at this; exact this)
            refine hs.mono ?_
            clear hs
            rintro ex V12 ⟨rfl, hb⟩
            have n_HB := Aside0.mk (below_step HB.out hb)
            have n_HA := Aside0.mk (Kd.C_below HA.out hb)
            have n_HD := Aside0.mk (Kd.C_below HD.out hb)
            have n_HE := Aside0.mk (Kd.C_below HE.out hb)
            have n_HF := Aside0.mk (Kd.C_below HF.out hb)
            have n_HK2 := Aside0.mk (blk_below HK2.out hb)
            have n_HK3 := Aside0.mk (blk_below HK3.out hb)
            have n_HL1 := Aside0.mk (Kd.C_below HL1.out hb)
            have n_HL2L := Aside0.mk (Kd.C_below HL2L.out hb)
            have n_HK11 := Aside0.mk (blk_below HK11.out hb)
            have n_HL3 := Aside0.mk (Kd.C_below HL3.out hb)
            have n_HTN := Aside0.mk (Kd.C_below HTN.out hb)
            have n_HT4 := Aside0.mk (Kd.R_below HT4.out hb)
            have n_HM4 := Aside0.mk (Kd.R_below HM4.out hb)
            have n_HK16 := Aside0.mk (blk_below HK16.out hb)
            have n_HT5 := Aside0.mk (Kd.R_below HT5.out hb)
            have n_HM5 := Aside0.mk (Kd.R_below HM5.out hb)
            have n_HK20 := Aside0.mk (blk_below HK20.out hb)
            clear HB HA HD HE HF HK2 HK3 HL1 HL2L HK11 HL3 HTN HT4 HM4 HK16 HT5 HM5 HK20
            have HB := n_HB
            have HA := n_HA
            have HD := n_HD
            have HE := n_HE
            have HF := n_HF
            have HK2 := n_HK2
            have HK3 := n_HK3
            have HL1 := n_HL1
            have HL2L := n_HL2L
            have HK11 := n_HK11
            have HL3 := n_HL3
            have HTN := n_HTN
            have HT4 := n_HT4
            have HM4 := n_HM4
            have HK16 := n_HK16
            have HT5 := n_HT5
            have HM5 := n_HM5
            have HK20 := n_HK20
            clear n_HB n_HA n_HD n_HE n_HF n_HK2 n_HK3 n_HL1 n_HL2L n_HK11 n_HL3 n_HTN n_HT4 n_HM4 n_HK16 n_HT5 n_HM5 n_HK20
            clear hb HSQ
            go_wp2_with fail
            go_at_call 24
            refine (awake_calls V12).mono ?_
            rintro ex VA ⟨rfl, hb⟩
            have HBA := Aside0.mk (below_step HB.out hb)
            clear hb
            go_wp2
            go_ret
            exact ⟨rfl, HBA.out⟩
           ·
            skip
            have HSQ := Aside0.mk (mid_not r)
            have cx0 := blk_cell HK20.out 0; have fx0 := blk_frozen HK20.out 0; have cx1 := blk_cell HK20.out 1; have fx1 := blk_frozen HK20.out 1; have cx2 := blk_cell HK20.out 2; have fx2 := blk_frozen HK20.out 2; have cx3 := blk_cell HK20.out 3; have fx3 := blk_frozen HK20.out 3; have cx4 := blk_cell HK20.out 4; have fx4 := blk_frozen HK20.out 4; have cx5 := blk_cell HK20.out 5; have fx5 := blk_frozen HK20.out 5
            have cy0 := blk_cell HK2.out 0; have fy0 := blk_frozen HK2.out 0; have cy1 := blk_cell HK2.out 1; have fy1 := blk_frozen HK2.out 1; have cy2 := blk_cell HK2.out 2; have fy2 := blk_frozen HK2.out 2; have cy3 := blk_cell HK2.out 3; have fy3 := blk_frozen HK2.out 3; have cy4 := blk_cell HK2.out 4; have fy4 := blk_frozen HK2.out 4; have cy5 := blk_cell HK2.out 5; have fy5 := blk_frozen HK2.out 5
            go_wp2_with fail
            go_at_call 29
            clear cx0 fx0 cx1 fx1 cx2 fx2 cx3 fx3 cx4 fx4 cx5 fx5 cy0 fy0 cy1 fy1 cy2 fy2 cy3 fy3 cy4 fy4 cy5 fy5
            have hs := intarsiaref05_Same.calls 1001 (midr r).ep (midr r).bl (midr r).nx (midr r).st T5 cT5 (midr r).tb M5 cM5 (midr r).mp (r).ep (r).bl (r).nx (r).st A c (r).tb B d (r).mp false V11 (Kd.R_reads' HT5.out).2.2 (Kd.R_reads' HT5.out).2.1 (Kd.R_reads' HM5.out).2.2 (Kd.R_reads' HM5.out).2.1 HA.out HCA.out HD.out HCD.out (by have := rSame_is (midr r) (r) (Nat.le_trans HL.out.1 (by decide)) (Nat.le_trans HL.out.2 (by decide)); rw [HSQ.out] at this; exact this)
            refine hs.mono ?_
            clear hs
            rintro ex V12 ⟨rfl, hb⟩
            have n_HB := Aside0.mk (below_step HB.out hb)
            have n_HA := Aside0.mk (Kd.C_below HA.out hb)
            have n_HD := Aside0.mk (Kd.C_below HD.out hb)
            have n_HE := Aside0.mk (Kd.C_below HE.out hb)
            have n_HF := Aside0.mk (Kd.C_below HF.out hb)
            have n_HK2 := Aside0.mk (blk_below HK2.out hb)
            have n_HK3 := Aside0.mk (blk_below HK3.out hb)
            have n_HL1 := Aside0.mk (Kd.C_below HL1.out hb)
            have n_HL2L := Aside0.mk (Kd.C_below HL2L.out hb)
            have n_HK11 := Aside0.mk (blk_below HK11.out hb)
            have n_HL3 := Aside0.mk (Kd.C_below HL3.out hb)
            have n_HTN := Aside0.mk (Kd.C_below HTN.out hb)
            have n_HT4 := Aside0.mk (Kd.R_below HT4.out hb)
            have n_HM4 := Aside0.mk (Kd.R_below HM4.out hb)
            have n_HK16 := Aside0.mk (blk_below HK16.out hb)
            have n_HT5 := Aside0.mk (Kd.R_below HT5.out hb)
            have n_HM5 := Aside0.mk (Kd.R_below HM5.out hb)
            have n_HK20 := Aside0.mk (blk_below HK20.out hb)
            clear HB HA HD HE HF HK2 HK3 HL1 HL2L HK11 HL3 HTN HT4 HM4 HK16 HT5 HM5 HK20
            have HB := n_HB
            have HA := n_HA
            have HD := n_HD
            have HE := n_HE
            have HF := n_HF
            have HK2 := n_HK2
            have HK3 := n_HK3
            have HL1 := n_HL1
            have HL2L := n_HL2L
            have HK11 := n_HK11
            have HL3 := n_HL3
            have HTN := n_HTN
            have HT4 := n_HT4
            have HM4 := n_HM4
            have HK16 := n_HK16
            have HT5 := n_HT5
            have HM5 := n_HM5
            have HK20 := n_HK20
            clear n_HB n_HA n_HD n_HE n_HF n_HK2 n_HK3 n_HL1 n_HL2L n_HK11 n_HL3 n_HTN n_HT4 n_HM4 n_HK16 n_HT5 n_HM5 n_HK20
            clear hb HSQ
            have cx0 := blk_cell HK20.out 0; have fx0 := blk_frozen HK20.out 0; have cx1 := blk_cell HK20.out 1; have fx1 := blk_frozen HK20.out 1; have cx2 := blk_cell HK20.out 2; have fx2 := blk_frozen HK20.out 2; have cx3 := blk_cell HK20.out 3; have fx3 := blk_frozen HK20.out 3; have cx4 := blk_cell HK20.out 4; have fx4 := blk_frozen HK20.out 4; have cx5 := blk_cell HK20.out 5; have fx5 := blk_frozen HK20.out 5
            have cy0 := blk_cell HK11.out 0; have fy0 := blk_frozen HK11.out 0; have cy1 := blk_cell HK11.out 1; have fy1 := blk_frozen HK11.out 1; have cy2 := blk_cell HK11.out 2; have fy2 := blk_frozen HK11.out 2; have cy3 := blk_cell HK11.out 3; have fy3 := blk_frozen HK11.out 3; have cy4 := blk_cell HK11.out 4; have fy4 := blk_frozen HK11.out 4; have cy5 := blk_cell HK11.out 5; have fy5 := blk_frozen HK11.out 5
            have HSQ := Aside0.mk (rsame_self (midr r))
            go_wp2_with fail
            go_at_call 29
            clear cx0 fx0 cx1 fx1 cx2 fx2 cx3 fx3 cx4 fx4 cx5 fx5 cy0 fy0 cy1 fy1 cy2 fy2 cy3 fy3 cy4 fy4 cy5 fy5
            have hs := intarsiaref05_Same.calls 1001 (midr r).ep (midr r).bl (midr r).nx (midr r).st T5 cT5 (midr r).tb M5 cM5 (midr r).mp (midr r).ep (midr r).bl (midr r).nx (midr r).st A c (midr r).tb B d (midr r).mp true V12 (Kd.R_reads' HT5.out).2.2 (Kd.R_reads' HT5.out).2.1 (Kd.R_reads' HM5.out).2.2 (Kd.R_reads' HM5.out).2.1 HA.out HCA.out HD.out HCD.out (by have := rSame_is (midr r) (midr r) (Nat.le_trans HL.out.1 (by decide)) (Nat.le_trans HL.out.2 (by decide)); rw [HSQ.out] at this; exact this)
            refine hs.mono ?_
            clear hs
            rintro ex V13 ⟨rfl, hb⟩
            have n_HB := Aside0.mk (below_step HB.out hb)
            have n_HA := Aside0.mk (Kd.C_below HA.out hb)
            have n_HD := Aside0.mk (Kd.C_below HD.out hb)
            have n_HE := Aside0.mk (Kd.C_below HE.out hb)
            have n_HF := Aside0.mk (Kd.C_below HF.out hb)
            have n_HK2 := Aside0.mk (blk_below HK2.out hb)
            have n_HK3 := Aside0.mk (blk_below HK3.out hb)
            have n_HL1 := Aside0.mk (Kd.C_below HL1.out hb)
            have n_HL2L := Aside0.mk (Kd.C_below HL2L.out hb)
            have n_HK11 := Aside0.mk (blk_below HK11.out hb)
            have n_HL3 := Aside0.mk (Kd.C_below HL3.out hb)
            have n_HTN := Aside0.mk (Kd.C_below HTN.out hb)
            have n_HT4 := Aside0.mk (Kd.R_below HT4.out hb)
            have n_HM4 := Aside0.mk (Kd.R_below HM4.out hb)
            have n_HK16 := Aside0.mk (blk_below HK16.out hb)
            have n_HT5 := Aside0.mk (Kd.R_below HT5.out hb)
            have n_HM5 := Aside0.mk (Kd.R_below HM5.out hb)
            have n_HK20 := Aside0.mk (blk_below HK20.out hb)
            clear HB HA HD HE HF HK2 HK3 HL1 HL2L HK11 HL3 HTN HT4 HM4 HK16 HT5 HM5 HK20
            have HB := n_HB
            have HA := n_HA
            have HD := n_HD
            have HE := n_HE
            have HF := n_HF
            have HK2 := n_HK2
            have HK3 := n_HK3
            have HL1 := n_HL1
            have HL2L := n_HL2L
            have HK11 := n_HK11
            have HL3 := n_HL3
            have HTN := n_HTN
            have HT4 := n_HT4
            have HM4 := n_HM4
            have HK16 := n_HK16
            have HT5 := n_HT5
            have HM5 := n_HM5
            have HK20 := n_HK20
            clear n_HB n_HA n_HD n_HE n_HF n_HK2 n_HK3 n_HL1 n_HL2L n_HK11 n_HL3 n_HTN n_HT4 n_HM4 n_HK16 n_HT5 n_HM5 n_HK20
            clear hb HSQ
            go_wp2_with fail
            go_at_call 24
            refine (awake_calls V13).mono ?_
            rintro ex VA ⟨rfl, hb⟩
            have HBA := Aside0.mk (below_step HB.out hb)
            clear hb
            go_wp2
            go_ret
            exact ⟨rfl, HBA.out⟩
          ·
           skip
           have HPAR := Aside0.mk (show r.ep % 2 = 0 by omega)
           clear he
           have htm : Int.tmod r.ep 2 = r.ep % 2 := Int.tmod_eq_emod_of_nonneg HEP.out
           have hwm := torn_wm r.ep
           have hee := HPAR.out
           have p1 : (r.ep % 2 == 1) = false := by rw [hee]; rfl
           clear hee
           have cx0 := blk_cell HK2.out 0; have fx0 := blk_frozen HK2.out 0; have cx1 := blk_cell HK2.out 1; have fx1 := blk_frozen HK2.out 1; have cx2 := blk_cell HK2.out 2; have fx2 := blk_frozen HK2.out 2; have cx3 := blk_cell HK2.out 3; have fx3 := blk_frozen HK2.out 3; have cx4 := blk_cell HK2.out 4; have fx4 := blk_frozen HK2.out 4; have cx5 := blk_cell HK2.out 5; have fx5 := blk_frozen HK2.out 5
           go_wp2_with fail
           go_at_call 32
           clear cx0 fx0 cx1 fx1 cx2 fx2 cx3 fx3 cx4 fx4 cx5 fx5
           have hg := root_Choose T cT torn L3 cL3 (rput (midr r)).1 V6 HTN.out HTC.out HTY.out HL3.out HCL3.out (rput_byte _)
           obtain ⟨y, n, hch, hy⟩ := HPU.out.2.1 HPAR.out
           rw [hch] at hg
           refine hg.mono ?_
           clear hg hch
           rintro ex V10 ⟨v, rfl, hv, hb⟩
           obtain ⟨vT, vM, rfl, hT, hM⟩ := hv
           obtain ⟨T5, cT5, rfl⟩ := Kd.R_slice hT
           obtain ⟨M5, cM5, rfl⟩ := Kd.R_slice hM
           have n_HB := Aside0.mk (below_step HB.out hb)
           have n_HA := Aside0.mk (Kd.C_below HA.out hb)
           have n_HD := Aside0.mk (Kd.C_below HD.out hb)
           have n_HE := Aside0.mk (Kd.C_below HE.out hb)
           have n_HF := Aside0.mk (Kd.C_below HF.out hb)
           have n_HK2 := Aside0.mk (blk_below HK2.out hb)
           have n_HK3 := Aside0.mk (blk_below HK3.out hb)
           have n_HL1 := Aside0.mk (Kd.C_below HL1.out hb)
           have n_HL2L := Aside0.mk (Kd.C_below HL2L.out hb)
           have n_HK11 := Aside0.mk (blk_below HK11.out hb)
           have n_HL3 := Aside0.mk (Kd.C_below HL3.out hb)
           have n_HTN := Aside0.mk (Kd.C_below HTN.out hb)
           have n_HT4 := Aside0.mk (Kd.R_below HT4.out hb)
           have n_HM4 := Aside0.mk (Kd.R_below HM4.out hb)
           have n_HK16 := Aside0.mk (blk_below HK16.out hb)
           clear HB HA HD HE HF HK2 HK3 HL1 HL2L HK11 HL3 HTN HT4 HM4 HK16
           have HB := n_HB
           have HA := n_HA
           have HD := n_HD
           have HE := n_HE
           have HF := n_HF
           have HK2 := n_HK2
           have HK3 := n_HK3
           have HL1 := n_HL1
           have HL2L := n_HL2L
           have HK11 := n_HK11
           have HL3 := n_HL3
           have HTN := n_HTN
           have HT4 := n_HT4
           have HM4 := n_HM4
           have HK16 := n_HK16
           clear n_HB n_HA n_HD n_HE n_HF n_HK2 n_HK3 n_HL1 n_HL2L n_HK11 n_HL3 n_HTN n_HT4 n_HM4 n_HK16
           have HT5 := Aside0.mk (hT)
           have HM5 := Aside0.mk (hM)
           clear hT hM hb
           go_upto_region 22 with fail
           obtain ⟨g20, hg20⟩ : ∃ g, g = V10.heap.size := ⟨_, rfl⟩
           have hW := below_alloc (Below.refl V10.heap.size V10) (Obj.cells #[Value.int IntKind.i64 (y).ep, Value.int IntKind.i64 (y).bl, Value.int IntKind.i64 (y).nx, Value.int IntKind.i64 (y).st, Value.slice T5 (y).tb.length cT5, Value.slice M5 (y).mp.length cM5] 55)
           have hN := blk_new V10 (Obj.cells #[Value.int IntKind.i64 (y).ep, Value.int IntKind.i64 (y).bl, Value.int IntKind.i64 (y).nx, Value.int IntKind.i64 (y).st, Value.slice T5 (y).tb.length cT5, Value.slice M5 (y).mp.length cM5] 55)
           rw [← hg20] at hN ⊢
           generalize V10.alloc (Obj.cells #[Value.int IntKind.i64 (y).ep, Value.int IntKind.i64 (y).bl, Value.int IntKind.i64 (y).nx, Value.int IntKind.i64 (y).st, Value.slice T5 (y).tb.length cT5, Value.slice M5 (y).mp.length cM5] 55) = V11 at hW hN ⊢
           have n_HB := Aside0.mk (below_step HB.out hW)
           have n_HA := Aside0.mk (Kd.C_below HA.out hW)
           have n_HD := Aside0.mk (Kd.C_below HD.out hW)
           have n_HE := Aside0.mk (Kd.C_below HE.out hW)
           have n_HF := Aside0.mk (Kd.C_below HF.out hW)
           have n_HK2 := Aside0.mk (blk_below HK2.out hW)
           have n_HK3 := Aside0.mk (blk_below HK3.out hW)
           have n_HL1 := Aside0.mk (Kd.C_below HL1.out hW)
           have n_HL2L := Aside0.mk (Kd.C_below HL2L.out hW)
           have n_HK11 := Aside0.mk (blk_below HK11.out hW)
           have n_HL3 := Aside0.mk (Kd.C_below HL3.out hW)
           have n_HTN := Aside0.mk (Kd.C_below HTN.out hW)
           have n_HT4 := Aside0.mk (Kd.R_below HT4.out hW)
           have n_HM4 := Aside0.mk (Kd.R_below HM4.out hW)
           have n_HK16 := Aside0.mk (blk_below HK16.out hW)
           have n_HT5 := Aside0.mk (Kd.R_below HT5.out hW)
           have n_HM5 := Aside0.mk (Kd.R_below HM5.out hW)
           clear HB HA HD HE HF HK2 HK3 HL1 HL2L HK11 HL3 HTN HT4 HM4 HK16 HT5 HM5
           have HB := n_HB
           have HA := n_HA
           have HD := n_HD
           have HE := n_HE
           have HF := n_HF
           have HK2 := n_HK2
           have HK3 := n_HK3
           have HL1 := n_HL1
           have HL2L := n_HL2L
           have HK11 := n_HK11
           have HL3 := n_HL3
           have HTN := n_HTN
           have HT4 := n_HT4
           have HM4 := n_HM4
           have HK16 := n_HK16
           have HT5 := n_HT5
           have HM5 := n_HM5
           clear n_HB n_HA n_HD n_HE n_HF n_HK2 n_HK3 n_HL1 n_HL2L n_HK11 n_HL3 n_HTN n_HT4 n_HM4 n_HK16 n_HT5 n_HM5
           have HK20 := Aside0.mk (hN)
           have Eg20 := Aside0.mk hg20
           clear hW hN hg20
           clear htm hwm p1
           rcases hy with rfl | rfl
           ·
            skip
            have HSQ := Aside0.mk (rsame_self y)
            have cx0 := blk_cell HK20.out 0; have fx0 := blk_frozen HK20.out 0; have cx1 := blk_cell HK20.out 1; have fx1 := blk_frozen HK20.out 1; have cx2 := blk_cell HK20.out 2; have fx2 := blk_frozen HK20.out 2; have cx3 := blk_cell HK20.out 3; have fx3 := blk_frozen HK20.out 3; have cx4 := blk_cell HK20.out 4; have fx4 := blk_frozen HK20.out 4; have cx5 := blk_cell HK20.out 5; have fx5 := blk_frozen HK20.out 5
            have cy0 := blk_cell HK2.out 0; have fy0 := blk_frozen HK2.out 0; have cy1 := blk_cell HK2.out 1; have fy1 := blk_frozen HK2.out 1; have cy2 := blk_cell HK2.out 2; have fy2 := blk_frozen HK2.out 2; have cy3 := blk_cell HK2.out 3; have fy3 := blk_frozen HK2.out 3; have cy4 := blk_cell HK2.out 4; have fy4 := blk_frozen HK2.out 4; have cy5 := blk_cell HK2.out 5; have fy5 := blk_frozen HK2.out 5
            go_wp2_with fail
            go_at_call 29
            clear cx0 fx0 cx1 fx1 cx2 fx2 cx3 fx3 cx4 fx4 cx5 fx5 cy0 fy0 cy1 fy1 cy2 fy2 cy3 fy3 cy4 fy4 cy5 fy5
            have hs := intarsiaref05_Same.calls 1001 (y).ep (y).bl (y).nx (y).st T5 cT5 (y).tb M5 cM5 (y).mp (y).ep (y).bl (y).nx (y).st A c (y).tb B d (y).mp true V11 (Kd.R_reads' HT5.out).2.2 (Kd.R_reads' HT5.out).2.1 (Kd.R_reads' HM5.out).2.2 (Kd.R_reads' HM5.out).2.1 HA.out HCA.out HD.out HCD.out (by have := rSame_is (y) (y) (Nat.le_trans HL.out.1 (by decide)) (Nat.le_trans HL.out.2 (by decide)); rw [HSQ.out] at this; exact this)
            refine hs.mono ?_
            clear hs
            rintro ex V12 ⟨rfl, hb⟩
            have n_HB := Aside0.mk (below_step HB.out hb)
            have n_HA := Aside0.mk (Kd.C_below HA.out hb)
            have n_HD := Aside0.mk (Kd.C_below HD.out hb)
            have n_HE := Aside0.mk (Kd.C_below HE.out hb)
            have n_HF := Aside0.mk (Kd.C_below HF.out hb)
            have n_HK2 := Aside0.mk (blk_below HK2.out hb)
            have n_HK3 := Aside0.mk (blk_below HK3.out hb)
            have n_HL1 := Aside0.mk (Kd.C_below HL1.out hb)
            have n_HL2L := Aside0.mk (Kd.C_below HL2L.out hb)
            have n_HK11 := Aside0.mk (blk_below HK11.out hb)
            have n_HL3 := Aside0.mk (Kd.C_below HL3.out hb)
            have n_HTN := Aside0.mk (Kd.C_below HTN.out hb)
            have n_HT4 := Aside0.mk (Kd.R_below HT4.out hb)
            have n_HM4 := Aside0.mk (Kd.R_below HM4.out hb)
            have n_HK16 := Aside0.mk (blk_below HK16.out hb)
            have n_HT5 := Aside0.mk (Kd.R_below HT5.out hb)
            have n_HM5 := Aside0.mk (Kd.R_below HM5.out hb)
            have n_HK20 := Aside0.mk (blk_below HK20.out hb)
            clear HB HA HD HE HF HK2 HK3 HL1 HL2L HK11 HL3 HTN HT4 HM4 HK16 HT5 HM5 HK20
            have HB := n_HB
            have HA := n_HA
            have HD := n_HD
            have HE := n_HE
            have HF := n_HF
            have HK2 := n_HK2
            have HK3 := n_HK3
            have HL1 := n_HL1
            have HL2L := n_HL2L
            have HK11 := n_HK11
            have HL3 := n_HL3
            have HTN := n_HTN
            have HT4 := n_HT4
            have HM4 := n_HM4
            have HK16 := n_HK16
            have HT5 := n_HT5
            have HM5 := n_HM5
            have HK20 := n_HK20
            clear n_HB n_HA n_HD n_HE n_HF n_HK2 n_HK3 n_HL1 n_HL2L n_HK11 n_HL3 n_HTN n_HT4 n_HM4 n_HK16 n_HT5 n_HM5 n_HK20
            clear hb HSQ
            go_wp2_with fail
            go_at_call 24
            refine (awake_calls V12).mono ?_
            rintro ex VA ⟨rfl, hb⟩
            have HBA := Aside0.mk (below_step HB.out hb)
            clear hb
            go_wp2
            go_ret
            exact ⟨rfl, HBA.out⟩
           ·
            skip
            have HSQ := Aside0.mk (mid_not r)
            have cx0 := blk_cell HK20.out 0; have fx0 := blk_frozen HK20.out 0; have cx1 := blk_cell HK20.out 1; have fx1 := blk_frozen HK20.out 1; have cx2 := blk_cell HK20.out 2; have fx2 := blk_frozen HK20.out 2; have cx3 := blk_cell HK20.out 3; have fx3 := blk_frozen HK20.out 3; have cx4 := blk_cell HK20.out 4; have fx4 := blk_frozen HK20.out 4; have cx5 := blk_cell HK20.out 5; have fx5 := blk_frozen HK20.out 5
            have cy0 := blk_cell HK2.out 0; have fy0 := blk_frozen HK2.out 0; have cy1 := blk_cell HK2.out 1; have fy1 := blk_frozen HK2.out 1; have cy2 := blk_cell HK2.out 2; have fy2 := blk_frozen HK2.out 2; have cy3 := blk_cell HK2.out 3; have fy3 := blk_frozen HK2.out 3; have cy4 := blk_cell HK2.out 4; have fy4 := blk_frozen HK2.out 4; have cy5 := blk_cell HK2.out 5; have fy5 := blk_frozen HK2.out 5
            go_wp2_with fail
            go_at_call 29
            clear cx0 fx0 cx1 fx1 cx2 fx2 cx3 fx3 cx4 fx4 cx5 fx5 cy0 fy0 cy1 fy1 cy2 fy2 cy3 fy3 cy4 fy4 cy5 fy5
            have hs := intarsiaref05_Same.calls 1001 (midr r).ep (midr r).bl (midr r).nx (midr r).st T5 cT5 (midr r).tb M5 cM5 (midr r).mp (r).ep (r).bl (r).nx (r).st A c (r).tb B d (r).mp false V11 (Kd.R_reads' HT5.out).2.2 (Kd.R_reads' HT5.out).2.1 (Kd.R_reads' HM5.out).2.2 (Kd.R_reads' HM5.out).2.1 HA.out HCA.out HD.out HCD.out (by have := rSame_is (midr r) (r) (Nat.le_trans HL.out.1 (by decide)) (Nat.le_trans HL.out.2 (by decide)); rw [HSQ.out] at this; exact this)
            refine hs.mono ?_
            clear hs
            rintro ex V12 ⟨rfl, hb⟩
            have n_HB := Aside0.mk (below_step HB.out hb)
            have n_HA := Aside0.mk (Kd.C_below HA.out hb)
            have n_HD := Aside0.mk (Kd.C_below HD.out hb)
            have n_HE := Aside0.mk (Kd.C_below HE.out hb)
            have n_HF := Aside0.mk (Kd.C_below HF.out hb)
            have n_HK2 := Aside0.mk (blk_below HK2.out hb)
            have n_HK3 := Aside0.mk (blk_below HK3.out hb)
            have n_HL1 := Aside0.mk (Kd.C_below HL1.out hb)
            have n_HL2L := Aside0.mk (Kd.C_below HL2L.out hb)
            have n_HK11 := Aside0.mk (blk_below HK11.out hb)
            have n_HL3 := Aside0.mk (Kd.C_below HL3.out hb)
            have n_HTN := Aside0.mk (Kd.C_below HTN.out hb)
            have n_HT4 := Aside0.mk (Kd.R_below HT4.out hb)
            have n_HM4 := Aside0.mk (Kd.R_below HM4.out hb)
            have n_HK16 := Aside0.mk (blk_below HK16.out hb)
            have n_HT5 := Aside0.mk (Kd.R_below HT5.out hb)
            have n_HM5 := Aside0.mk (Kd.R_below HM5.out hb)
            have n_HK20 := Aside0.mk (blk_below HK20.out hb)
            clear HB HA HD HE HF HK2 HK3 HL1 HL2L HK11 HL3 HTN HT4 HM4 HK16 HT5 HM5 HK20
            have HB := n_HB
            have HA := n_HA
            have HD := n_HD
            have HE := n_HE
            have HF := n_HF
            have HK2 := n_HK2
            have HK3 := n_HK3
            have HL1 := n_HL1
            have HL2L := n_HL2L
            have HK11 := n_HK11
            have HL3 := n_HL3
            have HTN := n_HTN
            have HT4 := n_HT4
            have HM4 := n_HM4
            have HK16 := n_HK16
            have HT5 := n_HT5
            have HM5 := n_HM5
            have HK20 := n_HK20
            clear n_HB n_HA n_HD n_HE n_HF n_HK2 n_HK3 n_HL1 n_HL2L n_HK11 n_HL3 n_HTN n_HT4 n_HM4 n_HK16 n_HT5 n_HM5 n_HK20
            clear hb HSQ
            have cx0 := blk_cell HK20.out 0; have fx0 := blk_frozen HK20.out 0; have cx1 := blk_cell HK20.out 1; have fx1 := blk_frozen HK20.out 1; have cx2 := blk_cell HK20.out 2; have fx2 := blk_frozen HK20.out 2; have cx3 := blk_cell HK20.out 3; have fx3 := blk_frozen HK20.out 3; have cx4 := blk_cell HK20.out 4; have fx4 := blk_frozen HK20.out 4; have cx5 := blk_cell HK20.out 5; have fx5 := blk_frozen HK20.out 5
            have cy0 := blk_cell HK11.out 0; have fy0 := blk_frozen HK11.out 0; have cy1 := blk_cell HK11.out 1; have fy1 := blk_frozen HK11.out 1; have cy2 := blk_cell HK11.out 2; have fy2 := blk_frozen HK11.out 2; have cy3 := blk_cell HK11.out 3; have fy3 := blk_frozen HK11.out 3; have cy4 := blk_cell HK11.out 4; have fy4 := blk_frozen HK11.out 4; have cy5 := blk_cell HK11.out 5; have fy5 := blk_frozen HK11.out 5
            have HSQ := Aside0.mk (rsame_self (midr r))
            go_wp2_with fail
            go_at_call 29
            clear cx0 fx0 cx1 fx1 cx2 fx2 cx3 fx3 cx4 fx4 cx5 fx5 cy0 fy0 cy1 fy1 cy2 fy2 cy3 fy3 cy4 fy4 cy5 fy5
            have hs := intarsiaref05_Same.calls 1001 (midr r).ep (midr r).bl (midr r).nx (midr r).st T5 cT5 (midr r).tb M5 cM5 (midr r).mp (midr r).ep (midr r).bl (midr r).nx (midr r).st A c (midr r).tb B d (midr r).mp true V12 (Kd.R_reads' HT5.out).2.2 (Kd.R_reads' HT5.out).2.1 (Kd.R_reads' HM5.out).2.2 (Kd.R_reads' HM5.out).2.1 HA.out HCA.out HD.out HCD.out (by have := rSame_is (midr r) (midr r) (Nat.le_trans HL.out.1 (by decide)) (Nat.le_trans HL.out.2 (by decide)); rw [HSQ.out] at this; exact this)
            refine hs.mono ?_
            clear hs
            rintro ex V13 ⟨rfl, hb⟩
            have n_HB := Aside0.mk (below_step HB.out hb)
            have n_HA := Aside0.mk (Kd.C_below HA.out hb)
            have n_HD := Aside0.mk (Kd.C_below HD.out hb)
            have n_HE := Aside0.mk (Kd.C_below HE.out hb)
            have n_HF := Aside0.mk (Kd.C_below HF.out hb)
            have n_HK2 := Aside0.mk (blk_below HK2.out hb)
            have n_HK3 := Aside0.mk (blk_below HK3.out hb)
            have n_HL1 := Aside0.mk (Kd.C_below HL1.out hb)
            have n_HL2L := Aside0.mk (Kd.C_below HL2L.out hb)
            have n_HK11 := Aside0.mk (blk_below HK11.out hb)
            have n_HL3 := Aside0.mk (Kd.C_below HL3.out hb)
            have n_HTN := Aside0.mk (Kd.C_below HTN.out hb)
            have n_HT4 := Aside0.mk (Kd.R_below HT4.out hb)
            have n_HM4 := Aside0.mk (Kd.R_below HM4.out hb)
            have n_HK16 := Aside0.mk (blk_below HK16.out hb)
            have n_HT5 := Aside0.mk (Kd.R_below HT5.out hb)
            have n_HM5 := Aside0.mk (Kd.R_below HM5.out hb)
            have n_HK20 := Aside0.mk (blk_below HK20.out hb)
            clear HB HA HD HE HF HK2 HK3 HL1 HL2L HK11 HL3 HTN HT4 HM4 HK16 HT5 HM5 HK20
            have HB := n_HB
            have HA := n_HA
            have HD := n_HD
            have HE := n_HE
            have HF := n_HF
            have HK2 := n_HK2
            have HK3 := n_HK3
            have HL1 := n_HL1
            have HL2L := n_HL2L
            have HK11 := n_HK11
            have HL3 := n_HL3
            have HTN := n_HTN
            have HT4 := n_HT4
            have HM4 := n_HM4
            have HK16 := n_HK16
            have HT5 := n_HT5
            have HM5 := n_HM5
            have HK20 := n_HK20
            clear n_HB n_HA n_HD n_HE n_HF n_HK2 n_HK3 n_HL1 n_HL2L n_HK11 n_HL3 n_HTN n_HT4 n_HM4 n_HK16 n_HT5 n_HM5 n_HK20
            clear hb HSQ
            go_wp2_with fail
            go_at_call 24
            refine (awake_calls V13).mono ?_
            rintro ex VA ⟨rfl, hb⟩
            have HBA := Aside0.mk (below_step HB.out hb)
            clear hb
            go_wp2
            go_ret
            exact ⟨rfl, HBA.out⟩
        ·
         skip
         have hgz : ((rget torn).2 == 0) = false := beq_eq_false_iff_ne.mpr h0
         clear h0
         go_upto_region 18 with fail
         clear hgz
         by_cases he : r.ep % 2 = 1
         ·
          skip
          have HPAR := Aside0.mk he
          clear he
          have htm : Int.tmod r.ep 2 = r.ep % 2 := Int.tmod_eq_emod_of_nonneg HEP.out
          have hwm := torn_wm r.ep
          have hee := HPAR.out
          have p1 : (r.ep % 2 == 1) = true := by rw [hee]; rfl
          clear hee
          have cx0 := blk_cell HK2.out 0; have fx0 := blk_frozen HK2.out 0; have cx1 := blk_cell HK2.out 1; have fx1 := blk_frozen HK2.out 1; have cx2 := blk_cell HK2.out 2; have fx2 := blk_frozen HK2.out 2; have cx3 := blk_cell HK2.out 3; have fx3 := blk_frozen HK2.out 3; have cx4 := blk_cell HK2.out 4; have fx4 := blk_frozen HK2.out 4; have cx5 := blk_cell HK2.out 5; have fx5 := blk_frozen HK2.out 5
          go_wp2_with fail
          go_at_call 32
          clear cx0 fx0 cx1 fx1 cx2 fx2 cx3 fx3 cx4 fx4 cx5 fx5
          have hg := root_Choose L3 cL3 (rput (midr r)).1 T cT torn V5 HL3.out HCL3.out (rput_byte _) HTN.out HTC.out HTY.out
          obtain ⟨y, n, hch, hy⟩ := HPU.out.2.2 HPAR.out
          rw [hch] at hg
          refine hg.mono ?_
          clear hg hch
          rintro ex V10 ⟨v, rfl, hv, hb⟩
          obtain ⟨vT, vM, rfl, hT, hM⟩ := hv
          obtain ⟨T5, cT5, rfl⟩ := Kd.R_slice hT
          obtain ⟨M5, cM5, rfl⟩ := Kd.R_slice hM
          have n_HB := Aside0.mk (below_step HB.out hb)
          have n_HA := Aside0.mk (Kd.C_below HA.out hb)
          have n_HD := Aside0.mk (Kd.C_below HD.out hb)
          have n_HE := Aside0.mk (Kd.C_below HE.out hb)
          have n_HF := Aside0.mk (Kd.C_below HF.out hb)
          have n_HK2 := Aside0.mk (blk_below HK2.out hb)
          have n_HK3 := Aside0.mk (blk_below HK3.out hb)
          have n_HL1 := Aside0.mk (Kd.C_below HL1.out hb)
          have n_HL2L := Aside0.mk (Kd.C_below HL2L.out hb)
          have n_HK11 := Aside0.mk (blk_below HK11.out hb)
          have n_HL3 := Aside0.mk (Kd.C_below HL3.out hb)
          have n_HTN := Aside0.mk (Kd.C_below HTN.out hb)
          have n_HT4 := Aside0.mk (Kd.R_below HT4.out hb)
          have n_HM4 := Aside0.mk (Kd.R_below HM4.out hb)
          have n_HK16 := Aside0.mk (blk_below HK16.out hb)
          clear HB HA HD HE HF HK2 HK3 HL1 HL2L HK11 HL3 HTN HT4 HM4 HK16
          have HB := n_HB
          have HA := n_HA
          have HD := n_HD
          have HE := n_HE
          have HF := n_HF
          have HK2 := n_HK2
          have HK3 := n_HK3
          have HL1 := n_HL1
          have HL2L := n_HL2L
          have HK11 := n_HK11
          have HL3 := n_HL3
          have HTN := n_HTN
          have HT4 := n_HT4
          have HM4 := n_HM4
          have HK16 := n_HK16
          clear n_HB n_HA n_HD n_HE n_HF n_HK2 n_HK3 n_HL1 n_HL2L n_HK11 n_HL3 n_HTN n_HT4 n_HM4 n_HK16
          have HT5 := Aside0.mk (hT)
          have HM5 := Aside0.mk (hM)
          clear hT hM hb
          go_upto_region 22 with fail
          obtain ⟨g20, hg20⟩ : ∃ g, g = V10.heap.size := ⟨_, rfl⟩
          have hW := below_alloc (Below.refl V10.heap.size V10) (Obj.cells #[Value.int IntKind.i64 (y).ep, Value.int IntKind.i64 (y).bl, Value.int IntKind.i64 (y).nx, Value.int IntKind.i64 (y).st, Value.slice T5 (y).tb.length cT5, Value.slice M5 (y).mp.length cM5] 55)
          have hN := blk_new V10 (Obj.cells #[Value.int IntKind.i64 (y).ep, Value.int IntKind.i64 (y).bl, Value.int IntKind.i64 (y).nx, Value.int IntKind.i64 (y).st, Value.slice T5 (y).tb.length cT5, Value.slice M5 (y).mp.length cM5] 55)
          rw [← hg20] at hN ⊢
          generalize V10.alloc (Obj.cells #[Value.int IntKind.i64 (y).ep, Value.int IntKind.i64 (y).bl, Value.int IntKind.i64 (y).nx, Value.int IntKind.i64 (y).st, Value.slice T5 (y).tb.length cT5, Value.slice M5 (y).mp.length cM5] 55) = V11 at hW hN ⊢
          have n_HB := Aside0.mk (below_step HB.out hW)
          have n_HA := Aside0.mk (Kd.C_below HA.out hW)
          have n_HD := Aside0.mk (Kd.C_below HD.out hW)
          have n_HE := Aside0.mk (Kd.C_below HE.out hW)
          have n_HF := Aside0.mk (Kd.C_below HF.out hW)
          have n_HK2 := Aside0.mk (blk_below HK2.out hW)
          have n_HK3 := Aside0.mk (blk_below HK3.out hW)
          have n_HL1 := Aside0.mk (Kd.C_below HL1.out hW)
          have n_HL2L := Aside0.mk (Kd.C_below HL2L.out hW)
          have n_HK11 := Aside0.mk (blk_below HK11.out hW)
          have n_HL3 := Aside0.mk (Kd.C_below HL3.out hW)
          have n_HTN := Aside0.mk (Kd.C_below HTN.out hW)
          have n_HT4 := Aside0.mk (Kd.R_below HT4.out hW)
          have n_HM4 := Aside0.mk (Kd.R_below HM4.out hW)
          have n_HK16 := Aside0.mk (blk_below HK16.out hW)
          have n_HT5 := Aside0.mk (Kd.R_below HT5.out hW)
          have n_HM5 := Aside0.mk (Kd.R_below HM5.out hW)
          clear HB HA HD HE HF HK2 HK3 HL1 HL2L HK11 HL3 HTN HT4 HM4 HK16 HT5 HM5
          have HB := n_HB
          have HA := n_HA
          have HD := n_HD
          have HE := n_HE
          have HF := n_HF
          have HK2 := n_HK2
          have HK3 := n_HK3
          have HL1 := n_HL1
          have HL2L := n_HL2L
          have HK11 := n_HK11
          have HL3 := n_HL3
          have HTN := n_HTN
          have HT4 := n_HT4
          have HM4 := n_HM4
          have HK16 := n_HK16
          have HT5 := n_HT5
          have HM5 := n_HM5
          clear n_HB n_HA n_HD n_HE n_HF n_HK2 n_HK3 n_HL1 n_HL2L n_HK11 n_HL3 n_HTN n_HT4 n_HM4 n_HK16 n_HT5 n_HM5
          have HK20 := Aside0.mk (hN)
          have Eg20 := Aside0.mk hg20
          clear hW hN hg20
          clear htm hwm p1
          rcases hy with rfl | rfl
          ·
           skip
           have HSQ := Aside0.mk (rsame_self y)
           have cx0 := blk_cell HK20.out 0; have fx0 := blk_frozen HK20.out 0; have cx1 := blk_cell HK20.out 1; have fx1 := blk_frozen HK20.out 1; have cx2 := blk_cell HK20.out 2; have fx2 := blk_frozen HK20.out 2; have cx3 := blk_cell HK20.out 3; have fx3 := blk_frozen HK20.out 3; have cx4 := blk_cell HK20.out 4; have fx4 := blk_frozen HK20.out 4; have cx5 := blk_cell HK20.out 5; have fx5 := blk_frozen HK20.out 5
           have cy0 := blk_cell HK2.out 0; have fy0 := blk_frozen HK2.out 0; have cy1 := blk_cell HK2.out 1; have fy1 := blk_frozen HK2.out 1; have cy2 := blk_cell HK2.out 2; have fy2 := blk_frozen HK2.out 2; have cy3 := blk_cell HK2.out 3; have fy3 := blk_frozen HK2.out 3; have cy4 := blk_cell HK2.out 4; have fy4 := blk_frozen HK2.out 4; have cy5 := blk_cell HK2.out 5; have fy5 := blk_frozen HK2.out 5
           go_wp2_with fail
           go_at_call 29
           clear cx0 fx0 cx1 fx1 cx2 fx2 cx3 fx3 cx4 fx4 cx5 fx5 cy0 fy0 cy1 fy1 cy2 fy2 cy3 fy3 cy4 fy4 cy5 fy5
           have hs := intarsiaref05_Same.calls 1001 (y).ep (y).bl (y).nx (y).st T5 cT5 (y).tb M5 cM5 (y).mp (y).ep (y).bl (y).nx (y).st A c (y).tb B d (y).mp true V11 (Kd.R_reads' HT5.out).2.2 (Kd.R_reads' HT5.out).2.1 (Kd.R_reads' HM5.out).2.2 (Kd.R_reads' HM5.out).2.1 HA.out HCA.out HD.out HCD.out (by have := rSame_is (y) (y) (Nat.le_trans HL.out.1 (by decide)) (Nat.le_trans HL.out.2 (by decide)); rw [HSQ.out] at this; exact this)
           refine hs.mono ?_
           clear hs
           rintro ex V12 ⟨rfl, hb⟩
           have n_HB := Aside0.mk (below_step HB.out hb)
           have n_HA := Aside0.mk (Kd.C_below HA.out hb)
           have n_HD := Aside0.mk (Kd.C_below HD.out hb)
           have n_HE := Aside0.mk (Kd.C_below HE.out hb)
           have n_HF := Aside0.mk (Kd.C_below HF.out hb)
           have n_HK2 := Aside0.mk (blk_below HK2.out hb)
           have n_HK3 := Aside0.mk (blk_below HK3.out hb)
           have n_HL1 := Aside0.mk (Kd.C_below HL1.out hb)
           have n_HL2L := Aside0.mk (Kd.C_below HL2L.out hb)
           have n_HK11 := Aside0.mk (blk_below HK11.out hb)
           have n_HL3 := Aside0.mk (Kd.C_below HL3.out hb)
           have n_HTN := Aside0.mk (Kd.C_below HTN.out hb)
           have n_HT4 := Aside0.mk (Kd.R_below HT4.out hb)
           have n_HM4 := Aside0.mk (Kd.R_below HM4.out hb)
           have n_HK16 := Aside0.mk (blk_below HK16.out hb)
           have n_HT5 := Aside0.mk (Kd.R_below HT5.out hb)
           have n_HM5 := Aside0.mk (Kd.R_below HM5.out hb)
           have n_HK20 := Aside0.mk (blk_below HK20.out hb)
           clear HB HA HD HE HF HK2 HK3 HL1 HL2L HK11 HL3 HTN HT4 HM4 HK16 HT5 HM5 HK20
           have HB := n_HB
           have HA := n_HA
           have HD := n_HD
           have HE := n_HE
           have HF := n_HF
           have HK2 := n_HK2
           have HK3 := n_HK3
           have HL1 := n_HL1
           have HL2L := n_HL2L
           have HK11 := n_HK11
           have HL3 := n_HL3
           have HTN := n_HTN
           have HT4 := n_HT4
           have HM4 := n_HM4
           have HK16 := n_HK16
           have HT5 := n_HT5
           have HM5 := n_HM5
           have HK20 := n_HK20
           clear n_HB n_HA n_HD n_HE n_HF n_HK2 n_HK3 n_HL1 n_HL2L n_HK11 n_HL3 n_HTN n_HT4 n_HM4 n_HK16 n_HT5 n_HM5 n_HK20
           clear hb HSQ
           go_wp2_with fail
           go_at_call 24
           refine (awake_calls V12).mono ?_
           rintro ex VA ⟨rfl, hb⟩
           have HBA := Aside0.mk (below_step HB.out hb)
           clear hb
           go_wp2
           go_ret
           exact ⟨rfl, HBA.out⟩
          ·
           skip
           have HSQ := Aside0.mk (mid_not r)
           have cx0 := blk_cell HK20.out 0; have fx0 := blk_frozen HK20.out 0; have cx1 := blk_cell HK20.out 1; have fx1 := blk_frozen HK20.out 1; have cx2 := blk_cell HK20.out 2; have fx2 := blk_frozen HK20.out 2; have cx3 := blk_cell HK20.out 3; have fx3 := blk_frozen HK20.out 3; have cx4 := blk_cell HK20.out 4; have fx4 := blk_frozen HK20.out 4; have cx5 := blk_cell HK20.out 5; have fx5 := blk_frozen HK20.out 5
           have cy0 := blk_cell HK2.out 0; have fy0 := blk_frozen HK2.out 0; have cy1 := blk_cell HK2.out 1; have fy1 := blk_frozen HK2.out 1; have cy2 := blk_cell HK2.out 2; have fy2 := blk_frozen HK2.out 2; have cy3 := blk_cell HK2.out 3; have fy3 := blk_frozen HK2.out 3; have cy4 := blk_cell HK2.out 4; have fy4 := blk_frozen HK2.out 4; have cy5 := blk_cell HK2.out 5; have fy5 := blk_frozen HK2.out 5
           go_wp2_with fail
           go_at_call 29
           clear cx0 fx0 cx1 fx1 cx2 fx2 cx3 fx3 cx4 fx4 cx5 fx5 cy0 fy0 cy1 fy1 cy2 fy2 cy3 fy3 cy4 fy4 cy5 fy5
           have hs := intarsiaref05_Same.calls 1001 (midr r).ep (midr r).bl (midr r).nx (midr r).st T5 cT5 (midr r).tb M5 cM5 (midr r).mp (r).ep (r).bl (r).nx (r).st A c (r).tb B d (r).mp false V11 (Kd.R_reads' HT5.out).2.2 (Kd.R_reads' HT5.out).2.1 (Kd.R_reads' HM5.out).2.2 (Kd.R_reads' HM5.out).2.1 HA.out HCA.out HD.out HCD.out (by have := rSame_is (midr r) (r) (Nat.le_trans HL.out.1 (by decide)) (Nat.le_trans HL.out.2 (by decide)); rw [HSQ.out] at this; exact this)
           refine hs.mono ?_
           clear hs
           rintro ex V12 ⟨rfl, hb⟩
           have n_HB := Aside0.mk (below_step HB.out hb)
           have n_HA := Aside0.mk (Kd.C_below HA.out hb)
           have n_HD := Aside0.mk (Kd.C_below HD.out hb)
           have n_HE := Aside0.mk (Kd.C_below HE.out hb)
           have n_HF := Aside0.mk (Kd.C_below HF.out hb)
           have n_HK2 := Aside0.mk (blk_below HK2.out hb)
           have n_HK3 := Aside0.mk (blk_below HK3.out hb)
           have n_HL1 := Aside0.mk (Kd.C_below HL1.out hb)
           have n_HL2L := Aside0.mk (Kd.C_below HL2L.out hb)
           have n_HK11 := Aside0.mk (blk_below HK11.out hb)
           have n_HL3 := Aside0.mk (Kd.C_below HL3.out hb)
           have n_HTN := Aside0.mk (Kd.C_below HTN.out hb)
           have n_HT4 := Aside0.mk (Kd.R_below HT4.out hb)
           have n_HM4 := Aside0.mk (Kd.R_below HM4.out hb)
           have n_HK16 := Aside0.mk (blk_below HK16.out hb)
           have n_HT5 := Aside0.mk (Kd.R_below HT5.out hb)
           have n_HM5 := Aside0.mk (Kd.R_below HM5.out hb)
           have n_HK20 := Aside0.mk (blk_below HK20.out hb)
           clear HB HA HD HE HF HK2 HK3 HL1 HL2L HK11 HL3 HTN HT4 HM4 HK16 HT5 HM5 HK20
           have HB := n_HB
           have HA := n_HA
           have HD := n_HD
           have HE := n_HE
           have HF := n_HF
           have HK2 := n_HK2
           have HK3 := n_HK3
           have HL1 := n_HL1
           have HL2L := n_HL2L
           have HK11 := n_HK11
           have HL3 := n_HL3
           have HTN := n_HTN
           have HT4 := n_HT4
           have HM4 := n_HM4
           have HK16 := n_HK16
           have HT5 := n_HT5
           have HM5 := n_HM5
           have HK20 := n_HK20
           clear n_HB n_HA n_HD n_HE n_HF n_HK2 n_HK3 n_HL1 n_HL2L n_HK11 n_HL3 n_HTN n_HT4 n_HM4 n_HK16 n_HT5 n_HM5 n_HK20
           clear hb HSQ
           have cx0 := blk_cell HK20.out 0; have fx0 := blk_frozen HK20.out 0; have cx1 := blk_cell HK20.out 1; have fx1 := blk_frozen HK20.out 1; have cx2 := blk_cell HK20.out 2; have fx2 := blk_frozen HK20.out 2; have cx3 := blk_cell HK20.out 3; have fx3 := blk_frozen HK20.out 3; have cx4 := blk_cell HK20.out 4; have fx4 := blk_frozen HK20.out 4; have cx5 := blk_cell HK20.out 5; have fx5 := blk_frozen HK20.out 5
           have cy0 := blk_cell HK11.out 0; have fy0 := blk_frozen HK11.out 0; have cy1 := blk_cell HK11.out 1; have fy1 := blk_frozen HK11.out 1; have cy2 := blk_cell HK11.out 2; have fy2 := blk_frozen HK11.out 2; have cy3 := blk_cell HK11.out 3; have fy3 := blk_frozen HK11.out 3; have cy4 := blk_cell HK11.out 4; have fy4 := blk_frozen HK11.out 4; have cy5 := blk_cell HK11.out 5; have fy5 := blk_frozen HK11.out 5
           have HSQ := Aside0.mk (rsame_self (midr r))
           go_wp2_with fail
           go_at_call 29
           clear cx0 fx0 cx1 fx1 cx2 fx2 cx3 fx3 cx4 fx4 cx5 fx5 cy0 fy0 cy1 fy1 cy2 fy2 cy3 fy3 cy4 fy4 cy5 fy5
           have hs := intarsiaref05_Same.calls 1001 (midr r).ep (midr r).bl (midr r).nx (midr r).st T5 cT5 (midr r).tb M5 cM5 (midr r).mp (midr r).ep (midr r).bl (midr r).nx (midr r).st A c (midr r).tb B d (midr r).mp true V12 (Kd.R_reads' HT5.out).2.2 (Kd.R_reads' HT5.out).2.1 (Kd.R_reads' HM5.out).2.2 (Kd.R_reads' HM5.out).2.1 HA.out HCA.out HD.out HCD.out (by have := rSame_is (midr r) (midr r) (Nat.le_trans HL.out.1 (by decide)) (Nat.le_trans HL.out.2 (by decide)); rw [HSQ.out] at this; exact this)
           refine hs.mono ?_
           clear hs
           rintro ex V13 ⟨rfl, hb⟩
           have n_HB := Aside0.mk (below_step HB.out hb)
           have n_HA := Aside0.mk (Kd.C_below HA.out hb)
           have n_HD := Aside0.mk (Kd.C_below HD.out hb)
           have n_HE := Aside0.mk (Kd.C_below HE.out hb)
           have n_HF := Aside0.mk (Kd.C_below HF.out hb)
           have n_HK2 := Aside0.mk (blk_below HK2.out hb)
           have n_HK3 := Aside0.mk (blk_below HK3.out hb)
           have n_HL1 := Aside0.mk (Kd.C_below HL1.out hb)
           have n_HL2L := Aside0.mk (Kd.C_below HL2L.out hb)
           have n_HK11 := Aside0.mk (blk_below HK11.out hb)
           have n_HL3 := Aside0.mk (Kd.C_below HL3.out hb)
           have n_HTN := Aside0.mk (Kd.C_below HTN.out hb)
           have n_HT4 := Aside0.mk (Kd.R_below HT4.out hb)
           have n_HM4 := Aside0.mk (Kd.R_below HM4.out hb)
           have n_HK16 := Aside0.mk (blk_below HK16.out hb)
           have n_HT5 := Aside0.mk (Kd.R_below HT5.out hb)
           have n_HM5 := Aside0.mk (Kd.R_below HM5.out hb)
           have n_HK20 := Aside0.mk (blk_below HK20.out hb)
           clear HB HA HD HE HF HK2 HK3 HL1 HL2L HK11 HL3 HTN HT4 HM4 HK16 HT5 HM5 HK20
           have HB := n_HB
           have HA := n_HA
           have HD := n_HD
           have HE := n_HE
           have HF := n_HF
           have HK2 := n_HK2
           have HK3 := n_HK3
           have HL1 := n_HL1
           have HL2L := n_HL2L
           have HK11 := n_HK11
           have HL3 := n_HL3
           have HTN := n_HTN
           have HT4 := n_HT4
           have HM4 := n_HM4
           have HK16 := n_HK16
           have HT5 := n_HT5
           have HM5 := n_HM5
           have HK20 := n_HK20
           clear n_HB n_HA n_HD n_HE n_HF n_HK2 n_HK3 n_HL1 n_HL2L n_HK11 n_HL3 n_HTN n_HT4 n_HM4 n_HK16 n_HT5 n_HM5 n_HK20
           clear hb HSQ
           go_wp2_with fail
           go_at_call 24
           refine (awake_calls V13).mono ?_
           rintro ex VA ⟨rfl, hb⟩
           have HBA := Aside0.mk (below_step HB.out hb)
           clear hb
           go_wp2
           go_ret
           exact ⟨rfl, HBA.out⟩
         ·
          skip
          have HPAR := Aside0.mk (show r.ep % 2 = 0 by omega)
          clear he
          have htm : Int.tmod r.ep 2 = r.ep % 2 := Int.tmod_eq_emod_of_nonneg HEP.out
          have hwm := torn_wm r.ep
          have hee := HPAR.out
          have p1 : (r.ep % 2 == 1) = false := by rw [hee]; rfl
          clear hee
          have cx0 := blk_cell HK2.out 0; have fx0 := blk_frozen HK2.out 0; have cx1 := blk_cell HK2.out 1; have fx1 := blk_frozen HK2.out 1; have cx2 := blk_cell HK2.out 2; have fx2 := blk_frozen HK2.out 2; have cx3 := blk_cell HK2.out 3; have fx3 := blk_frozen HK2.out 3; have cx4 := blk_cell HK2.out 4; have fx4 := blk_frozen HK2.out 4; have cx5 := blk_cell HK2.out 5; have fx5 := blk_frozen HK2.out 5
          go_wp2_with fail
          go_at_call 32
          clear cx0 fx0 cx1 fx1 cx2 fx2 cx3 fx3 cx4 fx4 cx5 fx5
          have hg := root_Choose T cT torn L3 cL3 (rput (midr r)).1 V5 HTN.out HTC.out HTY.out HL3.out HCL3.out (rput_byte _)
          obtain ⟨y, n, hch, hy⟩ := HPU.out.2.1 HPAR.out
          rw [hch] at hg
          refine hg.mono ?_
          clear hg hch
          rintro ex V10 ⟨v, rfl, hv, hb⟩
          obtain ⟨vT, vM, rfl, hT, hM⟩ := hv
          obtain ⟨T5, cT5, rfl⟩ := Kd.R_slice hT
          obtain ⟨M5, cM5, rfl⟩ := Kd.R_slice hM
          have n_HB := Aside0.mk (below_step HB.out hb)
          have n_HA := Aside0.mk (Kd.C_below HA.out hb)
          have n_HD := Aside0.mk (Kd.C_below HD.out hb)
          have n_HE := Aside0.mk (Kd.C_below HE.out hb)
          have n_HF := Aside0.mk (Kd.C_below HF.out hb)
          have n_HK2 := Aside0.mk (blk_below HK2.out hb)
          have n_HK3 := Aside0.mk (blk_below HK3.out hb)
          have n_HL1 := Aside0.mk (Kd.C_below HL1.out hb)
          have n_HL2L := Aside0.mk (Kd.C_below HL2L.out hb)
          have n_HK11 := Aside0.mk (blk_below HK11.out hb)
          have n_HL3 := Aside0.mk (Kd.C_below HL3.out hb)
          have n_HTN := Aside0.mk (Kd.C_below HTN.out hb)
          have n_HT4 := Aside0.mk (Kd.R_below HT4.out hb)
          have n_HM4 := Aside0.mk (Kd.R_below HM4.out hb)
          have n_HK16 := Aside0.mk (blk_below HK16.out hb)
          clear HB HA HD HE HF HK2 HK3 HL1 HL2L HK11 HL3 HTN HT4 HM4 HK16
          have HB := n_HB
          have HA := n_HA
          have HD := n_HD
          have HE := n_HE
          have HF := n_HF
          have HK2 := n_HK2
          have HK3 := n_HK3
          have HL1 := n_HL1
          have HL2L := n_HL2L
          have HK11 := n_HK11
          have HL3 := n_HL3
          have HTN := n_HTN
          have HT4 := n_HT4
          have HM4 := n_HM4
          have HK16 := n_HK16
          clear n_HB n_HA n_HD n_HE n_HF n_HK2 n_HK3 n_HL1 n_HL2L n_HK11 n_HL3 n_HTN n_HT4 n_HM4 n_HK16
          have HT5 := Aside0.mk (hT)
          have HM5 := Aside0.mk (hM)
          clear hT hM hb
          go_upto_region 22 with fail
          obtain ⟨g20, hg20⟩ : ∃ g, g = V10.heap.size := ⟨_, rfl⟩
          have hW := below_alloc (Below.refl V10.heap.size V10) (Obj.cells #[Value.int IntKind.i64 (y).ep, Value.int IntKind.i64 (y).bl, Value.int IntKind.i64 (y).nx, Value.int IntKind.i64 (y).st, Value.slice T5 (y).tb.length cT5, Value.slice M5 (y).mp.length cM5] 55)
          have hN := blk_new V10 (Obj.cells #[Value.int IntKind.i64 (y).ep, Value.int IntKind.i64 (y).bl, Value.int IntKind.i64 (y).nx, Value.int IntKind.i64 (y).st, Value.slice T5 (y).tb.length cT5, Value.slice M5 (y).mp.length cM5] 55)
          rw [← hg20] at hN ⊢
          generalize V10.alloc (Obj.cells #[Value.int IntKind.i64 (y).ep, Value.int IntKind.i64 (y).bl, Value.int IntKind.i64 (y).nx, Value.int IntKind.i64 (y).st, Value.slice T5 (y).tb.length cT5, Value.slice M5 (y).mp.length cM5] 55) = V11 at hW hN ⊢
          have n_HB := Aside0.mk (below_step HB.out hW)
          have n_HA := Aside0.mk (Kd.C_below HA.out hW)
          have n_HD := Aside0.mk (Kd.C_below HD.out hW)
          have n_HE := Aside0.mk (Kd.C_below HE.out hW)
          have n_HF := Aside0.mk (Kd.C_below HF.out hW)
          have n_HK2 := Aside0.mk (blk_below HK2.out hW)
          have n_HK3 := Aside0.mk (blk_below HK3.out hW)
          have n_HL1 := Aside0.mk (Kd.C_below HL1.out hW)
          have n_HL2L := Aside0.mk (Kd.C_below HL2L.out hW)
          have n_HK11 := Aside0.mk (blk_below HK11.out hW)
          have n_HL3 := Aside0.mk (Kd.C_below HL3.out hW)
          have n_HTN := Aside0.mk (Kd.C_below HTN.out hW)
          have n_HT4 := Aside0.mk (Kd.R_below HT4.out hW)
          have n_HM4 := Aside0.mk (Kd.R_below HM4.out hW)
          have n_HK16 := Aside0.mk (blk_below HK16.out hW)
          have n_HT5 := Aside0.mk (Kd.R_below HT5.out hW)
          have n_HM5 := Aside0.mk (Kd.R_below HM5.out hW)
          clear HB HA HD HE HF HK2 HK3 HL1 HL2L HK11 HL3 HTN HT4 HM4 HK16 HT5 HM5
          have HB := n_HB
          have HA := n_HA
          have HD := n_HD
          have HE := n_HE
          have HF := n_HF
          have HK2 := n_HK2
          have HK3 := n_HK3
          have HL1 := n_HL1
          have HL2L := n_HL2L
          have HK11 := n_HK11
          have HL3 := n_HL3
          have HTN := n_HTN
          have HT4 := n_HT4
          have HM4 := n_HM4
          have HK16 := n_HK16
          have HT5 := n_HT5
          have HM5 := n_HM5
          clear n_HB n_HA n_HD n_HE n_HF n_HK2 n_HK3 n_HL1 n_HL2L n_HK11 n_HL3 n_HTN n_HT4 n_HM4 n_HK16 n_HT5 n_HM5
          have HK20 := Aside0.mk (hN)
          have Eg20 := Aside0.mk hg20
          clear hW hN hg20
          clear htm hwm p1
          rcases hy with rfl | rfl
          ·
           skip
           have HSQ := Aside0.mk (rsame_self y)
           have cx0 := blk_cell HK20.out 0; have fx0 := blk_frozen HK20.out 0; have cx1 := blk_cell HK20.out 1; have fx1 := blk_frozen HK20.out 1; have cx2 := blk_cell HK20.out 2; have fx2 := blk_frozen HK20.out 2; have cx3 := blk_cell HK20.out 3; have fx3 := blk_frozen HK20.out 3; have cx4 := blk_cell HK20.out 4; have fx4 := blk_frozen HK20.out 4; have cx5 := blk_cell HK20.out 5; have fx5 := blk_frozen HK20.out 5
           have cy0 := blk_cell HK2.out 0; have fy0 := blk_frozen HK2.out 0; have cy1 := blk_cell HK2.out 1; have fy1 := blk_frozen HK2.out 1; have cy2 := blk_cell HK2.out 2; have fy2 := blk_frozen HK2.out 2; have cy3 := blk_cell HK2.out 3; have fy3 := blk_frozen HK2.out 3; have cy4 := blk_cell HK2.out 4; have fy4 := blk_frozen HK2.out 4; have cy5 := blk_cell HK2.out 5; have fy5 := blk_frozen HK2.out 5
           go_wp2_with fail
           go_at_call 29
           clear cx0 fx0 cx1 fx1 cx2 fx2 cx3 fx3 cx4 fx4 cx5 fx5 cy0 fy0 cy1 fy1 cy2 fy2 cy3 fy3 cy4 fy4 cy5 fy5
           have hs := intarsiaref05_Same.calls 1001 (y).ep (y).bl (y).nx (y).st T5 cT5 (y).tb M5 cM5 (y).mp (y).ep (y).bl (y).nx (y).st A c (y).tb B d (y).mp true V11 (Kd.R_reads' HT5.out).2.2 (Kd.R_reads' HT5.out).2.1 (Kd.R_reads' HM5.out).2.2 (Kd.R_reads' HM5.out).2.1 HA.out HCA.out HD.out HCD.out (by have := rSame_is (y) (y) (Nat.le_trans HL.out.1 (by decide)) (Nat.le_trans HL.out.2 (by decide)); rw [HSQ.out] at this; exact this)
           refine hs.mono ?_
           clear hs
           rintro ex V12 ⟨rfl, hb⟩
           have n_HB := Aside0.mk (below_step HB.out hb)
           have n_HA := Aside0.mk (Kd.C_below HA.out hb)
           have n_HD := Aside0.mk (Kd.C_below HD.out hb)
           have n_HE := Aside0.mk (Kd.C_below HE.out hb)
           have n_HF := Aside0.mk (Kd.C_below HF.out hb)
           have n_HK2 := Aside0.mk (blk_below HK2.out hb)
           have n_HK3 := Aside0.mk (blk_below HK3.out hb)
           have n_HL1 := Aside0.mk (Kd.C_below HL1.out hb)
           have n_HL2L := Aside0.mk (Kd.C_below HL2L.out hb)
           have n_HK11 := Aside0.mk (blk_below HK11.out hb)
           have n_HL3 := Aside0.mk (Kd.C_below HL3.out hb)
           have n_HTN := Aside0.mk (Kd.C_below HTN.out hb)
           have n_HT4 := Aside0.mk (Kd.R_below HT4.out hb)
           have n_HM4 := Aside0.mk (Kd.R_below HM4.out hb)
           have n_HK16 := Aside0.mk (blk_below HK16.out hb)
           have n_HT5 := Aside0.mk (Kd.R_below HT5.out hb)
           have n_HM5 := Aside0.mk (Kd.R_below HM5.out hb)
           have n_HK20 := Aside0.mk (blk_below HK20.out hb)
           clear HB HA HD HE HF HK2 HK3 HL1 HL2L HK11 HL3 HTN HT4 HM4 HK16 HT5 HM5 HK20
           have HB := n_HB
           have HA := n_HA
           have HD := n_HD
           have HE := n_HE
           have HF := n_HF
           have HK2 := n_HK2
           have HK3 := n_HK3
           have HL1 := n_HL1
           have HL2L := n_HL2L
           have HK11 := n_HK11
           have HL3 := n_HL3
           have HTN := n_HTN
           have HT4 := n_HT4
           have HM4 := n_HM4
           have HK16 := n_HK16
           have HT5 := n_HT5
           have HM5 := n_HM5
           have HK20 := n_HK20
           clear n_HB n_HA n_HD n_HE n_HF n_HK2 n_HK3 n_HL1 n_HL2L n_HK11 n_HL3 n_HTN n_HT4 n_HM4 n_HK16 n_HT5 n_HM5 n_HK20
           clear hb HSQ
           go_wp2_with fail
           go_at_call 24
           refine (awake_calls V12).mono ?_
           rintro ex VA ⟨rfl, hb⟩
           have HBA := Aside0.mk (below_step HB.out hb)
           clear hb
           go_wp2
           go_ret
           exact ⟨rfl, HBA.out⟩
          ·
           skip
           have HSQ := Aside0.mk (mid_not r)
           have cx0 := blk_cell HK20.out 0; have fx0 := blk_frozen HK20.out 0; have cx1 := blk_cell HK20.out 1; have fx1 := blk_frozen HK20.out 1; have cx2 := blk_cell HK20.out 2; have fx2 := blk_frozen HK20.out 2; have cx3 := blk_cell HK20.out 3; have fx3 := blk_frozen HK20.out 3; have cx4 := blk_cell HK20.out 4; have fx4 := blk_frozen HK20.out 4; have cx5 := blk_cell HK20.out 5; have fx5 := blk_frozen HK20.out 5
           have cy0 := blk_cell HK2.out 0; have fy0 := blk_frozen HK2.out 0; have cy1 := blk_cell HK2.out 1; have fy1 := blk_frozen HK2.out 1; have cy2 := blk_cell HK2.out 2; have fy2 := blk_frozen HK2.out 2; have cy3 := blk_cell HK2.out 3; have fy3 := blk_frozen HK2.out 3; have cy4 := blk_cell HK2.out 4; have fy4 := blk_frozen HK2.out 4; have cy5 := blk_cell HK2.out 5; have fy5 := blk_frozen HK2.out 5
           go_wp2_with fail
           go_at_call 29
           clear cx0 fx0 cx1 fx1 cx2 fx2 cx3 fx3 cx4 fx4 cx5 fx5 cy0 fy0 cy1 fy1 cy2 fy2 cy3 fy3 cy4 fy4 cy5 fy5
           have hs := intarsiaref05_Same.calls 1001 (midr r).ep (midr r).bl (midr r).nx (midr r).st T5 cT5 (midr r).tb M5 cM5 (midr r).mp (r).ep (r).bl (r).nx (r).st A c (r).tb B d (r).mp false V11 (Kd.R_reads' HT5.out).2.2 (Kd.R_reads' HT5.out).2.1 (Kd.R_reads' HM5.out).2.2 (Kd.R_reads' HM5.out).2.1 HA.out HCA.out HD.out HCD.out (by have := rSame_is (midr r) (r) (Nat.le_trans HL.out.1 (by decide)) (Nat.le_trans HL.out.2 (by decide)); rw [HSQ.out] at this; exact this)
           refine hs.mono ?_
           clear hs
           rintro ex V12 ⟨rfl, hb⟩
           have n_HB := Aside0.mk (below_step HB.out hb)
           have n_HA := Aside0.mk (Kd.C_below HA.out hb)
           have n_HD := Aside0.mk (Kd.C_below HD.out hb)
           have n_HE := Aside0.mk (Kd.C_below HE.out hb)
           have n_HF := Aside0.mk (Kd.C_below HF.out hb)
           have n_HK2 := Aside0.mk (blk_below HK2.out hb)
           have n_HK3 := Aside0.mk (blk_below HK3.out hb)
           have n_HL1 := Aside0.mk (Kd.C_below HL1.out hb)
           have n_HL2L := Aside0.mk (Kd.C_below HL2L.out hb)
           have n_HK11 := Aside0.mk (blk_below HK11.out hb)
           have n_HL3 := Aside0.mk (Kd.C_below HL3.out hb)
           have n_HTN := Aside0.mk (Kd.C_below HTN.out hb)
           have n_HT4 := Aside0.mk (Kd.R_below HT4.out hb)
           have n_HM4 := Aside0.mk (Kd.R_below HM4.out hb)
           have n_HK16 := Aside0.mk (blk_below HK16.out hb)
           have n_HT5 := Aside0.mk (Kd.R_below HT5.out hb)
           have n_HM5 := Aside0.mk (Kd.R_below HM5.out hb)
           have n_HK20 := Aside0.mk (blk_below HK20.out hb)
           clear HB HA HD HE HF HK2 HK3 HL1 HL2L HK11 HL3 HTN HT4 HM4 HK16 HT5 HM5 HK20
           have HB := n_HB
           have HA := n_HA
           have HD := n_HD
           have HE := n_HE
           have HF := n_HF
           have HK2 := n_HK2
           have HK3 := n_HK3
           have HL1 := n_HL1
           have HL2L := n_HL2L
           have HK11 := n_HK11
           have HL3 := n_HL3
           have HTN := n_HTN
           have HT4 := n_HT4
           have HM4 := n_HM4
           have HK16 := n_HK16
           have HT5 := n_HT5
           have HM5 := n_HM5
           have HK20 := n_HK20
           clear n_HB n_HA n_HD n_HE n_HF n_HK2 n_HK3 n_HL1 n_HL2L n_HK11 n_HL3 n_HTN n_HT4 n_HM4 n_HK16 n_HT5 n_HM5 n_HK20
           clear hb HSQ
           have cx0 := blk_cell HK20.out 0; have fx0 := blk_frozen HK20.out 0; have cx1 := blk_cell HK20.out 1; have fx1 := blk_frozen HK20.out 1; have cx2 := blk_cell HK20.out 2; have fx2 := blk_frozen HK20.out 2; have cx3 := blk_cell HK20.out 3; have fx3 := blk_frozen HK20.out 3; have cx4 := blk_cell HK20.out 4; have fx4 := blk_frozen HK20.out 4; have cx5 := blk_cell HK20.out 5; have fx5 := blk_frozen HK20.out 5
           have cy0 := blk_cell HK11.out 0; have fy0 := blk_frozen HK11.out 0; have cy1 := blk_cell HK11.out 1; have fy1 := blk_frozen HK11.out 1; have cy2 := blk_cell HK11.out 2; have fy2 := blk_frozen HK11.out 2; have cy3 := blk_cell HK11.out 3; have fy3 := blk_frozen HK11.out 3; have cy4 := blk_cell HK11.out 4; have fy4 := blk_frozen HK11.out 4; have cy5 := blk_cell HK11.out 5; have fy5 := blk_frozen HK11.out 5
           have HSQ := Aside0.mk (rsame_self (midr r))
           go_wp2_with fail
           go_at_call 29
           clear cx0 fx0 cx1 fx1 cx2 fx2 cx3 fx3 cx4 fx4 cx5 fx5 cy0 fy0 cy1 fy1 cy2 fy2 cy3 fy3 cy4 fy4 cy5 fy5
           have hs := intarsiaref05_Same.calls 1001 (midr r).ep (midr r).bl (midr r).nx (midr r).st T5 cT5 (midr r).tb M5 cM5 (midr r).mp (midr r).ep (midr r).bl (midr r).nx (midr r).st A c (midr r).tb B d (midr r).mp true V12 (Kd.R_reads' HT5.out).2.2 (Kd.R_reads' HT5.out).2.1 (Kd.R_reads' HM5.out).2.2 (Kd.R_reads' HM5.out).2.1 HA.out HCA.out HD.out HCD.out (by have := rSame_is (midr r) (midr r) (Nat.le_trans HL.out.1 (by decide)) (Nat.le_trans HL.out.2 (by decide)); rw [HSQ.out] at this; exact this)
           refine hs.mono ?_
           clear hs
           rintro ex V13 ⟨rfl, hb⟩
           have n_HB := Aside0.mk (below_step HB.out hb)
           have n_HA := Aside0.mk (Kd.C_below HA.out hb)
           have n_HD := Aside0.mk (Kd.C_below HD.out hb)
           have n_HE := Aside0.mk (Kd.C_below HE.out hb)
           have n_HF := Aside0.mk (Kd.C_below HF.out hb)
           have n_HK2 := Aside0.mk (blk_below HK2.out hb)
           have n_HK3 := Aside0.mk (blk_below HK3.out hb)
           have n_HL1 := Aside0.mk (Kd.C_below HL1.out hb)
           have n_HL2L := Aside0.mk (Kd.C_below HL2L.out hb)
           have n_HK11 := Aside0.mk (blk_below HK11.out hb)
           have n_HL3 := Aside0.mk (Kd.C_below HL3.out hb)
           have n_HTN := Aside0.mk (Kd.C_below HTN.out hb)
           have n_HT4 := Aside0.mk (Kd.R_below HT4.out hb)
           have n_HM4 := Aside0.mk (Kd.R_below HM4.out hb)
           have n_HK16 := Aside0.mk (blk_below HK16.out hb)
           have n_HT5 := Aside0.mk (Kd.R_below HT5.out hb)
           have n_HM5 := Aside0.mk (Kd.R_below HM5.out hb)
           have n_HK20 := Aside0.mk (blk_below HK20.out hb)
           clear HB HA HD HE HF HK2 HK3 HL1 HL2L HK11 HL3 HTN HT4 HM4 HK16 HT5 HM5 HK20
           have HB := n_HB
           have HA := n_HA
           have HD := n_HD
           have HE := n_HE
           have HF := n_HF
           have HK2 := n_HK2
           have HK3 := n_HK3
           have HL1 := n_HL1
           have HL2L := n_HL2L
           have HK11 := n_HK11
           have HL3 := n_HL3
           have HTN := n_HTN
           have HT4 := n_HT4
           have HM4 := n_HM4
           have HK16 := n_HK16
           have HT5 := n_HT5
           have HM5 := n_HM5
           have HK20 := n_HK20
           clear n_HB n_HA n_HD n_HE n_HF n_HK2 n_HK3 n_HL1 n_HL2L n_HK11 n_HL3 n_HTN n_HT4 n_HM4 n_HK16 n_HT5 n_HM5 n_HK20
           clear hb HSQ
           go_wp2_with fail
           go_at_call 24
           refine (awake_calls V13).mono ?_
           rintro ex VA ⟨rfl, hb⟩
           have HBA := Aside0.mk (below_step HB.out hb)
           clear hb
           go_wp2
           go_ret
           exact ⟨rfl, HBA.out⟩
       ·
        skip
        have eb1 : ((rput r).2 != 0) = false := by rw [rput_err.mpr HR1.out]; rfl
        have eb2 : ((rput (older r s)).2 != 0) = false := by rw [rput_err.mpr HR2.out]; rfl
        have eb3 : ((rput (midr r)).2 != 0) = true := bne_iff_ne.mpr (fun h => hr3 (rput_err.mp h))
        clear hr3
        go_wp2_with fail
        go_at_call 24
        refine (awake_calls U9).mono ?_
        rintro ex VA ⟨rfl, hb⟩
        have HBA := Aside0.mk (below_step HB.out hb)
        clear hb
        go_wp2
        go_ret
        exact ⟨rfl, HBA.out⟩
      ·
       skip
       have eb1 : ((rput r).2 != 0) = false := by rw [rput_err.mpr HR1.out]; rfl
       have eb2 : ((rput (older r s)).2 != 0) = true := bne_iff_ne.mpr (fun h => hr2 (rput_err.mp h))
       clear hr2
       go_wp2_with fail
       go_at_call 24
       refine (awake_calls U9).mono ?_
       rintro ex VA ⟨rfl, hb⟩
       have HBA := Aside0.mk (below_step HB.out hb)
       clear hb
       go_wp2
       go_ret
       exact ⟨rfl, HBA.out⟩
     ·
      skip
      have eb1 : ((rput r).2 != 0) = true := bne_iff_ne.mpr (fun h => hr1 (rput_err.mp h))
      clear hr1
      go_wp2_with fail
      go_at_call 24
      refine (awake_calls U9).mono ?_
      rintro ex VA ⟨rfl, hb⟩
      have HBA := Aside0.mk (below_step HB.out hb)
      clear hb
      go_wp2
      go_ret
      exact ⟨rfl, HBA.out⟩
  ·
   rw [decide_eq_false hl2]
   clear hl2
   go_wp2_with fail
   go_at_call 24
   refine (awake_calls U3).mono ?_
   rintro ex VA ⟨rfl, hb⟩
   have HBA := Aside0.mk (below_step HB.out hb)
   clear hb
   go_wp2
   go_ret
   exact ⟨rfl, HBA.out⟩
 ·
  rw [decide_eq_false hl]
  clear hl
  go_wp2_with fail
  go_at_call 24
  refine (awake_calls U2).mono ?_
  rintro ex VA ⟨rfl, hb⟩
  have HBA := Aside0.mk (below_step HB.out hb)
  clear hb
  go_wp2
  go_ret
  exact ⟨rfl, HBA.out⟩
end Go.Proofs.Ytgflafifemhmgaa.MRt
