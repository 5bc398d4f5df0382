/- The contract of dir.Halve: a range over slices.Chunk, whose body collects, or leaves by a return. -/
import Derived.RangeFuncBox
import Derived.RangeFuncLeaves
import Derived.RangeFuncFrom
import Derived.RangeFuncNested
import Derived.Shelf.Abstract
import Derived.WalkKit
import Derived.OwnWalkIn
import Derived.TacticsInMore
import Derived.LoopNIn
import Derived.LoopIn
import Derived.Sort.QuietIn
import Derived.Maps.AppendAt
import Derived.Test.YtiapecjiedhaoaaReg8
import Derived.Test.YtiapecjiedhaoaaMDirx2
namespace Go.Proofs.Ytiapecjiedhaoaa.Halve
open Go.RowKit Go.Shelf Go.Proofs.Ytiapecjiedhaoaa.Hand Go.Proofs.Ytiapecjiedhaoaa.MDir Go.Proofs.YtiapecjiedhaoaaW.PrintWords Go.Proofs.YtiapecjiedhaoaaW.PrintLast Go.Proofs.YtiapecjiedhaoaaW.PrintMore
attribute [local go_sem] Oper.semAt_some max2_int min2_int max_two min_two
set_option linter.unusedVariables false
set_option maxHeartbeats 1000000 in
/-- slices.Chunk(s, 2): both arguments are boxed; the function value captures the boxes. -/
theorem chunk_in (F : Fence) (n : Nat) (h5 : F.fn 44) (hro : F.round = none) (a : Option Addr) (len cap : Nat) (w : World) :
    CallsIn F n Try.prog 44 #[.slice a len cap, .int .i64 2] w fun e w' => e = .returned (.func (.func 51) #[] #[.pointer (some ⟨w.heap.size, 0, none⟩), .pointer (some ⟨w.heap.size + 1, 0, none⟩)]) ∧ w' = (w.alloc (.cells #[.slice a len cap] 22)).alloc (.cells #[.int .i64 2] 3) := by
  refine callsIn_of_wp Try.func44 rfl h5 ?_ hro
  simp only [Try.ntmps44, List.size_toArray, List.length_cons, List.length_nil, Nat.reduceAdd, Nat.reduceSub, Array.replicate_succ, Array.replicate_zero, List.push_toArray, List.append_toArray, List.nil_append, List.cons_append]
  gi_wp2
  go_ret
  exact ⟨rfl, rfl⟩
/-- The j-th pair's slice. -/
def pr (ad : Addr) (j : Nat) : Value := .slice (some (ad.add (2 * j))) 2 2
set_option maxRecDepth 100000 in
set_option maxHeartbeats 2000000 in
theorem chunk1_in (n : Nat) (hn : 1 ≤ n) (l Bs Bn : Nat) (ad : Addr) (m cap : Nat) (hreach : m ≤ 1000000) (hcap : 2 * m ≤ cap) (J Jx : List (Fin m) → World → Prop) (Kp : World → World → Prop) (hJ : ∀ pre W n, J pre W → J pre (W.drewN n))
    (hKs : ∀ W W', Kp W W' → W'.cell? ⟨Bs, 0, none⟩ = W.cell? ⟨Bs, 0, none⟩) (hKn : ∀ W W', Kp W W' → W'.cell? ⟨Bn, 0, none⟩ = W.cell? ⟨Bn, 0, none⟩)
    (hY : ∀ pre x W, J pre W → pre.length < m → YieldAt Fence.wide (n - 1) Try.prog l #[pr ad x.1] W fun e W' =>
      (e = .returned (.bool true) ∧ J (pre ++ [x]) W' ∧ Kp W W') ∨ (e = .returned (.bool false) ∧ Jx (pre ++ [x]) W'))
    (W : World) (hBs : W.cell? ⟨Bs, 0, none⟩ = some (.slice (some ad) (2 * m) cap)) (hBn : W.cell? ⟨Bn, 0, none⟩ = some (.int .i64 2)) (h0 : J [] W) :
    CallsIn Fence.wide n Try.prog 51 #[.func (.yield l) #[] #[], .pointer (some ⟨Bs, 0, none⟩), .pointer (some ⟨Bn, 0, none⟩)] W fun e W' => (∃ v, e = .returned v) ∧
      ((∃ ys, ys.map (·.1) = List.range m ∧ J ys W') ∨ (∃ pre, (∃ k, k ≤ m ∧ pre.map (·.1) = List.range k) ∧ Jx pre W')) := by
  refine callsIn_of_wp Try.func51 rfl trivial ?_ rfl
  simp only [Try.ntmps51, List.size_toArray, List.length_cons, List.length_nil, Nat.reduceAdd, Nat.reduceSub, Array.replicate_succ, Array.replicate_zero, List.push_toArray, List.append_toArray, List.nil_append, List.cons_append]
  gi_wp2
  gi_loopw [4] (fun i wr => ∃ (k : Nat) (pre : List (Fin m)), k ≤ m ∧ i = .int .i64 ((2 * k : Nat) : Int) ∧ pre.map (·.1) = List.range k ∧ J pre wr ∧ wr.cell? ⟨Bs, 0, none⟩ = some (.slice (some ad) (2 * m) cap) ∧ wr.cell? ⟨Bn, 0, none⟩ = some (.int .i64 2))
    (fun i _ => 2 * m - (intOf i).toNat)
  case atStart => exact ⟨0, [], Nat.zero_le _, rfl, rfl, h0, hBs, hBn⟩
  case round =>
    obtain ⟨k, pre, hk, rfl, hpre, hJs, hcs, hcn⟩ := hrel
    have hpl : pre.length = k := by have := congrArg List.length hpre; rwa [List.length_map, List.length_range] at this
    by_cases hlt : k < m
    · have b1 : decide (((2 * k : Nat) : Int) < ((2 * m : Nat) : Int)) = true := decide_eq_true (by omega)
      gi_wp2
      gi_quiet (fail)
      obtain ⟨fn, tmps, assign, body, hy, hR⟩ := hY pre ⟨k, hlt⟩ (wr.drewN nq) (hJ _ _ _ hJs) (by rw [hpl]; exact hlt)
      dsimp only [pr] at hy
      have hcs' : (wr.drewN nq).cell? ⟨Bs, 0, none⟩ = some (.slice (some ad) (2 * m) cap) := hcs
      have hcn' : (wr.drewN nq).cell? ⟨Bn, 0, none⟩ = some (.int .i64 2) := hcn
      gi_wp2
      refine hR.mono ?_
      rintro e W3 (⟨rfl, hJ3, hk3⟩ | ⟨rfl, hJx3⟩)
      · have hcn3 : W3.cell? ⟨Bn, 0, none⟩ = some (.int .i64 2) := (hKn _ _ hk3).trans hcn'
        have hcs3 : W3.cell? ⟨Bs, 0, none⟩ = some (.slice (some ad) (2 * m) cap) := (hKs _ _ hk3).trans hcs'
        gi_wp2
        go_roundw
        case rel => exact ⟨k + 1, pre ++ [⟨k, hlt⟩], by omega, by simp; omega, by rw [List.range_succ, List.map_append, hpre]; rfl, hJ3, hcs3, hcn3⟩
        case measure => simp [intOf]; omega
      · gi_wp2
        refine bodyPost_ret (results_none rfl _ _ _) rfl ?_
        exact ⟨⟨_, rfl⟩, .inr ⟨_, ⟨k + 1, by omega, by rw [List.range_succ, List.map_append, hpre]; rfl⟩, hJx3⟩⟩
    · obtain rfl : k = m := by omega
      have b1 : decide (((2 * k : Nat) : Int) < ((2 * k : Nat) : Int)) = false := decide_eq_false (by omega)
      gi_wp2
      go_end0
      exact ⟨⟨_, rfl⟩, .inl ⟨pre, hpre, hJs⟩⟩
/-- What a round that goes on keeps: whatever lay, but the one box S. -/
structure KpC (N S : Nat) (W W' : World) : Prop where
  size : W.heap.size ≤ W'.heap.size
  same : ∀ i, i < N → i ≠ S → W'.heap[i]? = W.heap[i]?
theorem KpC.trans {N S : Nat} {A B C : World} (h : KpC N S A B) (k : KpC N S B C) : KpC N S A C := ⟨Nat.le_trans h.size k.size, fun i hi hs => (k.same i hi hs).trans (h.same i hi hs)⟩
theorem KpC.put {N S : Nat} (W : World) (l : Nat) (o o' : Obj) (hl : N ≤ l) : KpC N S W (W.putObj l o') :=
  ⟨by have := (grownBy_putObj' W l o').size; exact this, fun i hi _ => World.putObj_heap_other (by omega)⟩
theorem KpC.cell {N S B : Nat} {W W' : World} (h : KpC N S W W') (hB : B < N) (hS : B ≠ S) : W'.cell? ⟨B, 0, none⟩ = W.cell? ⟨B, 0, none⟩ := by
  unfold World.cell?
  rw [h.same B hB hS]
theorem chunk_stops (n : Nat) (hn : 1 ≤ n) (Bs Bn N S : Nat) (ad : Addr) (m cap : Nat) (hreach : m ≤ 1000000) (hcap : 2 * m ≤ cap) (hBs0 : Bs < N) (hBn0 : Bn < N) (hBsS : Bs ≠ S) (hBnS : Bn ≠ S) (w : World) (hN : N ≤ w.heap.size)
    (hBs : w.cell? ⟨Bs, 0, none⟩ = some (.slice (some ad) (2 * m) cap)) (hBn : w.cell? ⟨Bn, 0, none⟩ = some (.int .i64 2)) :
    SeqStopsK Fence.wide n Try.prog 51 #[.pointer (some ⟨Bs, 0, none⟩), .pointer (some ⟨Bn, 0, none⟩)] (fun j : Fin m => #[pr ad j.1]) (KpC N S) (fun ys => ys.map (·.1) = List.range m) (fun pre => ∃ k, k ≤ m ∧ pre.map (·.1) = List.range k) m w := fun l J Jx W hW hJ _ hY h0 =>
  chunk1_in n hn l Bs Bn ad m cap hreach hcap J Jx (KpC N S) (fun pre W1 k h => hJ pre W1 _ none h ⟨rfl, rfl, rfl, Nat.le_refl _, fun _ _ _ => rfl⟩ (fun r e => by cases e)) (fun _ _ h => h.cell hBs0 hBsS) (fun _ _ h => h.cell hBn0 hBnS) hY W ((hW.cell (p := ⟨Bs, 0, none⟩) (by simp; omega)).trans hBs) ((hW.cell (p := ⟨Bn, 0, none⟩) (by simp; omega)).trans hBn) h0
/-- The first of each two, if each two are one. -/
def halves : List Int → Option (List Int)
  | a :: b :: r => if a = b then (halves r).map (a :: ·) else none
  | _ => some []
/-- What dir.Halve tells. -/
def dir_Halve.f (d : Int) (l : List Int) : Option (Int × List Int × Bool) :=
  (dir_Dir_may.f d l).bind fun t => if l.length < 17592186044416 then (if t = true then (if d = 0 then some (d, l, false) else match halves l with
    | some out => some (wrap64 (d - 1), out, true)
    | none => some (d, l, false)) else some (d, l, false)) else none
/-- The three boxes: the directory that came, the result, and whether it went. -/
structure B3 (W : World) (s : Nat) (d r : Array Value) (z : Value) : Prop where
  d : W.heap[s]? = some (.cells d 26 (0, 0))
  r : W.heap[s + 1]? = some (.cells r 26 (0, 0))
  z : W.heap[s + 1 + 1]? = some (.cells #[z] 4 (0, 0))
theorem B3.below {W W' : World} {s : Nat} {d r : Array Value} {z : Value} (h : B3 W s d r z) (hb : Below W.heap.size W W') : B3 W' s d r z := ⟨blk_below h.d hb, blk_below h.r hb, blk_below h.z hb⟩
theorem b3_new (w : World) (d r : Array Value) (z : Value) : B3 (((w.alloc (.cells d 26)).alloc (.cells r 26)).alloc (.cells #[z] 4)) w.heap.size d r z := by
  have h1 := blk_new w (.cells d 26)
  have h2 := blk_new (w.alloc (.cells d 26)) (.cells r 26)
  have h3 := blk_new ((w.alloc (.cells d 26)).alloc (.cells r 26)) (.cells #[z] 4)
  rw [World.size_alloc] at h2 h3
  rw [World.size_alloc] at h3
  exact ⟨blk_alloc (blk_alloc h1 _) _, blk_alloc h2 _, h3⟩
theorem B3.store {W : World} {s : Nat} {d r : Array Value} {z : Value} (h : B3 W s d r z) {a b : Value} (hr : (r.setIfInBounds 0 a).setIfInBounds 1 b = #[a, b]) (z' : Value) :
    B3 (((W.setCell ⟨s + 1, 0, none⟩ a).setCell ⟨s + 1, 1, none⟩ b).setCell ⟨s + 1 + 1, 0, none⟩ z') s d #[a, b] z' := by
  refine ⟨?_, ?_, ?_⟩
  · exact blk_far (blk_far (blk_far h.d (by show s ≠ s + 1; omega) a) (by show s ≠ s + 1; omega) b) (by show s ≠ s + 1 + 1; omega) z'
  · exact blk_far (blk_put (blk_set h.r 0 a) 1 b hr) (by show s + 1 ≠ s + 1 + 1; omega) z'
  · exact blk_put (blk_far (blk_far h.z (by show s + 1 + 1 ≠ s + 1; omega) a) (by show s + 1 + 1 ≠ s + 1; omega) b) 0 z' rfl
theorem results24 {W : World} {s : Nat} {d : Array Value} {a : Int} {A : Option Addr} {n c : Nat} {z : Bool} {tmps : Array Value} (h : B3 W s d #[.int .i64 a, .slice A n c] (.bool z)) (h2 : tmps[2]? = some (.pointer (some ⟨s + 1, 0, none⟩))) (h3 : tmps[3]? = some (.pointer (some ⟨s + 1 + 1, 0, none⟩))) :
    (results Try.f24 tmps).run Try.prog W = .ok (.tuple #[.agg #[.int .i64 a, .slice A n c], .bool z]) W := by
  have d0 := (blk_cell h.r 0).trans rfl
  have d1 := (blk_cell h.r 1).trans rfl
  have d2 := (blk_cell h.z 0).trans rfl
  have hu26 := Try.underlying26
  simp [results, Try.f24, go_sem, h2, h3, d0, d1, d2]
theorem ret24 {n : Nat} {R : Ending → World → Prop} {W : World} {s : Nat} {d : Array Value} {a : Int} {A : Option Addr} {m c : Nat} {z : Bool} {tmps : Array Value} (h : B3 W s d #[.int .i64 a, .slice A m c] (.bool z)) (h2 : tmps[2]? = some (.pointer (some ⟨s + 1, 0, none⟩))) (h3 : tmps[3]? = some (.pointer (some ⟨s + 1 + 1, 0, none⟩)))
    (hR : R (.returned (.tuple #[.agg #[.int .i64 a, .slice A m c], .bool z])) W) : bodyPostM Fence.wide n Try.prog Try.f24 R .ret { tmps := tmps, defers := [] } W := ⟨_, results24 h h2 h3, hR⟩
theorem B3.keep {W : World} {s : Nat} {d r : Array Value} {z : Value} (h : B3 W s d r z) {base : Nat} {ok : Nat → Prop} {v : Value} {xs : List Int} (ho : Kd.R (Kd.int .i64) 3 W base ok v xs) (a b z' : Value) :
    Kd.R (Kd.int .i64) 3 (((W.setCell ⟨s + 1, 0, none⟩ a).setCell ⟨s + 1, 1, none⟩ b).setCell ⟨s + 1 + 1, 0, none⟩ z') base ok v xs := by
  have t26 : ∀ q, q ∈ 3 :: (Kd.int .i64).E → q ≠ 26 := by intro q hq; rcases List.mem_cons.mp hq with rfl | hq; decide; cases hq
  have t4 : ∀ q, q ∈ 3 :: (Kd.int .i64).E → q ≠ 4 := by intro q hq; rcases List.mem_cons.mp hq with rfl | hq; decide; cases hq
  have h1 := Kd.R_set ho h.r t26 0 a
  have h2 := Kd.R_set h1 (blk_set h.r 0 a) t26 1 b
  exact Kd.R_set h2 (blk_far (blk_far h.z (by show s + 1 + 1 ≠ s + 1; omega) a) (by show s + 1 + 1 ≠ s + 1; omega) b) t4 0 z'
theorem B3.under {w W : World} {s : Nat} (hb : Below w.heap.size w W) (hs : w.heap.size ≤ s) (a b z' : Value) : Below w.heap.size w (((W.setCell ⟨s + 1, 0, none⟩ a).setCell ⟨s + 1, 1, none⟩ b).setCell ⟨s + 1 + 1, 0, none⟩ z') :=
  below_set (below_set (below_set hb (by omega)) (by omega)) (by omega)
set_option maxRecDepth 100000 in
set_option maxHeartbeats 2000000 in
/-- Where nothing is halved: a copy. -/
theorem halve_no (a0_0 : Int) (A0_1 : Option Addr) (c0_1 : Nat) (l0_1 : List Int) (b : Bool) (w : World) (hr0_1 : Kd.C (Kd.int .i64) w A0_1 l0_1.length l0_1) (hc0_1 : l0_1.length ≤ c0_1) (hm : dir_Dir_may.f a0_0 l0_1 = some b) (hl : l0_1.length < 17592186044416) (hno : b = false ∨ a0_0 = 0) :
    Calls Try.prog 24 #[.agg #[.int .i64 a0_0, .slice A0_1 l0_1.length c0_1]] w fun e w' => ∃ v1_ : Value, e = .returned (.tuple #[.agg #[.int .i64 a0_0, v1_], .bool false]) ∧ Kd.R (Kd.int .i64) 3 w' w.heap.size (fun _ => True) v1_ l0_1 ∧ Below w.heap.size w w' := by
  have hu26 := Try.underlying26
  have hown : dir_own.f a0_0 l0_1 = some (a0_0, l0_1) := by
    unfold dir_own.f slices_Clone_int_int.f
    rw [if_pos hl]
    rfl
  refine (callsIn_wide (n := 8)).1 ?_
  refine callsIn_of_wp_marks Try.func24 rfl trivial ?_ rfl
  simp only [Try.ntmps24, List.size_toArray, List.length_cons, List.length_nil, Nat.reduceAdd, Nat.reduceSub, Array.replicate_succ, Array.replicate_zero, List.push_toArray, List.append_toArray, List.nil_append, List.cons_append]
  gi_wp2_with fail
  refine ⟨trivial, ?_⟩
  have hB3 := b3_new w #[.int .i64 a0_0, .slice A0_1 l0_1.length c0_1] #[.int .i64 0, .slice none 0 0] (.bool false)
  have hb3 := below_alloc (below_alloc (below_alloc (Below.refl w.heap.size w) (.cells #[.int .i64 a0_0, .slice A0_1 l0_1.length c0_1] 26)) (.cells #[.int .i64 0, .slice none 0 0] 26)) (.cells #[.bool false] 4)
  generalize (((w.alloc (.cells #[.int .i64 a0_0, .slice A0_1 l0_1.length c0_1] 26)).alloc (.cells #[.int .i64 0, .slice none 0 0] 26)).alloc (.cells #[.bool false] 4)) = W3 at hB3 hb3 ⊢
  refine (callsIn_wide.2 (dir_Dir_may.calls a0_0 _ _ l0_1 b _ (Kd.C_below hr0_1 hb3) hc0_1 hm)).mono ?_
  rintro e W4 ⟨rfl, hb4'⟩
  have hB4 := hB3.below hb4'
  have hb4 := below_step hb3 hb4'
  have c0 := (blk_cell hB4.d 0).trans rfl
  have c1 := (blk_cell hB4.d 1).trans rfl
  clear hB3 hb3 hb4' hm
  rcases hno with rfl | rfl
  · gi_wp2_with fail
    refine ⟨trivial, ?_⟩
    refine (callsIn_wide.2 (dir_own.calls a0_0 _ _ l0_1 a0_0 l0_1 _ (Kd.C_below hr0_1 hb4) hc0_1 hown)).mono ?_
    rintro e W5 ⟨v1, rfl, ho5, hb5'⟩
    have hB5 := hB4.below hb5'
    have hb5 := below_step hb4 hb5'
    have ho := Kd.R_lower ho5 hb4.size
    obtain ⟨A1, c1', e1⟩ := Kd.R_slice ho
    subst e1
    have d0 := (blk_cell hB5.r 0).trans rfl
    have d1 := (blk_cell hB5.r 1).trans rfl
    have d2 := (blk_cell hB5.z 0).trans rfl
    have f0 := blk_frozen hB5.r 0
    have f1 := blk_frozen hB5.r 1
    have f2 := blk_frozen hB5.z 0
    clear ho5 hb5' hb4 hB4 c0 c1 hr0_1 hown
    gi_wp2
    exact ret24 (hB5.store rfl _) rfl rfl ⟨_, rfl, hB5.keep ho _ _ _, B3.under hb5 (Nat.le_refl _) _ _ _⟩
  · cases b
    · gi_wp2_with fail
      refine ⟨trivial, ?_⟩
      refine (callsIn_wide.2 (dir_own.calls 0 _ _ l0_1 0 l0_1 _ (Kd.C_below hr0_1 hb4) hc0_1 hown)).mono ?_
      rintro e W5 ⟨v1, rfl, ho5, hb5'⟩
      have hB5 := hB4.below hb5'
      have hb5 := below_step hb4 hb5'
      have ho := Kd.R_lower ho5 hb4.size
      obtain ⟨A1, c1', e1⟩ := Kd.R_slice ho
      subst e1
      have d0 := (blk_cell hB5.r 0).trans rfl
      have d1 := (blk_cell hB5.r 1).trans rfl
      have d2 := (blk_cell hB5.z 0).trans rfl
      have f0 := blk_frozen hB5.r 0
      have f1 := blk_frozen hB5.r 1
      have f2 := blk_frozen hB5.z 0
      clear ho5 hb5' hb4 hB4 c0 c1 hr0_1 hown
      gi_wp2
      exact ret24 (hB5.store rfl _) rfl rfl ⟨_, rfl, hB5.keep ho _ _ _, B3.under hb5 (Nat.le_refl _) _ _ _⟩
    · have g0 : W4.cell? ⟨w.heap.size, 0, none⟩ = some (.int .i64 0) := c0
      gi_wp2_with fail
      refine ⟨trivial, ?_⟩
      refine (callsIn_wide.2 (dir_own.calls 0 _ _ l0_1 0 l0_1 _ (Kd.C_below hr0_1 hb4) hc0_1 hown)).mono ?_
      rintro e W5 ⟨v1, rfl, ho5, hb5'⟩
      have hB5 := hB4.below hb5'
      have hb5 := below_step hb4 hb5'
      have ho := Kd.R_lower ho5 hb4.size
      obtain ⟨A1, c1', e1⟩ := Kd.R_slice ho
      subst e1
      have d0 := (blk_cell hB5.r 0).trans rfl
      have d1 := (blk_cell hB5.r 1).trans rfl
      have d2 := (blk_cell hB5.z 0).trans rfl
      have f0 := blk_frozen hB5.r 0
      have f1 := blk_frozen hB5.r 1
      have f2 := blk_frozen hB5.z 0
      clear ho5 hb5' hb4 hB4 c0 c1 hr0_1 hown
      gi_wp2
      exact ret24 (hB5.store rfl _) rfl rfl ⟨_, rfl, hB5.keep ho _ _ _, B3.under hb5 (Nat.le_refl _) _ _ _⟩
/-- What was gathered. -/
def firsts (l : List Int) {m : Nat} (pre : List (Fin m)) : List Int := pre.map fun j => rd l ((2 * j.1 : Nat) : Int)
theorem size_own {β : Type} (N : Nat) : Own (fun (_ : β) W => N ≤ W.heap.size) := fun _ _ _ _ h hg _ => Nat.le_trans h hg.size
theorem B3.kp {N S : Nat} {W W' : World} {s : Nat} {d r : Array Value} {z : Value} (h : B3 W s d r z) (hk : KpC N S W W') (h1 : s + 2 < S) (h2 : S < N) : B3 W' s d r z :=
  ⟨(hk.same s (by omega) (by omega)).trans h.d, (hk.same (s + 1) (by omega) (by omega)).trans h.r, (hk.same (s + 1 + 1) (by omega) (by omega)).trans h.z⟩
/-- One more is gathered. -/
theorem app (V : World) (N S : Nat) (v : Value) (k : Nat) (xs : List Value) (p : Int) (hv : Boxed V S 22 v) (hrow : V.ownsRow N 3 1 v k xs) (hN : N ≤ V.heap.size) (hS : S < N) (hk : k ≤ 1000000) :
    ∃ v' w1, (Builtin.append_ #[22, 22] 22 #[v, .slice (some ⟨V.heap.size, 0, none⟩) 1 1]).run Try.prog (V.alloc (.cells #[.int .i64 p] 3)) = .ok v' w1 ∧ (∃ g c, v' = .slice (some ⟨g, 0, none⟩) (k + 1) c) ∧ w1.cell? ⟨S, 0, none⟩ = some v ∧ w1.frozen? ⟨S, 0, none⟩ = false ∧
      Boxed (w1.setCell ⟨S, 0, none⟩ v') S 22 v' ∧ (w1.setCell ⟨S, 0, none⟩ v').ownsRow N 3 1 v' (k + 1) (xs ++ [.int .i64 p]) ∧ KeepsOthers V (w1.setCell ⟨S, 0, none⟩ v') ∧ KpC N S V (w1.setCell ⟨S, 0, none⟩ v') ∧
      (∀ (w : World), w.heap.size ≤ S → Below w.heap.size w V → Below w.heap.size w (w1.setCell ⟨S, 0, none⟩ v')) := by
  obtain ⟨i0, hi, hz0, hz1, hz2⟩ := info_parts infoI64
  have hsz := World.size_alloc V (.cells #[.int .i64 p] 3)
  obtain ⟨v', w1, hrun, hown', hgrow, _⟩ := run_append_own (P := Try.prog) (V.alloc (.cells #[.int .i64 p] 3)) N 22 22 3 i0 (.int .i64 0) 1 8 Try.underlying22 hi hz0 hz1 hz2 rfl (by decide) v k xs (hrow.alloc _) ⟨V.heap.size, 0, none⟩ 1 1 [.int .i64 p] rfl (cell_one_new _ _ _) (by simp [Value.oneCell']) (by unfold maxLen; omega) (by omega) (by omega)
  have hlow : ∀ j, v.ownBlock = some j → N ≤ j := fun j hj => (hrow.lt j hj).1
  have hne : some S ≠ v.ownBlock := fun e => by have := hlow S e.symm; omega
  have hv1 : Boxed w1 S 22 v := (hv.alloc _).kept hgrow hne
  have hne' : v'.ownBlock ≠ some S := fun e => by have := (hown'.lt S e).1; omega
  obtain ⟨g', cap', hvv⟩ := ownsRow_succ hown'
  refine ⟨v', w1, hrun, ⟨g', cap', hvv⟩, hv1.cell, hv1.frozen, hv1.set v', hown'.kept (grownBy_setCell' w1 S v') (.inr hne'), ?_, ?_, ?_⟩
  · refine ((KeepsOthers.alloc V _).trans (KeepsOthers.of_grownBy hgrow fun j o ej hj => ?_)).trans (KeepsOthers.setCell _ _ _)
    rcases (hrow.alloc (.cells #[.int .i64 p] 3)).2 with ⟨rfl, _⟩ | ⟨g, cap, cur, rfl, _, hgb, _⟩
    · simp [Value.ownBlock] at ej
    · obtain rfl : g = j := by simpa [Value.ownBlock] using ej
      rw [hgb] at hj; cases hj; rfl
  · refine ⟨?_, fun i hi hs => ?_⟩
    · have := hgrow.size
      have h2 : (w1.setCell ⟨S, 0, none⟩ v').heap.size = w1.heap.size := by simp
      omega
    · rw [Below.heap_setCell w1 ⟨S, 0, none⟩ v' i hs, hgrow.block i (by omega) (fun e => by have := hlow i e.symm; omega)]
      exact Below.heap_alloc V _ i (by omega)
  · intro w hw hb
    exact below_set ((below_alloc hb _).grown hgrow (by have := hb.size; omega) (fun j hj => by have := hlow j hj; omega)) hw
theorem own_R {β : Type} (e base : Nat) (ok : Nat → Prop) (xs : List Int) (p : β → Value → World → Prop) (hp : ∀ v, Own (fun s W => p s v W)) : Own (fun (s : β) W => ∃ v, p s v W ∧ Kd.R (Kd.int .i64) e W base ok v xs) := by
  rintro s X Y row ⟨v, h1, h2⟩ hg hrow
  refine ⟨v, hp v s X Y row h1 hg hrow, Kd.R_grown2 h2 rfl hg ?_⟩
  intro k hk he
  obtain ⟨o, ho, hc⟩ := hrow k hk
  obtain ⟨_, _, _, q, hq, cells, hcell⟩ := (Kd.R_bound h2).1 k he.symm
  rw [hcell] at ho
  cases ho
  cases hc
theorem b3_own {β : Type} (s0 : Nat) (d r : Array Value) (z : Value) : Own (fun (_ : β) W => B3 W s0 d r z) := by
  rintro s X Y row h hg hrow
  have hne : ∀ (g : Nat) (cs : Array Value) (t : TypeId), X.heap[g]? = some (.cells cs t (0, 0)) → some g ≠ row := by
    intro g cs t hcell e
    obtain ⟨o, ho, hc⟩ := hrow g e.symm
    rw [hcell] at ho
    cases ho
    cases hc
  exact ⟨blk_grown h.d hg (hne _ _ _ h.d), blk_grown h.r hg (hne _ _ _ h.r), blk_grown h.z hg (hne _ _ _ h.z)⟩
theorem ret24D {n base D m c s : Nat} {R : Ending → World → Prop} {w W : World} {d : Array Value} {a : Int} {A : Option Addr} {z : Bool} {tmps : Array Value} {xs : List Int} (h : B3 W s d #[.int .i64 a, .slice A m c] (.bool z)) (hD : W.heap[D]? = some (.deferred (some []))) (hDs : w.heap.size ≤ D)
    (hb : Below w.heap.size w W) (ho : Kd.R (Kd.int .i64) 3 W base (fun _ => True) (.slice A m c) xs) (h2 : tmps[2]? = some (.pointer (some ⟨s + 1, 0, none⟩))) (h3 : tmps[3]? = some (.pointer (some ⟨s + 1 + 1, 0, none⟩)))
    (hR : ∀ W', Kd.R (Kd.int .i64) 3 W' base (fun _ => True) (.slice A m c) xs → Below w.heap.size w W' → R (.returned (.tuple #[.agg #[.int .i64 a, .slice A m c], .bool z])) W') :
    bodyPostM Fence.wide n Try.prog Try.f24 R .ret { tmps := tmps, defers := [{ target := .collected D, args := #[] }] } W := by
  have hg := grownBy_putObj' W D (.deferred none)
  have hrow : ∀ r, some D = some r → ∃ o : Obj, W.heap[r]? = some o ∧ o.isCells = false := fun r e => by cases e; exact ⟨_, hD, rfl⟩
  have h' := b3_own s d #[.int .i64 a, .slice A m c] (.bool z) () W _ (some D) h hg hrow
  have ho' : Kd.R (Kd.int .i64) 3 (W.putObj D (.deferred none)) base (fun _ => True) (.slice A m c) xs := by
    obtain ⟨v, e, h⟩ := own_R 3 base (fun _ => True) xs (fun (_ : Unit) v _ => v = .slice A m c) (fun v => fun _ _ _ _ h _ _ => h) () W _ (some D) ⟨_, rfl, ho⟩ hg hrow
    exact e ▸ h
  have hb' : Below w.heap.size w (W.putObj D (.deferred none)) := hb.grown hg hb.size (fun k e => by cases e; exact hDs)
  exact ⟨by simp, .inl ⟨_, _, rfl, run_takeDeferred hD, ⟨_, results24 h' h2 h3, hR _ ho' hb'⟩⟩⟩
theorem others_below {W W' : World} (h : Below W.heap.size W W') : KeepsOthers W W' := ⟨h.size, fun k o hk _ => (h.block k (blk_lt hk)).trans hk⟩
theorem addr_add (ad : Addr) (a b : Nat) : (ad.add a).add b = ad.add (a + b) := by
  unfold Addr.add
  by_cases ha : a = 0
  · subst ha; simp
  · by_cases hb : b = 0
    · subst hb; simp
    · simp [ha, hb]; omega
theorem W5_new (W : World) (v : Value) : Boxed (((W.alloc (.cells #[.slice none 0 0] 22)).alloc (.cells #[v] 22)).alloc (.cells #[.int .i64 2] 3)) W.heap.size 22 (.slice none 0 0) ∧
    (((W.alloc (.cells #[.slice none 0 0] 22)).alloc (.cells #[v] 22)).alloc (.cells #[.int .i64 2] 3)).cell? ⟨W.heap.size + 1, 0, none⟩ = some v ∧
    (((W.alloc (.cells #[.slice none 0 0] 22)).alloc (.cells #[v] 22)).alloc (.cells #[.int .i64 2] 3)).cell? ⟨W.heap.size + 1 + 1, 0, none⟩ = some (.int .i64 2) ∧
    (((W.alloc (.cells #[.slice none 0 0] 22)).alloc (.cells #[v] 22)).alloc (.cells #[.int .i64 2] 3)).heap.size = W.heap.size + 3 := by
  have h1 := blk_new W (.cells #[.slice none 0 0] 22)
  have h2 := blk_new (W.alloc (.cells #[.slice none 0 0] 22)) (.cells #[v] 22)
  have h3 := blk_new ((W.alloc (.cells #[.slice none 0 0] 22)).alloc (.cells #[v] 22)) (.cells #[.int .i64 2] 3)
  rw [World.size_alloc] at h2 h3
  rw [World.size_alloc] at h3
  refine ⟨blk_alloc (blk_alloc h1 _) _, ?_, ?_, by simp⟩
  · exact (blk_cell (blk_alloc h2 _) 0).trans rfl
  · exact (blk_cell h3 0).trans rfl
set_option maxRecDepth 100000 in
set_option maxHeartbeats 4000000 in
theorem halve_go (a0_0 : Int) (ad : Addr) (c0_1 : Nat) (l0_1 : List Int) (m : Nat) (w : World) (hr0_1 : Kd.C (Kd.int .i64) w (some ad) l0_1.length l0_1) (hc0_1 : l0_1.length ≤ c0_1) (hm : dir_Dir_may.f a0_0 l0_1 = some true) (hl : l0_1.length = 2 * m) (hmm : m ≤ 1000000) (h0 : a0_0 ≠ 0) :
    Calls Try.prog 24 #[.agg #[.int .i64 a0_0, .slice (some ad) l0_1.length c0_1]] w fun e w' => (∃ v1_ : Value, e = .returned (.tuple #[.agg #[.int .i64 (wrap64 (a0_0 - 1)), v1_], .bool true]) ∧ (∀ j, j < m → rd l0_1 ((2 * j : Nat) : Int) = rd l0_1 ((2 * j + 1 : Nat) : Int)) ∧ Kd.R (Kd.int .i64) 3 w' w.heap.size (fun _ => True) v1_ ((List.range m).map fun j => rd l0_1 ((2 * j : Nat) : Int)) ∧ Below w.heap.size w w') ∨
      (∃ v1_ : Value, e = .returned (.tuple #[.agg #[.int .i64 a0_0, v1_], .bool false]) ∧ (∃ j, j < m ∧ rd l0_1 ((2 * j : Nat) : Int) ≠ rd l0_1 ((2 * j + 1 : Nat) : Int)) ∧ Kd.R (Kd.int .i64) 3 w' w.heap.size (fun _ => True) v1_ l0_1 ∧ Below w.heap.size w w') := by
  have hu26 := Try.underlying26
  have hown : dir_own.f a0_0 l0_1 = some (a0_0, l0_1) := by
    unfold dir_own.f slices_Clone_int_int.f
    rw [if_pos (by omega)]
    rfl
  have b0 : (a0_0 == 0) = false := by simpa using h0
  have HL := Aside0.mk hl
  clear hl
  obtain ⟨i0, hi, hz0, hz1, hz2⟩ := info_parts infoI64
  refine (callsIn_wide (n := 8)).1 ?_
  refine callsIn_of_wp_marks Try.func24 rfl trivial ?_ rfl
  simp only [Try.ntmps24, List.size_toArray, List.length_cons, List.length_nil, Nat.reduceAdd, Nat.reduceSub, Array.replicate_succ, Array.replicate_zero, List.push_toArray, List.append_toArray, List.nil_append, List.cons_append]
  gi_wp2_with fail
  refine ⟨trivial, ?_⟩
  have hB3 := b3_new w #[.int .i64 a0_0, .slice (some ad) l0_1.length c0_1] #[.int .i64 0, .slice none 0 0] (.bool false)
  have hb3 := below_alloc (below_alloc (below_alloc (Below.refl w.heap.size w) (.cells #[.int .i64 a0_0, .slice (some ad) l0_1.length c0_1] 26)) (.cells #[.int .i64 0, .slice none 0 0] 26)) (.cells #[.bool false] 4)
  generalize (((w.alloc (.cells #[.int .i64 a0_0, .slice (some ad) l0_1.length c0_1] 26)).alloc (.cells #[.int .i64 0, .slice none 0 0] 26)).alloc (.cells #[.bool false] 4)) = W3 at hB3 hb3 ⊢
  refine (callsIn_wide.2 (dir_Dir_may.calls a0_0 _ _ l0_1 true _ (Kd.C_below hr0_1 hb3) hc0_1 hm)).mono ?_
  rintro e W4 ⟨rfl, hb4'⟩
  have hB4 := hB3.below hb4'
  have hb4 := below_step hb3 hb4'
  have c0 := (blk_cell hB4.d 0).trans rfl
  have c1 := (blk_cell hB4.d 1).trans rfl
  have c1' : (W4.alloc (.cells #[.slice none 0 0] 22)).cell? ⟨w.heap.size, 1, none⟩ = some (.slice (some ad) l0_1.length c0_1) := (blk_cell (blk_alloc hB4.d _) 1).trans rfl
  clear hB3 hb3 hb4' hm
  gi_wp2_with fail
  refine ⟨trivial, ?_⟩
  refine (chunk_in Fence.wide _ trivial rfl _ _ _ _).mono ?_
  rintro e W5 ⟨rfl, rfl⟩
  gi_wp2_with fail
  have hW := W5_new W4 (.slice (some ad) l0_1.length c0_1)
  have hb5 : Below w.heap.size w (((W4.alloc (.cells #[.slice none 0 0] 22)).alloc (.cells #[.slice (some ad) l0_1.length c0_1] 22)).alloc (.cells #[.int .i64 2] 3)) := below_alloc (below_alloc (below_alloc hb4 _) _) _
  have hB5 : B3 (((W4.alloc (.cells #[.slice none 0 0] 22)).alloc (.cells #[.slice (some ad) l0_1.length c0_1] 22)).alloc (.cells #[.int .i64 2] 3)) w.heap.size #[.int .i64 a0_0, .slice (some ad) l0_1.length c0_1] #[.int .i64 0, .slice none 0 0] (.bool false) := ⟨blk_alloc (blk_alloc (blk_alloc hB4.d _) _) _, blk_alloc (blk_alloc (blk_alloc hB4.r _) _) _, blk_alloc (blk_alloc (blk_alloc hB4.z _) _) _⟩
  have hs3 := blk_lt hB4.z
  generalize hW5 : (((W4.alloc (.cells #[.slice none 0 0] 22)).alloc (.cells #[.slice (some ad) l0_1.length c0_1] 22)).alloc (.cells #[.int .i64 2] 3)) = W5 at hW hb5 hB5 ⊢
  obtain ⟨hO, hS, hN, hsz⟩ := hW
  clear hW5 c0 c1 c1' hB4
  have hS' : W5.cell? ⟨W4.heap.size + 1, 0, none⟩ = some (.slice (some ad) (2 * m) c0_1) := HL.out ▸ hS
  refine wpIn_rangeFunc_ownG rfl (by omega) (gf := 51) (lb := #[.pointer (some ⟨W4.heap.size + 1, 0, none⟩), .pointer (some ⟨W4.heap.size + 1 + 1, 0, none⟩)]) rfl trivial (enters_of Try.func51 (by kernel_rfl) rfl)
    (chunk_stops 7 (by omega) (W4.heap.size + 1) (W4.heap.size + 1 + 1) W5.heap.size W4.heap.size ad m c0_1 hmm (by have := HL.out; omega) (by omega) (by omega) (by omega) (by omega) W5 (Nat.le_refl _) hS' hN) KpC.trans (fun W l o o' hl _ _ _ => KpC.put W l o o' hl) (Below.refl _ _) (fun _ => rfl)
    (fun pre W => ((((∃ v, Boxed W W4.heap.size 22 v ∧ W.ownsRow W5.heap.size 3 1 v (firsts l0_1 pre).length ((firsts l0_1 pre).map (Value.int .i64)) ∧ True) ∧ ∀ j ∈ pre, rd l0_1 ((2 * j.1 : Nat) : Int) = rd l0_1 ((2 * j.1 + 1 : Nat) : Int)) ∧ B3 W w.heap.size #[.int .i64 a0_0, .slice (some ad) l0_1.length c0_1] #[.int .i64 0, .slice none 0 0] (.bool false)) ∧ Below w.heap.size w W) ∧ W5.heap.size ≤ W.heap.size)
    (fun c pre W => ((c = .ret ∧ ∃ j ∈ pre, rd l0_1 ((2 * j.1 : Nat) : Int) ≠ rd l0_1 ((2 * j.1 + 1 : Nat) : Int)) ∧ ∃ v, (B3 W w.heap.size #[.int .i64 a0_0, .slice (some ad) l0_1.length c0_1] #[.int .i64 a0_0, v] (.bool false)) ∧ Kd.R (Kd.int .i64) 3 W w.heap.size (fun _ => True) v l0_1) ∧ Below w.heap.size w W)
    (OwnFrom.and (OwnFrom.and (OwnFrom.and (OwnFrom.and (Own.from (holdsRow_own W5.heap.size W4.heap.size 22 3 1 (fun pre => (firsts l0_1 pre).length) (fun pre => (firsts l0_1 pre).map (Value.int .i64)) (fun _ _ => True)) _) (ownFrom_pure _ _)) (Own.from (b3_own _ _ _ _) _)) (ownFrom_below (Nat.le_refl _) hb5.size)) (Own.from (size_own _) _))
    (fun c => OwnFrom.and (OwnFrom.and (ownFrom_pure _ _) (Own.from (own_R 3 w.heap.size (fun _ => True) l0_1 (fun _ v W => B3 W w.heap.size #[.int .i64 a0_0, .slice (some ad) l0_1.length c0_1] #[.int .i64 a0_0, v] (.bool false)) (fun v => b3_own _ _ _ _)) _)) (ownFrom_below (Nat.le_refl _) hb5.size))
    ⟨⟨⟨⟨⟨_, hO, World.ownsRow_nil _ _ _ _, trivial⟩, fun j hj => by cases hj⟩, hB5⟩, hb5⟩, Nat.le_refl _⟩
    (fun x => { tmps := #[.agg #[.int .i64 a0_0, .slice (some ad) l0_1.length c0_1], .pointer (some ⟨w.heap.size, 0, none⟩), .pointer (some ⟨w.heap.size + 1, 0, none⟩), .pointer (some ⟨w.heap.size + 1 + 1, 0, none⟩), .pointer (some ⟨W4.heap.size, 0, none⟩), pr ad x.1,
      .agg #[.int .i64 a0_0, .slice (some ad) l0_1.length c0_1], .bool true, .bool false, .bool false, .pointer (some ⟨w.heap.size, 0, none⟩), .int .i64 a0_0, .bool false, .bool false, undef, undef, .pointer (some ⟨w.heap.size, 1, none⟩), .slice (some ad) l0_1.length c0_1,
      .func (.func 51) #[] #[.pointer (some ⟨W4.heap.size + 1, 0, none⟩), .pointer (some ⟨W4.heap.size + 1 + 1, 0, none⟩)], pr ad x.1, undef, undef, undef, undef, undef, undef, undef, undef, undef, undef, undef, undef, undef, undef, undef, undef, undef, undef, undef, undef], defers := [] }) ?assign ?body ?done ?stop
  case assign =>
    intro l x W K hK
    gi_wp2
    exact hK
  case body =>
    rintro l pre x W ⟨⟨⟨⟨⟨v, hv, hrow, -⟩, heq⟩, hB⟩, hbW⟩, hNW⟩ hlt
    have hC := Kd.C_below hr0_1 hbW
    have hL := HL.out
    have hx := x.2
    obtain ⟨a1, e1, hx1⟩ := Kd.at_int hC ((2 * x.1 : Nat) : Int) (by omega) (by omega)
    obtain rfl : ad = a1 := by injection e1
    obtain ⟨a2, e2, hx2⟩ := Kd.at_int hC ((2 * x.1 + 1 : Nat) : Int) (by omega) (by omega)
    obtain rfl : ad = a2 := by injection e2
    rw [Int.toNat_natCast] at hx1 hx2
    clear e1 e2
    have hadd : (ad.add (2 * x.1)).add 1 = ad.add (2 * x.1 + 1) := addr_add _ _ _
    have hA : W.drew.cell? (ad.add (2 * x.1)) = some (.int .i64 (rd l0_1 ((2 * x.1 : Nat) : Int))) := hx1
    have hA1 : W.drew.cell? ((ad.add (2 * x.1)).add 1) = some (.int .i64 (rd l0_1 ((2 * x.1 + 1 : Nat) : Int))) := by rw [hadd]; exact hx2
    clear hx1 hx2 hL hadd
    dsimp only [pr]
    generalize ad.add (2 * x.1) = ap at hA hA1 ⊢
    obtain ⟨ab, ao, as_⟩ := ap
    have hA2 : W.drew.cell? ⟨ab, ao + 1, none⟩ = some (.int .i64 (rd l0_1 ((2 * x.1 + 1 : Nat) : Int))) := by rw [Addr.add_succ' _ 0] at hA1; exact hA1
    clear hA1
    have hpl : (firsts l0_1 pre).length = pre.length := by unfold firsts; rw [List.length_map]
    by_cases hpq : rd l0_1 ((2 * x.1 : Nat) : Int) = rd l0_1 ((2 * x.1 + 1 : Nat) : Int)
    · have bpq : (rd l0_1 ((2 * x.1 : Nat) : Int) != rd l0_1 ((2 * x.1 + 1 : Nat) : Int)) = false := bne_eq_false_iff_eq.mpr hpq
      obtain ⟨v', w1, hrun, ⟨g', cap', hvv⟩, hc1, hf1, hv2, hr2, hk2, hkp, hbl⟩ := app W.drew.drew W5.heap.size W4.heap.size v (firsts l0_1 pre).length _ (rd l0_1 ((2 * x.1 : Nat) : Int)) hv hrow hNW (by omega) (by omega)
      have hfin : KeepsFrom W5.heap.size W (w1.setCell ⟨W4.heap.size, 0, none⟩ v') ∧ KpC W5.heap.size W4.heap.size W (w1.setCell ⟨W4.heap.size, 0, none⟩ v') ∧
          (((((∃ v, Boxed (w1.setCell ⟨W4.heap.size, 0, none⟩ v') W4.heap.size 22 v ∧ (w1.setCell ⟨W4.heap.size, 0, none⟩ v').ownsRow W5.heap.size 3 1 v (firsts l0_1 (pre ++ [x])).length ((firsts l0_1 (pre ++ [x])).map (Value.int .i64)) ∧ True) ∧ ∀ j ∈ pre ++ [x], rd l0_1 ((2 * j.1 : Nat) : Int) = rd l0_1 ((2 * j.1 + 1 : Nat) : Int)) ∧ B3 (w1.setCell ⟨W4.heap.size, 0, none⟩ v') w.heap.size #[.int .i64 a0_0, .slice (some ad) l0_1.length c0_1] #[.int .i64 0, .slice none 0 0] (.bool false)) ∧ Below w.heap.size w (w1.setCell ⟨W4.heap.size, 0, none⟩ v')) ∧ W5.heap.size ≤ (w1.setCell ⟨W4.heap.size, 0, none⟩ v').heap.size) := by
        have e1 : firsts l0_1 (pre ++ [x]) = firsts l0_1 pre ++ [rd l0_1 ((2 * x.1 : Nat) : Int)] := by unfold firsts; rw [List.map_append]; rfl
        refine ⟨⟨hk2.size, fun k o _ h1 h2 => hk2.same k o h1 h2⟩, ⟨hkp.size, hkp.same⟩, ⟨⟨⟨⟨v', hv2, ?_, trivial⟩, ?_⟩, B3.kp hB ⟨hkp.size, hkp.same⟩ (by omega) (by omega)⟩, hbl w (by omega) (below_drew1 (below_drew1 hbW))⟩, Nat.le_trans hNW hkp.size⟩
        · rw [e1, List.length_append, List.map_append]
          exact hr2
        · intro j hj
          rcases List.mem_append.mp hj with h | h
          · exact heq j h
          · rw [List.mem_singleton] at h
            rw [h]; exact hpq
      subst hvv
      have HF := Aside0.mk hfin
      have hG8 : Reg8.Given W4.heap.size ⟨ab, ao, as_⟩ v g' ((firsts l0_1 pre).length + 1) cap' (rd l0_1 ((2 * x.1 : Nat) : Int)) W.drew.drew w1 := ⟨hv.cell, (Boxed.alloc (W := W.drew.drew) hv _).cell, hA, hrun, hc1, hf1⟩
      have HG := Aside0.mk hG8
      clear hfin hv2 hr2 hk2 hkp hbl hpq heq hB hv hrow hC hbW hG8 hrun hc1 hf1
      generalize rd l0_1 ((2 * x.1 : Nat) : Int) = p at *
      generalize rd l0_1 ((2 * x.1 + 1 : Nat) : Int) = q at *
      gi_wp2
      gi_region
      all_goals gi_wp2
      all_goals (refine Reg8.region8 (by kernel_rfl) HG.out rfl rfl rfl (fun f' => ?_))
      all_goals gi_wp2
      all_goals exact HF.out
    · have bpq : (rd l0_1 ((2 * x.1 : Nat) : Int) != rd l0_1 ((2 * x.1 + 1 : Nat) : Int)) = true := bne_iff_ne.mpr hpq
      have hex : ∃ j ∈ pre ++ [x], rd l0_1 ((2 * j.1 : Nat) : Int) ≠ rd l0_1 ((2 * j.1 + 1 : Nat) : Int) := ⟨x, List.mem_append.mpr (.inr (List.mem_singleton.mpr rfl)), hpq⟩
      have k0 : W.drew.cell? ⟨w.heap.size, 0, none⟩ = some (.int .i64 a0_0) := (blk_cell hB.d 0).trans rfl
      have k1 : W.drew.cell? ⟨w.heap.size, 1, none⟩ = some (.slice (some ad) l0_1.length c0_1) := (blk_cell hB.d 1).trans rfl
      have HE := Aside0.mk hex
      have HB := Aside0.mk hB
      have HbW := Aside0.mk hbW
      have HC := Aside0.mk hC
      clear hex hB hbW hC heq hv hrow hpl hpq
      generalize rd l0_1 ((2 * x.1 : Nat) : Int) = p at *
      generalize rd l0_1 ((2 * x.1 + 1 : Nat) : Int) = q at *
      gi_wp2
      gi_region
      all_goals gi_wp2_with fail
      all_goals (refine ⟨trivial, ?_⟩)
      all_goals (refine (CallsIn.inRound l (callsIn_wide.2 (dir_own.calls a0_0 _ _ l0_1 a0_0 l0_1 W.drew HC.out hc0_1 hown))).mono ?_)
      all_goals (rintro e W6 ⟨v1, rfl, ho5, hb6⟩)
      all_goals (have hB6 : B3 W6 w.heap.size #[.int .i64 a0_0, .slice (some ad) l0_1.length c0_1] #[.int .i64 0, .slice none 0 0] (.bool false) := B3.below (W := W.drew) ⟨HB.out.d, HB.out.r, HB.out.z⟩ hb6)
      all_goals (have ho := Kd.R_lower ho5 HbW.out.size)
      all_goals (have hb7 := below_step (below_drew1 HbW.out) hb6)
      all_goals (have hko : KeepsOthers W W6 := ⟨(others_below hb6).size, (others_below hb6).same⟩)
      all_goals (obtain ⟨A1, c1', e1⟩ := Kd.R_slice ho)
      all_goals (subst e1)
      all_goals (have d0 := (blk_cell hB6.r 0).trans rfl)
      all_goals (have d1 := (blk_cell hB6.r 1).trans rfl)
      all_goals (have d2 := (blk_cell hB6.z 0).trans rfl)
      all_goals (have f0 := blk_frozen hB6.r 0)
      all_goals (have f1 := blk_frozen hB6.r 1)
      all_goals (have f2 := blk_frozen hB6.z 0)
      all_goals clear ho5 hb6
      all_goals gi_wp2
      all_goals exact ⟨KeepsOthers.from (((hko.trans (KeepsOthers.setCell _ _ _)).trans (KeepsOthers.setCell _ _ _)).trans (KeepsOthers.setCell _ _ _)) _, ⟨⟨⟨rfl, HE.out⟩, _, hB6.store rfl _, hB6.keep ho _ _ _⟩, B3.under hb7 (Nat.le_refl _) _ _ _⟩⟩
  case done =>
    rintro D ys W hD hys ⟨⟨⟨⟨⟨v, hv, hrow, -⟩, heq⟩, hB⟩, hbW⟩, hNW⟩ hK
    have hfy : firsts l0_1 ys = (List.range m).map fun j => rd l0_1 ((2 * j : Nat) : Int) := by
      unfold firsts
      rw [← hys, List.map_map]
      rfl
    have hall : ∀ j, j < m → rd l0_1 ((2 * j : Nat) : Int) = rd l0_1 ((2 * j + 1 : Nat) : Int) := by
      intro j hj
      have : j ∈ ys.map (·.1) := by rw [hys]; exact List.mem_range.mpr hj
      obtain ⟨y, hy, rfl⟩ := List.mem_map.mp this
      exact heq y hy
    have ho : Kd.R (Kd.int .i64) 3 W w.heap.size (fun _ => True) v (firsts l0_1 ys) := Kd.R_lower (Kd.R_of_own hrow (fun _ _ => trivial)) (by have := hb5.size; exact this)
    obtain ⟨A1, c1', e1⟩ := Kd.R_slice ho
    subst e1
    have k0 := (blk_cell hB.d 0).trans rfl
    have d0 := (blk_cell hB.r 0).trans rfl
    have d1 := (blk_cell hB.r 1).trans rfl
    have d2 := (blk_cell hB.z 0).trans rfl
    have f0 := blk_frozen hB.r 0
    have f1 := blk_frozen hB.r 1
    have f2 := blk_frozen hB.z 0
    have o0 := hv.cell
    have HK := Aside0.mk hK
    have HALL := Aside0.mk hall
    have HFY := Aside0.mk hfy
    clear hK hall hys heq hfy
    gi_wp2
    have hK2 := (((KeepsOthers.setCell W ⟨w.heap.size + 1, 0, none⟩ (.int .i64 (wrap64 (a0_0 - 1)))).trans (KeepsOthers.setCell _ ⟨w.heap.size + 1, 1, none⟩ (.slice A1 (firsts l0_1 ys).length c1'))).trans (KeepsOthers.setCell _ ⟨w.heap.size + 1 + 1, 0, none⟩ (.bool true))).same D _ HK.out rfl
    refine ret24D (w := w) (hB.store rfl _) hK2 (by have := hb5.size; omega) (B3.under hbW (Nat.le_refl _) _ _ _) (hB.keep ho _ _ _) rfl rfl (fun W' h1 h2 => .inl ⟨_, rfl, HALL.out, by rw [← HFY.out]; exact h1, h2⟩)
  case stop =>
    rintro D c pre W hD ⟨k, hk, hpre⟩ ⟨⟨⟨rfl, j, hj, hne⟩, v, hB, ho⟩, hbW⟩ hK
    obtain ⟨A1, c1', e1⟩ := Kd.R_slice ho
    subst e1
    have HK := Aside0.mk hK
    clear hK
    gi_wp2
    refine ret24D (w := w) hB HK.out (by have := hb5.size; omega) hbW ho rfl rfl (fun W' h1 h2 => .inr ⟨_, rfl, ⟨j.1, j.2, hne⟩, h1, h2⟩)
/-! ### what it computes -/
theorem halves_is : ∀ (m : Nat) (l : List Int), l.length = 2 * m → (∀ j, j < m → rd l ((2 * j : Nat) : Int) = rd l ((2 * j + 1 : Nat) : Int)) → halves l = some ((List.range m).map fun j => rd l ((2 * j : Nat) : Int))
  | 0, l, h, _ => by
    have : l = [] := List.length_eq_zero_iff.mp (by omega)
    subst this
    rfl
  | m + 1, a :: b :: r, h, hp => by
    have h0 := hp 0 (by omega)
    have hab : a = b := h0
    have hr : ∀ j, j < m → rd r ((2 * j : Nat) : Int) = rd r ((2 * j + 1 : Nat) : Int) := fun j hj => hp (j + 1) (by omega)
    rw [halves, if_pos hab, halves_is m r (by simp at h; omega) hr, List.range_succ_eq_map, List.map_cons, List.map_map]
    rfl
  | m + 1, [], h, _ => by simp at h
  | m + 1, [_], h, _ => by simp at h; omega
theorem halves_no : ∀ (m : Nat) (l : List Int), l.length = 2 * m → (∃ j, j < m ∧ rd l ((2 * j : Nat) : Int) ≠ rd l ((2 * j + 1 : Nat) : Int)) → halves l = none
  | 0, l, h, ⟨j, hj, _⟩ => by omega
  | m + 1, a :: b :: r, h, ⟨j, hj, hne⟩ => by
    rw [halves]
    by_cases hab : a = b
    · rw [if_pos hab]
      match j with
      | 0 => exact absurd hab hne
      | j + 1 => rw [halves_no m r (by simp at h; omega) ⟨j, by omega, hne⟩]; rfl
    · rw [if_neg hab]
  | m + 1, [], h, _ => by simp at h
  | m + 1, [_], h, _ => by simp at h; omega
theorem dir_Halve.calls (a0_0 : Int) (A0_1 : Option Addr) (c0_1 : Nat) (l0_1 : List Int) (r1 : Int) (r2 : List Int) (r3 : Bool) (w : World) (hr0_1 : Kd.C (Kd.int .i64) w A0_1 l0_1.length l0_1) (hc0_1 : l0_1.length ≤ c0_1) (h : dir_Halve.f a0_0 l0_1 = some (r1, r2, r3)) :
    Calls Try.prog 24 #[.agg #[.int .i64 a0_0, .slice A0_1 l0_1.length c0_1]] w fun e w' => ∃ v1_ : Value, e = .returned (.tuple #[.agg #[.int .i64 r1, v1_], .bool r3]) ∧ Kd.R (Kd.int .i64) 3 w' w.heap.size (fun _ => True) v1_ r2 ∧ Below w.heap.size w w' := by
  unfold dir_Halve.f at h
  obtain ⟨t, ht, h⟩ := Option.bind_eq_some_iff.mp h
  by_cases hl : l0_1.length < 17592186044416
  · rw [if_pos hl] at h
    cases t with
    | false =>
      rw [if_neg (by decide)] at h
      obtain ⟨rfl, rfl, rfl⟩ : a0_0 = r1 ∧ l0_1 = r2 ∧ false = r3 := by simpa using h
      exact halve_no a0_0 A0_1 c0_1 l0_1 false w hr0_1 hc0_1 ht hl (.inl rfl)
    | true =>
      rw [if_pos rfl] at h
      by_cases h0 : a0_0 = 0
      · rw [if_pos h0] at h
        obtain ⟨rfl, rfl, rfl⟩ : a0_0 = r1 ∧ l0_1 = r2 ∧ false = r3 := by simpa using h
        exact halve_no a0_0 A0_1 c0_1 l0_1 true w hr0_1 hc0_1 ht hl (.inr h0)
      · rw [if_neg h0] at h
        -- a directory that may be: two to the power of its depth
        have hmay : 0 < a0_0 ∧ a0_0 ≤ 10 ∧ (l0_1.length : Int) = 2 ^ a0_0.toNat := by
          unfold dir_Dir_may.f dir_Check.f at ht
          rw [Option.bind_some] at ht
          have ht := Option.some.inj ht
          by_cases g1 : a0_0 < 0
          · rw [if_pos g1] at ht; exact absurd ht (by decide)
          · rw [if_neg g1] at ht
            by_cases g2 : 10 < a0_0
            · rw [if_pos g2] at ht; exact absurd ht (by decide)
            · rw [if_neg g2] at ht
              by_cases g3 : l0_1.any badN = true
              · rw [if_pos g3] at ht; exact absurd ht (by decide)
              · rw [if_neg g3] at ht
                by_cases g4 : (l0_1.length : Int) = 2 ^ a0_0.toNat
                · exact ⟨by omega, by omega, g4⟩
                · rw [if_neg g4] at ht; exact absurd ht (by decide)
        obtain ⟨m, hm, hmm⟩ : ∃ m, l0_1.length = 2 * m ∧ 0 < m ∧ m ≤ 1000000 := by
          obtain ⟨g1, g2, g3⟩ := hmay
          obtain ⟨d, hd⟩ : ∃ d : Nat, a0_0.toNat = d + 1 := ⟨a0_0.toNat - 1, by omega⟩
          have hd10 : d ≤ 9 := by omega
          have g4 : l0_1.length = 2 ^ (d + 1) := by
            rw [hd] at g3
            exact_mod_cast g3
          refine ⟨2 ^ d, by rw [g4, Nat.pow_succ]; omega, Nat.pow_pos (by decide), ?_⟩
          have := Nat.pow_le_pow_right (show 0 < 2 by decide) hd10
          omega
        obtain ⟨ad, rfl, _⟩ : ∃ ad, A0_1 = some ad ∧ True := by
          obtain ⟨ad, e, _⟩ := Kd.at_int hr0_1 0 (by omega) (by omega)
          exact ⟨ad, e, trivial⟩
        refine (halve_go a0_0 ad c0_1 l0_1 m w hr0_1 hc0_1 ht hm hmm.2 h0).mono ?_
        rintro e w' (⟨v, he, hp, ho, hb⟩ | ⟨v, he, hp, ho, hb⟩)
        · rw [halves_is m l0_1 hm hp] at h
          obtain ⟨rfl, rfl, rfl⟩ : wrap64 (a0_0 - 1) = r1 ∧ _ = r2 ∧ true = r3 := by simpa using h
          exact ⟨v, he, ho, hb⟩
        · rw [halves_no m l0_1 hm hp] at h
          obtain ⟨rfl, rfl, rfl⟩ : a0_0 = r1 ∧ l0_1 = r2 ∧ false = r3 := by simpa using h
          exact ⟨v, he, ho, hb⟩
  · rw [if_neg hl] at h
    cases h
end Go.Proofs.Ytiapecjiedhaoaa.Halve
namespace Go.Proofs.Ytiapecjiedhaoaa.MDir
open Go.RowKit Go.Proofs.YtiapecjiedhaoaaW.PrintWords Go.Proofs.YtiapecjiedhaoaaW.PrintLast Go.Proofs.YtiapecjiedhaoaaW.PrintMore
/-- What dir.Halve tells. -/
def dir_Halve.f (d : Int) (l : List Int) : Option (Int × List Int × Bool) := Halve.dir_Halve.f d l
theorem dir_Halve.calls (a0_0 : Int) (A0_1 : Option Addr) (c0_1 : Nat) (l0_1 : List Int) (r1 : Int) (r2 : List Int) (r3 : Bool) (w : World) (hr0_1 : Kd.C (Kd.int .i64) w A0_1 l0_1.length l0_1) (hc0_1 : l0_1.length ≤ c0_1) (h : dir_Halve.f a0_0 l0_1 = some (r1, r2, r3)) :
    Calls Try.prog 24 #[.agg #[.int .i64 a0_0, .slice A0_1 l0_1.length c0_1]] w fun e w' => ∃ v1_ : Value, e = .returned (.tuple #[.agg #[.int .i64 r1, v1_], .bool r3]) ∧ Kd.R (Kd.int .i64) 3 w' w.heap.size (fun _ => True) v1_ r2 ∧ Below w.heap.size w w' :=
  Halve.dir_Halve.calls a0_0 A0_1 c0_1 l0_1 r1 r2 r3 w hr0_1 hc0_1 h
end Go.Proofs.Ytiapecjiedhaoaa.MDir
