/- A region whose order is drawn, walked once by an invariant: whatever stands behind any operation that may come up. -/
import Derived.OrdersIn
import Derived.Deep.RegionHeld
import Derived.OwnWalkIn
namespace Go.Proofs.Ytiapecjiedhaoaa.RegInv
open Go
section
variable {P : Program} {ops : Array Oper} {Q : Exit → Act → World → Prop} {md : Region.Mode}

def open_ (l : Array Bool) : Nat := (l.toList.filter (!·)).length
theorem open_list : ∀ (l : List Bool) (i : Nat), l[i]? = some false → ((l.set i true).filter (!·)).length + 1 = (l.filter (!·)).length
  | [], i, h => by simp at h
  | x :: r, 0, h => by
    have : x = false := by simpa using h
    subst this
    rfl
  | x :: r, i + 1, h => by
    have := open_list r i (by simpa using h)
    cases x <;> simp only [List.set_cons_succ, List.filter_cons] <;> simp <;> omega
theorem open_set (l : Array Bool) (i : Nat) (h : l.getD i true = false) : open_ (l.setIfInBounds i true) + 1 = open_ l := by
  unfold open_
  rw [Array.toList_setIfInBounds]
  apply open_list
  rw [Array.getD_eq_getD_getElem?] at h
  rw [Array.getElem?_toList]
  cases hh : l[i]? with
  | none => rw [hh] at h; cases h
  | some b => rw [hh] at h; simpa using h
theorem open_replicate (n : Nat) : open_ (Array.replicate n false) = n := by
  unfold open_
  rw [Array.toList_replicate]
  simp

/-- The invariant 'I' says what stands when the marked operations have come up. -/
theorem wpAny_inv {I : Array Bool → Act → World → Prop}
    (hdone : ∀ l a w, I l a w → Region.ready md ops l = [] → Q .normal a w)
    (hstep : ∀ l a w i, I l a w → i ∈ Region.ready md ops l → l.getD i true = false → wpOp P ops Q i (I (l.setIfInBounds i true)) a w) :
    ∀ (fuel : Nat) (l : Array Bool) (a : Act) (w : World), open_ l ≤ fuel → I l a w → wpAny P md ops Q fuel l a w := by
  intro fuel
  induction fuel with
  | zero =>
    intro l a w hf hI
    have hr : Region.ready md ops l = [] := by
      cases h : Region.ready md ops l with
      | nil => rfl
      | cons i r =>
        have hi : i ∈ Region.ready md ops l := by rw [h]; exact List.mem_cons_self ..
        have := open_set l i (mem_ready.1 hi).1
        omega
    exact ⟨hr, hdone l a w hI hr⟩
  | succ fuel ih =>
    intro l a w hf hI
    refine ⟨fun hr => hdone l a w hI hr, fun i hi => ?_⟩
    have hu := (mem_ready.1 hi).1
    refine wpOp_mono (fun a' w' hI' => ih _ a' w' ?_ hI') (hstep l a w i hI hi hu)
    have := open_set l i hu
    omega
/-- A region that draws its order, from the world behind the draw. -/
theorem wp_region_inv {id : Nat} {a : Act} {w : World} {I : Array Bool → Act → World → Prop} (hm : P.follows .mixedOrders = true)
    (h0 : I (Array.replicate ops.size false) a w.drew)
    (hdone : ∀ l a w, I l a w → Region.ready .any ops l = [] → Q .normal a w)
    (hstep : ∀ l a w i, I l a w → i ∈ Region.ready .any ops l → l.getD i true = false → wpOp P ops Q i (I (l.setIfInBounds i true)) a w) :
    (Code.region id ops true).wp P Q a w :=
  wp_region_any hm (wpAny_inv hdone hstep _ _ _ _ (by rw [open_replicate]; exact Nat.le_refl _) h0)
/-- The same inside a fence. -/
theorem wpAnyIn_inv {F : Fence} {n : Nat} {I : Array Bool → Act → World → Prop}
    (hdone : ∀ l a w, I l a w → Region.ready md ops l = [] → Q .normal a w)
    (hstep : ∀ l a w i, I l a w → i ∈ Region.ready md ops l → l.getD i true = false → wpOpIn F n P ops Q i (I (l.setIfInBounds i true)) a w) :
    ∀ (fuel : Nat) (l : Array Bool) (a : Act) (w : World), open_ l ≤ fuel → I l a w → wpAnyIn F n P md ops Q fuel l a w := by
  intro fuel
  induction fuel with
  | zero =>
    intro l a w hf hI
    have hr : Region.ready md ops l = [] := by
      cases h : Region.ready md ops l with
      | nil => rfl
      | cons i r =>
        have hi : i ∈ Region.ready md ops l := by rw [h]; exact List.mem_cons_self ..
        have := open_set l i (mem_ready.1 hi).1
        omega
    exact ⟨hr, hdone l a w hI hr⟩
  | succ fuel ih =>
    intro l a w hf hI
    refine ⟨fun hr => hdone l a w hI hr, fun i hi => ?_⟩
    have hu := (mem_ready.1 hi).1
    refine wpOpIn_mono (fun a' w' hI' => ih _ a' w' ?_ hI') (hstep l a w i hI hi hu)
    have := open_set l i hu
    omega
theorem wpIn_region_inv {F : Fence} {n id : Nat} {a : Act} {w : World} {I : Array Bool → Act → World → Prop} (hm : P.follows .mixedOrders = true)
    (h0 : I (Array.replicate ops.size false) a w.drew)
    (hdone : ∀ l a w, I l a w → Region.ready .any ops l = [] → Q .normal a w)
    (hstep : ∀ l a w i, I l a w → i ∈ Region.ready .any ops l → l.getD i true = false → wpOpIn F n P ops Q i (I (l.setIfInBounds i true)) a w) :
    (Code.region id ops true).wpIn F n P Q a w :=
  wpIn_region_any hm (wpAnyIn_inv hdone hstep _ _ _ _ (by rw [open_replicate]; exact Nat.le_refl _) h0)
end
end Go.Proofs.Ytiapecjiedhaoaa.RegInv
