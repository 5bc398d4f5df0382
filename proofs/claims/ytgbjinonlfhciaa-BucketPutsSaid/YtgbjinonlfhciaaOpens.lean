/- An argument of a nested type is opened: what a reading of it tells. -/
import Derived.Test.YtgbjinonlfhciaaMBkx0
import Derived.ChangeSlices
import Derived.WalkKit
namespace Go.Proofs.Ytgbjinonlfhciaa.Opens
open Go.RowKit Go.Proofs.YtgbjinonlfhciaaW.PrintWords Go.Proofs.YtgbjinonlfhciaaW.PrintLast Go.Proofs.YtgbjinonlfhciaaW.PrintMore
/-- What is read as the type t holds a datum of the kind d. -/
def Opens (P : Program) (t : TypeId) {α : Type} (d : Kd α) : Prop :=
  P.cellsOf t = d.sz ∧ ∀ (H : Type) (enc : TypeId × Value → H) (w : World) (fuel : Nat) (cs : List Value) (x : DataW H × List MemPlace), DataW.trod enc P w 0 (fun _ => true) true fuel t cs = some x → ∃ y, d.K w y cs
theorem opens_int {P : Program} {t : TypeId} {k : IntKind} (ht : P.underlying t = some (.int k)) (hc : P.cellsOf t = 1) : Opens P t (Kd.int k) := by
  refine ⟨hc, fun H enc w fuel cs x h => ?_⟩
  obtain ⟨n, rfl, -, -⟩ := DataW.trod_int ht h
  exact ⟨n, rfl⟩
theorem opens_bool {P : Program} {t : TypeId} (ht : P.underlying t = some .bool) (hc : P.cellsOf t = 1) : Opens P t Kd.bool := by
  refine ⟨hc, fun H enc w fuel cs x h => ?_⟩
  obtain ⟨n, rfl, -⟩ := DataW.trod_bool ht h
  exact ⟨n, rfl⟩
theorem opens_string {P : Program} {t : TypeId} (ht : P.underlying t = some .string) (hc : P.cellsOf t = 1) : Opens P t Kd.string := by
  refine ⟨hc, fun H enc w fuel cs x h => ?_⟩
  obtain ⟨n, rfl, -⟩ := DataW.trod_string ht h
  exact ⟨n, rfl⟩
theorem opens_iso {P : Program} {t : TypeId} {α β : Type} {d : Kd α} (h : Opens P t d) (f : β → α) (g : α → β) (hfg : ∀ x, f (g x) = x) : Opens P t (Kd.iso d f) := by
  refine ⟨h.1, fun H enc w fuel cs x ht => ?_⟩
  obtain ⟨y, hy⟩ := h.2 H enc w fuel cs x ht
  exact ⟨g y, by show d.K w (f (g y)) cs; rw [hfg]; exact hy⟩
theorem opens_slice {P : Program} {t e : TypeId} {α : Type} {d : Kd α} (ht : P.underlying t = some (.slice e)) (h : Opens P e d) (hc : P.cellsOf t = 1) : Opens P t (Kd.slice e d) := by
  refine ⟨hc, fun H enc w fuel cs x hx => ?_⟩
  rcases DataW.trod_slice ht hx with ⟨rfl, -⟩ | ⟨a, len, cap, elems, rest, n, -, rfl, -, -, hl, hm, hlen, hel, -, -⟩
  · exact ⟨[], none, 0, rfl, Nat.le_refl _, Kd.C_nil _ _⟩
  have each : ∀ i, i < len → ∃ y, ∃ c, c.length = d.sz ∧ d.K w y c ∧ ∀ j u, c[j]? = some u → w.cell? (a.add (i * d.sz + j)) = some u := by
    intro i hi
    have h1 := hel i hi
    rw [List.getElem?_eq_getElem (by omega), Option.bind_eq_some_iff] at h1
    obtain ⟨c, hc1, hc2⟩ := h1
    obtain ⟨y, hy⟩ := h.2 H enc w n c _ hc2
    have hcs := World.cells?_some hc1
    refine ⟨y, c, d.K_len hy, hy, fun j u hu => ?_⟩
    have hjl : j < c.length := (List.getElem?_eq_some_iff.1 hu).1
    have hcl : c.length = d.sz := d.K_len hy
    have h2 := hcs.2.2 j (by rw [h.1]; omega)
    rw [hu, h.1] at h2
    rw [← h2]
    congr 1
    generalize i * d.sz = m
    by_cases hm0 : m = 0 <;> by_cases hj0 : j = 0 <;> simp [Addr.add, hm0, hj0, Nat.add_assoc]
  have pick : ∀ m, m ≤ len → ∃ ys : List α, ys.length = m ∧ ∀ i y, ys[i]? = some y → ∃ c, c.length = d.sz ∧ d.K w y c ∧ ∀ j u, c[j]? = some u → w.cell? (a.add (i * d.sz + j)) = some u := by
    intro m
    induction m with
    | zero => intro _; exact ⟨[], rfl, fun i y hy => by simp at hy⟩
    | succ m ih =>
      intro hm
      obtain ⟨ys, h1, h2⟩ := ih (by omega)
      obtain ⟨y, hy⟩ := each m (by omega)
      refine ⟨ys ++ [y], by rw [List.length_append, h1]; rfl, fun i z hz => ?_⟩
      by_cases hi : i < ys.length
      · rw [List.getElem?_append_left hi] at hz
        exact h2 i z hz
      · have hi' : i = m := by
          have := (List.getElem?_eq_some_iff.1 hz).1
          rw [List.length_append, h1] at this
          have : i < m + 1 := this
          omega
        subst hi'
        rw [List.getElem?_append_right (by omega), h1, Nat.sub_self] at hz
        obtain rfl : y = z := Option.some.inj hz
        exact hy
  obtain ⟨ys, h1, h2⟩ := pick len (Nat.le_refl _)
  subst h1
  refine ⟨ys, some a, cap, rfl, hl, rfl, ?_, fun _ => ⟨a, rfl, fun j p hj => h2 j p hj⟩⟩
  have : maxLen ≤ 9223372036854775807 := by decide
  omega
/-- The fields fs, the first of which begins at off, hold a datum of the kind d. -/
def OpT (P : Program) (fs : List Field) (off : Nat) {α : Type} (d : Kd α) : Prop :=
  ∀ (H : Type) (enc : TypeId × Value → H) (w : World) (n : Nat) (cs : List Value), (∀ f ∈ fs, ∃ x, DataW.trod enc P w 0 (fun _ => true) true n f.type ((cs.drop f.offset).take (P.cellsOf f.type)) = some x) → cs.length = off + d.sz → ∃ y, d.K w y (cs.drop off)
theorem OpT.one {P : Program} {f : Field} {off : Nat} {t : TypeId} {α : Type} {d : Kd α} (h : Opens P t d) (hf : f.type = t) (ho : f.offset = off) : OpT P [f] off d := by
  intro H enc w n cs hx hl
  obtain ⟨x, hx⟩ := hx f (List.mem_singleton.mpr rfl)
  rw [ho, hf, h.1, List.take_of_length_le (by rw [List.length_drop]; omega)] at hx
  exact h.2 H enc w n _ x hx
theorem OpT.cons {P : Program} {f : Field} {fs : List Field} {off : Nat} {t : TypeId} {α β : Type} {a : Kd α} {b : Kd β} (h : Opens P t a) (hf : f.type = t) (ho : f.offset = off) (hr : OpT P fs (off + a.sz) b) : OpT P (f :: fs) off (Kd.pair a b) := by
  intro H enc w n cs hx hl
  have hl' : cs.length = off + (a.sz + b.sz) := hl
  obtain ⟨x, hx1⟩ := hx f List.mem_cons_self
  rw [ho, hf, h.1] at hx1
  obtain ⟨y, hy⟩ := h.2 H enc w n _ x hx1
  obtain ⟨z, hz⟩ := hr H enc w n cs (fun g hg => hx g (List.mem_cons_of_mem _ hg)) (by omega)
  refine ⟨(y, z), (cs.drop off).take a.sz, cs.drop (off + a.sz), ?_, hy, hz⟩
  rw [← List.drop_drop, List.take_append_drop]
theorem opens_struct {P : Program} {t : TypeId} {fs : Array Field} {α : Type} {d : Kd α} (ht : P.underlying t = some (.struct fs)) (h : OpT P fs.toList 0 d) (hc : P.cellsOf t = d.sz) : Opens P t d := by
  refine ⟨hc, fun H enc w fuel cs x hx => ?_⟩
  obtain ⟨xs, n, -, -, hl, hlen, hf⟩ := DataW.trod_struct ht hx
  have := h H enc w n cs (fun f hm => ?_) (by omega)
  · rw [List.drop_zero] at this
    exact this
  · obtain ⟨i, hi⟩ := List.getElem?_of_mem hm
    have hi2 : fs[i]? = some f := by rw [← hi, Array.getElem?_toList]
    have hlt : i < xs.length := by have := (Array.getElem?_eq_some_iff.1 hi2).1; omega
    exact ⟨xs[i], by rw [hf i f hi2, List.getElem?_eq_getElem hlt]⟩
/-- A value that is read as a slice's type is a row. -/
theorem arg_slice {P : Program} {t e : TypeId} {α : Type} {d : Kd α} (ho : Opens P t (Kd.slice e d)) {H : Type} {enc : TypeId × Value → H} {w : World} {a : Option Addr} {len cap : Nat} {D : DataW H} {ps : List MemPlace} (h : DataW.Trod enc P w 0 (fun _ => true) true t (.slice a len cap) D ps) : ∃ xs : List α, len = xs.length ∧ xs.length ≤ cap ∧ d.C w a xs.length xs := by
  obtain ⟨fuel, hf⟩ := h
  obtain ⟨xs, A, c, he, hl, hC⟩ := ho.2 H enc w fuel _ _ hf
  have he' : [Value.slice a len cap] = [.slice A xs.length c] := he
  injection he' with h1 _
  injection h1 with h1 h2 h3
  subst h1 h2 h3
  exact ⟨xs, rfl, hl, hC⟩
theorem arg_agg {P : Program} {t : TypeId} {α : Type} {d : Kd α} (ho : Opens P t d) {H : Type} {enc : TypeId × Value → H} {w : World} {cs : Array Value} {D : DataW H} {ps : List MemPlace} (h : DataW.Trod enc P w 0 (fun _ => true) true t (.agg cs) D ps) : ∃ x, d.K w x cs.toList := by
  obtain ⟨fuel, hf⟩ := h
  exact ho.2 H enc w fuel _ _ hf
open Go.Proofs.Ytgbjinonlfhciaa.MBk
theorem o9 : Opens Try.prog 9 Kd.string := opens_string Try.underlying9 (by kernel_rfl)
theorem o3 : Opens Try.prog 3 (Kd.int .i64) := opens_int Try.underlying3 (by kernel_rfl)
theorem o5 : Opens Try.prog 5 (Kd.int .u8) := opens_int Try.underlying5 (by kernel_rfl)
theorem o27 : Opens Try.prog 27 k27 := opens_iso (opens_struct Try.underlying27 (.cons o9 rfl rfl (.one o9 rfl rfl)) (by kernel_rfl)) _ (fun x => ⟨x.1, x.2⟩) (fun _ => rfl)
theorem o22 : Opens Try.prog 22 (Kd.slice 27 k27) := opens_slice Try.underlying22 o27 (by kernel_rfl)
theorem o43 : Opens Try.prog 43 (Kd.slice 5 (Kd.int .u8)) := opens_slice Try.underlying43 o5 (by kernel_rfl)
theorem o42 : Opens Try.prog 42 (Kd.pair (Kd.int .i64) (Kd.pair (Kd.int .i64) (Kd.slice 27 k27))) := opens_struct Try.underlying42 (.cons o3 rfl rfl (.cons o3 rfl rfl (.one o22 rfl rfl))) (by kernel_rfl)
end Go.Proofs.Ytgbjinonlfhciaa.Opens
