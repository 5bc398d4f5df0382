/- The contract of names.meet: a map that tells which names were met. -/
import Derived.Test.YtlbcnkmojoinfaaProg
import Derived.Test.YtlbcnkmojoinfaaWWords
import Derived.Test.YtlbcnkmojoinfaaWLast
import Derived.Test.YtlbcnkmojoinfaaWMore
import Derived.Maps.OwnOps
import Derived.Maps.OwnSet
import Derived.Maps.AppendAt
import Derived.StringKeys
import Derived.Deep.LoopGhost
import Derived.WalkKit
import Derived.WalkSpells
import Derived.Below
import Derived.KernelRfl
namespace Go.Proofs.Ytlbcnkmojoinfaa.Hand
open Go.RowKit Go.Maps Go.Proofs.YtlbcnkmojoinfaaW.PrintWords Go.Proofs.YtlbcnkmojoinfaaW.PrintLast Go.Proofs.YtlbcnkmojoinfaaW.PrintMore
set_option linter.unusedVariables false
set_option linter.unusedSimpArgs false
theorem law9 : Keyed Try.prog 9 := string_keyed Try.underlying9
theorem zero4 (w : World) : (zeroValue 4).run Try.prog w = .ok (.bool false) w := by kernel_rfl
theorem plainElem_bool_inv {H : Type} {v : Value} {z : DataW H × List MemPlace} (h : plainElem Try.prog 4 v = some z) : ∃ b, v = .bool b ∧ z = (.lit (.bool b), []) := by
  unfold plainElem at h
  rw [Try.underlying4] at h
  split at h <;> first | (cases h; done) | (cases h; exact ⟨_, rfl, rfl⟩) | exact absurd ‹some TypeDesc.bool = some (TypeDesc.int _)› (by simp) | exact absurd ‹some TypeDesc.bool = some TypeDesc.string› (by simp)
/-- 'm[k]' at elements that are bools: the walk goes on with some bool in the slot. -/
theorem wpList_lookup_own_bool {w : World} {ops : Array Oper} {rest : List Oper} {o : Oper} {a : Act} {Q : Exit → Act → World → Prop}
    (hg : o.guard = none) (m x : Operand) (hop : o.op = Op.lookup 74 m x false) (b n : Nat) (D : DataW Unit)
    (hm : a.eval m = .map (some b)) (hown : w.ownsMap Try.prog 9 (plainElem Try.prog 4) b n D) (key : Value) (kl : Lit) (hx : a.eval x = key) (hkey : keyOf Try.prog 9 key = some kl)
    (hK : ∀ c : Bool, D.atKey kl (.lit (.bool false)) = .lit (.bool c) → wpList Try.prog ops Q rest (a.put o.dst (.bool c)) w) :
    wpList Try.prog ops Q (o :: rest) a w := by
  refine wpList_plain hg fun K' hK' => ?_
  obtain ⟨v, ps, hrun, hv⟩ := hown.lookup law9 Try.underlying74 (zero4 w) (plainElem_bool Try.underlying4 false) hkey
  obtain ⟨c, rfl, hc⟩ := plainElem_bool_inv hv
  simp only [Prod.mk.injEq] at hc
  unfold Oper.wp
  simp [execOp, hop, hm, hx, hrun, Result.andThen]
  exact hK' _ _ (hK c hc.1)
/-- Is a name among names? -/
def has (out : List ByteArray) (x : ByteArray) : Bool := out.any fun y => decide (y = x)
/-- A set of names: a map of one's own that tells of each whether it was met. -/
def Says (D : DataW Unit) (out : List ByteArray) : Prop := ∀ x : ByteArray, D.atKey (.string x.data.toList) (.lit (.bool false)) = .lit (.bool (has out x))
theorem Says.empty : Says (.map []) [] := fun x => rfl
theorem bytes_ext {x y : ByteArray} (h : x.data.toList = y.data.toList) : x = y := by
  obtain ⟨a⟩ := x
  obtain ⟨b⟩ := y
  congr 1
  exact Array.toList_inj.mp h
theorem Says.put {D : DataW Unit} {out : List ByteArray} (h : Says D out) (hD : IsMap D) (x : ByteArray) : Says (D.put (.string x.data.toList) (.lit (.bool true))) (out ++ [x]) := by
  intro y
  by_cases e : y = x
  · subst e
    rw [atKey_put_same hD (show WideAt.IsKeyLit (.string y.data.toList) from trivial)]
    simp [has]
  · rw [atKey_put_other (by intro h1; injection h1 with h2; exact e (bytes_ext h2)), h y]
    have e' : ¬ x = y := fun h => e h.symm
    simp [has, e']
structure Met (w : World) (b : Nat) (out : List ByteArray) : Prop where
  own : ∃ D, w.ownsMap Try.prog 9 (plainElem (H := Unit) Try.prog 4) b out.length D ∧ Says D out
set_option maxHeartbeats 4000000 in
set_option maxRecDepth 100000 in
theorem meet_calls (b : Nat) (out : List ByteArray) (x : ByteArray) (w : World) (hm : Met w b out) (hn : out.length < 1000000) (hx : x.size ≤ 1000000) :
    Calls Try.prog 26 #[.map (some b), .string x] w fun e w' => e = .returned (.bool (has out x)) ∧ Met w' b (out ++ [x]) ∧ w.grownBy w' (some b) := by
  obtain ⟨D, hown, hs⟩ := hm.own
  have hkey : keyOf Try.prog 9 (.string x) = some (.string x.data.toList) := WideMaps.keyOf_string_mk Try.underlying9 (by unfold maxLen; omega)
  have hsx := hs x
  go_enter Try.func26, Try.ntmps26
  go_wp2_with (first
    | (at_lookup; refine wpList_lookup_own_bool rfl _ _ rfl b out.length D rfl hown _ _ rfl hkey ?_; intro cc hat)
    | (at_mapUpdate; refine wpList_mapUpdate_own _ rfl _ _ _ 74 rfl 9 4 law9 Try.underlying74 (plainElem (H := Unit) Try.prog 4) b out.length D rfl hown (by unfold maxLen; omega) _ _ _ rfl rfl hkey _ [] (plainElem_bool Try.underlying4 true) ?_; intro w1 hown1 hgrow1)
    | fail)
  go_ret
  have hcc : cc = has out x := by
    rw [hsx] at hat
    injection hat with h1
    injection h1 with h2
    exact h2.symm
  refine ⟨by rw [hcc]; rfl, ⟨_, by rw [List.length_append]; exact hown1, hs.put hown.isMap x⟩, hgrow1⟩
end Go.Proofs.Ytlbcnkmojoinfaa.Hand
