/- What Light tells, in plain terms: a light program is short everywhere. -/
import Derived.Test.YtlbcnkmojoinfaaHandF9
import Derived.Test.YtlbcnkmojoinfaaMCkx3
namespace Go.Proofs.Ytlbcnkmojoinfaa.ChecksV
open Go.RowKit Go.Proofs.Ytlbcnkmojoinfaa.MCk Go.Proofs.YtlbcnkmojoinfaaW.PrintWords Go.Proofs.YtlbcnkmojoinfaaW.PrintLast
/-- An answer is told, and a true one means P. -/
def Tell (x : Option Bool) (P : Prop) : Prop := ∃ r, x = some r ∧ (r = true → P)
theorem Tell.no {P : Prop} : Tell (some false) P := ⟨false, rfl, fun h => by cases h⟩
theorem Tell.yes {P : Prop} (h : P) : Tell (some true) P := ⟨true, rfl, fun _ => h⟩
theorem Tell.imp {x : Option Bool} {P Q : Prop} (h : Tell x P) (f : P → Q) : Tell x Q := by
  obtain ⟨r, h1, h2⟩ := h
  exact ⟨r, h1, fun h => f (h2 h)⟩
theorem add1w {j : Nat} (h : j ≤ 1000000) : wrap64 ((j : Int) + 1) = ((j + 1 : Nat) : Int) := by unfold wrap64; omega
theorem rd59 (l : List S59) (j : Nat) (h : j < l.length) : rd_T59 l (j : Int) = l[j] := by
  unfold rd_T59
  rw [Int.toNat_natCast, List.getD_eq_getElem?_getD, List.getElem?_eq_getElem h]
  rfl
theorem tests1 (n : ByteArray) (o : List S59) (l : List S61) (hl : l.length ≤ 12) : ∀ (d k j : Nat), j + d = l.length → d < k → Tell (intarsiaref15_lightTests.l1 k (j : Int) n o l) True := by
  intro d
  induction d with
  | zero =>
    intro k j hj hk
    obtain ⟨k, rfl⟩ : ∃ k', k = k' + 1 := ⟨k - 1, by omega⟩
    rw [intarsiaref15_lightTests.l1, if_neg (by omega)]
    exact .yes trivial
  | succ d ih =>
    intro k j hj hk
    obtain ⟨k, rfl⟩ : ∃ k', k = k' + 1 := ⟨k - 1, by omega⟩
    rw [intarsiaref15_lightTests.l1, if_pos (by omega), if_pos (by omega), add1w (by omega)]
    split
    · exact .no
    · split
      · exact .no
      · exact ih k (j + 1) (by omega) (by omega)
theorem tests0 (n : ByteArray) (o : List S59) (ho : o.length ≤ 12) (l : List S61) (hl : l.length ≤ 12) : ∀ (d k j : Nat), j + d = o.length → d + 14 < k → Tell (intarsiaref15_lightTests.l0 k (j : Int) n o l) True := by
  intro d
  induction d with
  | zero =>
    intro k j hj hk
    obtain ⟨k, rfl⟩ : ∃ k', k = k' + 1 := ⟨k - 1, by omega⟩
    rw [intarsiaref15_lightTests.l0, if_neg (by omega)]
    exact tests1 n o l hl l.length k 0 (by omega) (by omega)
  | succ d ih =>
    intro k j hj hk
    obtain ⟨k, rfl⟩ : ∃ k', k = k' + 1 := ⟨k - 1, by omega⟩
    rw [intarsiaref15_lightTests.l0, if_pos (by omega), if_pos (by omega), add1w (by omega)]
    split
    · exact .no
    · exact ih k (j + 1) (by omega) (by omega)
theorem tests_tell (k : Nat) (hk : 30 < k) (n : ByteArray) (o : List S59) (ho : o.length ≤ 12) (l : List S61) (hl : l.length ≤ 12) : Tell (intarsiaref15_lightTests.f k n o l) True :=
  tests0 n o ho l hl o.length k 0 (by omega) (by omega)
theorem items0 (l : List S80) (hl : l.length ≤ 40) : ∀ (d k j : Nat), j + d = l.length → d < k → Tell (intarsiaref15_lightItems.l0 k l (j : Int)) True := by
  intro d
  induction d with
  | zero =>
    intro k j hj hk
    obtain ⟨k, rfl⟩ : ∃ k', k = k' + 1 := ⟨k - 1, by omega⟩
    rw [intarsiaref15_lightItems.l0, if_neg (by omega)]
    exact .yes trivial
  | succ d ih =>
    intro k j hj hk
    obtain ⟨k, rfl⟩ : ∃ k', k = k' + 1 := ⟨k - 1, by omega⟩
    rw [intarsiaref15_lightItems.l0, if_pos (by omega), if_pos (by omega), add1w (by omega)]
    split
    · exact .no
    · split
      · exact .no
      · exact ih k (j + 1) (by omega) (by omega)
theorem items_tell (k : Nat) (hk : 50 < k) (l : List S80) : Tell (intarsiaref15_lightItems.f k l) (l.length ≤ 40) := by
  unfold intarsiaref15_lightItems.f
  by_cases h : (l.length : Int) > 40
  · rw [if_pos h]
    exact .no
  · rw [if_neg h]
    exact (items0 l (by omega) l.length k 0 (by omega) (by omega)).imp (fun _ => by omega)
theorem bindTell {x : Option Bool} {P : Prop} {f : Bool → Option Bool} {Q : Prop} (h : Tell x P) (ht : P → Tell (f true) Q) (hf : Tell (f false) Q) : Tell (x.bind f) Q := by
  obtain ⟨r, rfl, h2⟩ := h
  rw [Option.bind_some]
  cases r with
  | true => exact ht (h2 rfl)
  | false => exact hf
theorem mem_cons_drop {α : Type} {P : α → Prop} {l : List α} {j : Nat} (hlt : j < l.length) (h1 : P l[j]) (h2 : ∀ x ∈ l.drop (j + 1), P x) : ∀ x ∈ l.drop j, P x := by
  rw [List.drop_eq_getElem_cons hlt]
  intro x hx
  rcases List.mem_cons.mp hx with rfl | hx
  · exact h1
  · exact h2 x hx
theorem all_drop_len {α : Type} {P : α → Prop} {l : List α} {j : Nat} (hj : l.length ≤ j) : ∀ x ∈ l.drop j, P x := by
  rw [List.drop_of_length_le hj]
  intro x hx
  cases hx
/-- One attribute of a condition is short. -/
def SA (a : S57) : Prop := a.f0.size ≤ 1000000 ∧ a.f2.length ≤ 12
theorem rule1 (nm : ByteArray) (cs : List S44) (acs : List S65) (i : Nat) (hi : i ≤ 1000) (l : List S57) (hl : l.length ≤ 10) (Q : Prop) (K : Nat) (hK : 40 ≤ K) (hn : ∀ k, K ≤ k → Tell (intarsiaref15_lightRule.l0 k ((i + 1 : Nat) : Int) nm cs acs) Q) :
    ∀ (d k j : Nat), j + d = l.length → K + d < k → Tell (intarsiaref15_lightRule.l1 k (i : Int) l (j : Int) nm cs acs) ((∀ a ∈ l.drop j, SA a) ∧ Q) := by
  intro d
  induction d with
  | zero =>
    intro k j hj hk
    obtain ⟨k, rfl⟩ : ∃ k', k = k' + 1 := ⟨k - 1, by omega⟩
    rw [intarsiaref15_lightRule.l1, if_neg (by omega), add1w (by omega)]
    exact (hn k (by omega)).imp fun h => ⟨all_drop_len (by omega), h⟩
  | succ d ih =>
    intro k j hj hk
    obtain ⟨k, rfl⟩ : ∃ k', k = k' + 1 := ⟨k - 1, by omega⟩
    have hlt : j < l.length := by omega
    rw [intarsiaref15_lightRule.l1, if_pos (by omega), if_pos (by omega), rd57 l j hlt, add1w (by omega)]
    split
    · exact .no
    rename_i h1
    split
    · exact .no
    rename_i h2
    split
    · exact .no
    rename_i h3
    refine bindTell (tests_tell k (by omega) _ _ (by omega) _ (by omega)) (fun _ => ?_) (by rw [if_neg (by decide)]; exact .no)
    rw [if_pos rfl]
    exact (ih k (j + 1) (by omega) (by omega)).imp fun h => ⟨mem_cons_drop hlt ⟨by omega, by omega⟩ h.1, h.2⟩
theorem rule4 (nm : ByteArray) (cs : List S44) (acs : List S65) (i : Nat) (hi : i ≤ 1000) (a : S65) (hl : a.f5.length ≤ 12) (Q : Prop) (K : Nat) (hK : 60 ≤ K) (hn : ∀ k, K ≤ k → Tell (intarsiaref15_lightRule.l2 k ((i + 1 : Nat) : Int) nm cs acs) Q) :
    ∀ (d k j : Nat), j + d = a.f5.length → K + d < k → Tell (intarsiaref15_lightRule.l4 k (i : Int) (j : Int) nm cs acs a.f0 a.f1 a.f2 a.f3 a.f4 a.f5) ((∀ x ∈ a.f5.drop j, x.length ≤ 1000) ∧ Q) := by
  intro d
  induction d with
  | zero =>
    intro k j hj hk
    obtain ⟨k, rfl⟩ : ∃ k', k = k' + 1 := ⟨k - 1, by omega⟩
    rw [intarsiaref15_lightRule.l4, if_neg (by omega), add1w (by omega)]
    exact (hn k (by omega)).imp fun h => ⟨all_drop_len (by omega), h⟩
  | succ d ih =>
    intro k j hj hk
    obtain ⟨k, rfl⟩ : ∃ k', k = k' + 1 := ⟨k - 1, by omega⟩
    have hlt : j < a.f5.length := by omega
    rw [intarsiaref15_lightRule.l4, if_pos (by omega), if_pos (by omega), rdL12 a.f5 j hlt, add1w (by omega)]
    refine bindTell (items_tell k (by omega) _) (fun h1 => ?_) (by rw [if_neg (by decide)]; exact .no)
    rw [if_pos rfl]
    exact (ih k (j + 1) (by omega) (by omega)).imp fun h => ⟨mem_cons_drop hlt (by omega) h.1, h.2⟩
theorem rule3 (nm : ByteArray) (cs : List S44) (acs : List S65) (i : Nat) (hi : i ≤ 1000) (a : S65) (hl : a.f4.length ≤ 10) (hl5 : a.f5.length ≤ 12) (Q : Prop) (K : Nat) (hK : 60 ≤ K) (hn : ∀ k, K ≤ k → Tell (intarsiaref15_lightRule.l2 k ((i + 1 : Nat) : Int) nm cs acs) Q) :
    ∀ (d k j : Nat), j + d = a.f4.length → K + 20 + d < k → Tell (intarsiaref15_lightRule.l3 k (i : Int) (j : Int) nm cs acs a.f0 a.f1 a.f2 a.f3 a.f4 a.f5) ((∀ s ∈ a.f4.drop j, s.f0.size ≤ 1000000 ∧ s.f1.length ≤ 1000) ∧ (∀ x ∈ a.f5, x.length ≤ 1000) ∧ Q) := by
  intro d
  induction d with
  | zero =>
    intro k j hj hk
    obtain ⟨k, rfl⟩ : ∃ k', k = k' + 1 := ⟨k - 1, by omega⟩
    rw [intarsiaref15_lightRule.l3, if_neg (by omega)]
    exact (rule4 nm cs acs i hi a hl5 Q K hK hn a.f5.length k 0 (by omega) (by omega)).imp fun h => ⟨all_drop_len (by omega), h⟩
  | succ d ih =>
    intro k j hj hk
    obtain ⟨k, rfl⟩ : ∃ k', k = k' + 1 := ⟨k - 1, by omega⟩
    have hlt : j < a.f4.length := by omega
    rw [intarsiaref15_lightRule.l3, if_pos (by omega), if_pos (by omega), rd67 a.f4 j hlt, add1w (by omega)]
    split
    · exact .no
    rename_i h0
    refine bindTell (items_tell k (by omega) _) (fun h1 => ?_) (by rw [if_neg (by decide)]; exact .no)
    rw [if_pos rfl]
    exact (ih k (j + 1) (by omega) (by omega)).imp fun h => ⟨mem_cons_drop hlt ⟨by omega, by omega⟩ h.1, h.2⟩
theorem rule2 (nm : ByteArray) (cs : List S44) (acs : List S65) (hl : acs.length ≤ 12) : ∀ (d k j : Nat), j + d = acs.length → 100 + 40 * d < k → Tell (intarsiaref15_lightRule.l2 k (j : Int) nm cs acs) (∀ a ∈ acs.drop j, FewAct a) := by
  intro d
  induction d with
  | zero =>
    intro k j hj hk
    obtain ⟨k, rfl⟩ : ∃ k', k = k' + 1 := ⟨k - 1, by omega⟩
    rw [intarsiaref15_lightRule.l2, if_neg (by omega)]
    exact .yes (all_drop_len (by omega))
  | succ d ih =>
    intro k j hj hk
    obtain ⟨k, rfl⟩ : ∃ k', k = k' + 1 := ⟨k - 1, by omega⟩
    have hlt : j < acs.length := by omega
    rw [intarsiaref15_lightRule.l2, if_pos (by omega), if_pos (by omega), rd65 acs j hlt]
    have hm : ∀ P : S65 → Prop, P acs[j] → (∀ a ∈ acs.drop (j + 1), P a) → ∀ a ∈ acs.drop j, P a := fun P h1 h2 => mem_cons_drop hlt h1 h2
    generalize acs[j] = a at hm
    have fin : ∀ b : Bool, a.f4.length ≤ 10 → a.f5.length ≤ 12 → Tell (intarsiaref15_lightRule.j5 k (j : Int) b nm cs acs a.f0 a.f1 a.f2 a.f3 a.f4 a.f5) (∀ a ∈ acs.drop j, FewAct a) := by
      intro b h4 h5
      obtain ⟨k, rfl⟩ : ∃ k', k = k' + 1 := ⟨k - 1, by omega⟩
      rw [intarsiaref15_lightRule.j5]
      split
      · exact .no
      · exact (rule3 nm cs acs j (by omega) a h4 h5 _ (101 + 40 * d) (by omega) (fun k' hk' => ih k' (j + 1) (by omega) (by omega)) a.f4.length k 0 (by omega) (by omega)).imp fun h => hm FewAct ⟨by omega, h.1, by omega, h.2.1⟩ h.2.2
    have bad : Tell (intarsiaref15_lightRule.j5 k (j : Int) true nm cs acs a.f0 a.f1 a.f2 a.f3 a.f4 a.f5) (∀ a ∈ acs.drop j, FewAct a) := by
      obtain ⟨k, rfl⟩ : ∃ k', k = k' + 1 := ⟨k - 1, by omega⟩
      rw [intarsiaref15_lightRule.j5, if_pos rfl]
      exact .no
    split
    · exact bad
    split
    · exact bad
    split
    · exact bad
    exact fin _ (by omega) (by omega)
theorem rule0 (nm : ByteArray) (cs : List S44) (hcs : cs.length ≤ 8) (acs : List S65) (hl : acs.length ≤ 12) : ∀ (d k j : Nat), j + d = cs.length → 700 + 20 * d < k → Tell (intarsiaref15_lightRule.l0 k (j : Int) nm cs acs) ((∀ c ∈ cs.drop j, FewCond c) ∧ ∀ a ∈ acs, FewAct a) := by
  intro d
  induction d with
  | zero =>
    intro k j hj hk
    obtain ⟨k, rfl⟩ : ∃ k', k = k' + 1 := ⟨k - 1, by omega⟩
    rw [intarsiaref15_lightRule.l0, if_neg (by omega)]
    exact (rule2 nm cs acs hl acs.length k 0 (by omega) (by omega)).imp fun h => ⟨all_drop_len (by omega), h⟩
  | succ d ih =>
    intro k j hj hk
    obtain ⟨k, rfl⟩ : ∃ k', k = k' + 1 := ⟨k - 1, by omega⟩
    have hlt : j < cs.length := by omega
    rw [intarsiaref15_lightRule.l0, if_pos (by omega), if_pos (by omega), rd44 cs j hlt]
    have hm : ∀ P : S44 → Prop, P cs[j] → (∀ a ∈ cs.drop (j + 1), P a) → ∀ a ∈ cs.drop j, P a := fun P h1 h2 => mem_cons_drop hlt h1 h2
    generalize cs[j] = c at hm
    obtain ⟨k, rfl⟩ : ∃ k', k = k' + 1 := ⟨k - 1, by omega⟩
    split
    · rw [intarsiaref15_lightRule.j2, if_pos rfl]
      exact .no
    · rename_i h1
      rw [intarsiaref15_lightRule.j2]
      split
      · exact .no
      · exact (rule1 nm cs acs j (by omega) c.f2 (by omega) _ (701 + 20 * d) (by omega) (fun k' hk' => ih k' (j + 1) (by omega) (by omega)) c.f2.length k 0 (by omega) (by omega)).imp fun h => ⟨hm FewCond ⟨by omega, h.1⟩ h.2.1, h.2.2⟩
theorem rule_tell (k : Nat) (hk : 1000 < k) (nm : ByteArray) (cs : List S44) (acs : List S65) : Tell (intarsiaref15_lightRule.f k nm cs acs) (nm.size ≤ 1000000 ∧ FewRule ⟨nm, cs, acs⟩) := by
  obtain ⟨k, rfl⟩ : ∃ k', k = k' + 1 := ⟨k - 1, by omega⟩
  unfold intarsiaref15_lightRule.f
  split
  · rw [intarsiaref15_lightRule.j0, if_pos rfl]
    exact .no
  split
  · rw [intarsiaref15_lightRule.j0, if_pos rfl]
    exact .no
  rw [intarsiaref15_lightRule.j0]
  split
  · exact .no
  rename_i h1 h2 h3
  have h3' : ¬ ((nm.size : Int) > 60) := fun h => h3 (decide_eq_true h)
  exact (rule0 nm cs (by omega) acs (by omega) cs.length k 0 (by omega) (by omega)).imp fun h => ⟨by omega, by show cs.length ≤ 8; omega, h.1, by show acs.length ≤ 1000; omega, h.2⟩
theorem light2 (l : List S30) (rs : List S38) (hr : rs.length ≤ 6) : ∀ (d k j : Nat), j + d = rs.length → 1010 + d < k → Tell (intarsiaref15_Light.l2 k (j : Int) l rs) (∀ r ∈ rs.drop j, r.f0.size ≤ 1000000 ∧ FewRule r) := by
  intro d
  induction d with
  | zero =>
    intro k j hj hk
    obtain ⟨k, rfl⟩ : ∃ k', k = k' + 1 := ⟨k - 1, by omega⟩
    rw [intarsiaref15_Light.l2, if_neg (by omega)]
    exact .yes (all_drop_len (by omega))
  | succ d ih =>
    intro k j hj hk
    obtain ⟨k, rfl⟩ : ∃ k', k = k' + 1 := ⟨k - 1, by omega⟩
    have hlt : j < rs.length := by omega
    rw [intarsiaref15_Light.l2, if_pos (by omega), if_pos (by omega), rd38 rs j hlt, add1w (by omega)]
    refine bindTell (rule_tell k (by omega) _ _ _) (fun h1 => ?_) (by rw [if_neg (by decide)]; exact .no)
    rw [if_pos rfl]
    exact (ih k (j + 1) (by omega) (by omega)).imp fun h => mem_cons_drop hlt h1 h
theorem light1 (l : List S30) (rs : List S38) (i : Nat) (hi : i ≤ 1000) (c : S30) (hc : c.f1.length ≤ 10) (Q : Prop) (K : Nat) (hn : ∀ k, K ≤ k → Tell (intarsiaref15_Light.l0 k ((i + 1 : Nat) : Int) l rs) Q) :
    ∀ (d k j : Nat), j + d = c.f1.length → K + d < k → Tell (intarsiaref15_Light.l1 k (i : Int) (j : Int) l rs c.f0 c.f1) ((∀ a ∈ c.f1.drop j, a.size ≤ 1000000) ∧ Q) := by
  intro d
  induction d with
  | zero =>
    intro k j hj hk
    obtain ⟨k, rfl⟩ : ∃ k', k = k' + 1 := ⟨k - 1, by omega⟩
    rw [intarsiaref15_Light.l1, if_neg (by omega), add1w (by omega)]
    exact (hn k (by omega)).imp fun h => ⟨all_drop_len (by omega), h⟩
  | succ d ih =>
    intro k j hj hk
    obtain ⟨k, rfl⟩ : ∃ k', k = k' + 1 := ⟨k - 1, by omega⟩
    have hlt : j < c.f1.length := by omega
    rw [intarsiaref15_Light.l1, if_pos (by omega), if_pos (by omega), rdS c.f1 j hlt, add1w (by omega)]
    split
    · exact .no
    rename_i h1
    exact (ih k (j + 1) (by omega) (by omega)).imp fun h => ⟨mem_cons_drop hlt (by omega) h.1, h.2⟩
theorem light0 (l : List S30) (hl : l.length ≤ 20) (rs : List S38) (hr : rs.length ≤ 6) : ∀ (d k j : Nat), j + d = l.length → 1100 + 20 * d < k → Tell (intarsiaref15_Light.l0 k (j : Int) l rs) ((∀ c ∈ l.drop j, c.f0.size ≤ 1000000 ∧ c.f1.length ≤ 1000 ∧ ∀ a ∈ c.f1, a.size ≤ 1000000) ∧ ∀ r ∈ rs, r.f0.size ≤ 1000000 ∧ FewRule r) := by
  intro d
  induction d with
  | zero =>
    intro k j hj hk
    obtain ⟨k, rfl⟩ : ∃ k', k = k' + 1 := ⟨k - 1, by omega⟩
    rw [intarsiaref15_Light.l0, if_neg (by omega)]
    exact (light2 l rs hr rs.length k 0 (by omega) (by omega)).imp fun h => ⟨all_drop_len (by omega), h⟩
  | succ d ih =>
    intro k j hj hk
    obtain ⟨k, rfl⟩ : ∃ k', k = k' + 1 := ⟨k - 1, by omega⟩
    have hlt : j < l.length := by omega
    rw [intarsiaref15_Light.l0, if_pos (by omega), if_pos (by omega), rdC l j hlt]
    have hm : ∀ P : S30 → Prop, P l[j] → (∀ a ∈ l.drop (j + 1), P a) → ∀ a ∈ l.drop j, P a := fun P h1 h2 => mem_cons_drop hlt h1 h2
    generalize l[j] = c at hm
    obtain ⟨k, rfl⟩ : ∃ k', k = k' + 1 := ⟨k - 1, by omega⟩
    split
    · rw [intarsiaref15_Light.j2, if_pos rfl]
      exact .no
    · rename_i h1
      rw [intarsiaref15_Light.j2]
      split
      · exact .no
      · rename_i h2
        have h2' : ¬ ((c.f1.length : Int) > 10) := fun h => h2 (decide_eq_true h)
        exact (light1 l rs j (by omega) c (by omega) _ (1101 + 20 * d) (fun k' hk' => ih k' (j + 1) (by omega) (by omega)) c.f1.length k 0 (by omega) (by omega)).imp fun h => ⟨hm _ ⟨by omega, by omega, h.1⟩ h.2.1, h.2.2⟩
/-- A light program: what is told, and what a true answer means. -/
theorem light_tell (l : List S30) (rs : List S38) : Tell (intarsiaref15_Light.f 2000 l rs) (FewC l ∧ FewRs rs ∧ l.length ≤ 20 ∧ rs.length ≤ 6) := by
  unfold intarsiaref15_Light.f
  split
  · rw [intarsiaref15_Light.j0, if_pos rfl]
    exact .no
  rw [intarsiaref15_Light.j0]
  split
  · exact .no
  rename_i h1 h2
  have h2' : ¬ ((rs.length : Int) > 6) := fun h => h2 (decide_eq_true h)
  exact (light0 l (by omega) rs (by omega) l.length 1999 0 (by omega) (by omega)).imp fun h => ⟨⟨by omega, h.1⟩, ⟨by omega, h.2⟩, by omega, by omega⟩
end Go.Proofs.Ytlbcnkmojoinfaa.ChecksV
