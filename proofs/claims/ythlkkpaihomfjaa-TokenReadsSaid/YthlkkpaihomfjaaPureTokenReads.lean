import Derived.Test.YthlkkpaihomfjaaReads
import Derived.Test.YthlkkpaihomfjaaTags
namespace Go.Proofs.Ythlkkpaihomfjaa.Pure
open Go.RowKit Go.Proofs.Ythlkkpaihomfjaa.MTok Go.Proofs.YthlkkpaihomfjaaW.PrintWords Go.Proofs.YthlkkpaihomfjaaW.PrintLast Tags
theorem Ul_len (s : List UInt8) : (Ul s).1.length ≤ 5 := by
  unfold Ul
  split
  · simp
  · split
    · exact Rd_len _
    · simp
theorem Uu_len (s : List UInt8) : (Uu s).2.2.1.length ≤ 5 := by
  unfold Uu
  split
  · simp
  · split
    · exact Rd_len _
    · simp
theorem Ue_len (s : List UInt8) : (Ue s).2.1.length ≤ 5 := by
  unfold Ue
  split
  · simp
  · split
    · simp
    · split
      · exact Rd_len _
      · simp
theorem reads_j (s : List UInt8) (hs : s.length ≤ 100) : intarsialaw23_TokenReads.j0 40 (ba s) false = some true := by
  have h1 := Uu_len s
  have h2 := Ue_len s
  rw [intarsialaw23_TokenReads.j0, if_neg (by decide), unuse, Option.bind_some, runuse _ (by omega) _ (by omega), Option.bind_some, unentry, Option.bind_some, runentry _ (by omega) _ (by omega), Option.bind_some,
    if_pos rfl, if_pos rfl, same _ _ _ (by omega) (by omega), Option.bind_some, decide_eq_true rfl, if_pos rfl, if_pos rfl, sameInst _ _ _ _ _ (by omega) (by omega), Option.bind_some, decide_eq_true rfl, decide_eq_true rfl, Bool.and_self, if_pos rfl, if_pos (beq_self_eq_true _), if_pos rfl, awake_is _ (by omega)]
  rfl
theorem TokenReads : intarsialaw23_TokenReads.Pure := fun a0 _ => by
  refine ⟨40, ?_⟩
  obtain ⟨s, rfl⟩ : ∃ s, a0 = ba s := ⟨_, eq_ba a0⟩
  unfold intarsialaw23_TokenReads.f
  rw [ba_size]
  by_cases h : (s.length : Int) > 100
  · rw [if_pos h, awake_is _ (by omega)]; rfl
  · have h1 := Rd_len s
    have h2 := Ul_len s
    rw [if_neg h, untags, Option.bind_some, runtags _ (by omega) _ (by omega), Option.bind_some, unleft, Option.bind_some, runleft _ (by omega) _ (by omega), Option.bind_some, same _ _ _ (by omega) (by omega), Option.bind_some, decide_eq_true rfl, if_pos rfl, if_pos rfl,
      same _ _ _ (by omega) (by omega), Option.bind_some, decide_eq_true rfl, if_pos rfl, if_pos rfl, bne_self_eq_false]
    exact reads_j s (by omega)
end Go.Proofs.Ythlkkpaihomfjaa.Pure
