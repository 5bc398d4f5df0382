/- The law of set slots, in plain terms. -/
import Derived.Test.YtiapecjiedhaoaaDirs
import Derived.Test.YtiapecjiedhaoaaMDirx10
namespace Go.Proofs.Ytiapecjiedhaoaa.Dirs
open Go.RowKit Go.Proofs.Ytiapecjiedhaoaa.Hand Go.Proofs.Ytiapecjiedhaoaa.MDir Go.Proofs.YtiapecjiedhaoaaW.PrintWords Go.Proofs.YtiapecjiedhaoaaW.PrintLast
theorem top_half (h : Int) (d : Nat) (hd : d < 32) : topOf h (d + 1) / 2 = topOf h d := by
  unfold topOf
  rw [Int.ediv_ediv_of_nonneg (Int.le_of_lt (pow2 _)), show 32 - d = (32 - (d + 1)) + 1 by omega, Int.pow_succ]
theorem own_is (d : Int) (l : List Int) (hl : l.length ≤ 1000000) : dir_own.f d l = some (d, l) := by
  unfold dir_own.f slices_Clone_int_int.f
  rw [if_pos (by omega), Option.bind_some]
theorem pow_le (a b : Nat) (h : a ≤ b) : (2 : Int) ^ a ≤ 2 ^ b := by
  have := Nat.pow_le_pow_right (show 0 < 2 by decide) h
  exact_mod_cast this
theorem pow10 (a : Nat) (h : a ≤ 10) : (2 : Int) ^ a ≤ 1024 := by
  have := pow_le a 10 h
  simpa using this
theorem pow_cast (n : Nat) : ((2 ^ n : Nat) : Int) = 2 ^ n := by
  rw [Int.natCast_pow]; rfl
theorem shl_is (x : Int) (n : Nat) (hx0 : 0 ≤ x) (hx : x ≤ 100000) (hn : n ≤ 10) : shl .i64 x (n : Int) = x * 2 ^ n := by
  have hp := pow10 n hn
  have hp0 := pow2 n
  have h1 : x * 2 ^ n ≤ 100000 * 1024 := Int.mul_le_mul hx hp (Int.le_of_lt hp0) (by decide)
  have h0 : 0 ≤ x * 2 ^ n := Int.mul_nonneg hx0 (Int.le_of_lt hp0)
  unfold shl
  rw [show min ((n : Int)).toNat (IntKind.bits .i64) = n by show min ((n : Int)).toNat 64 = n; omega, IntKind.wrap_i64]
  omega
theorem shr_is (x : Int) (n : Nat) (hn : n ≤ 10) : shr .i64 x (n : Int) = x / 2 ^ n := by
  unfold shr
  rw [show min ((n : Int)).toNat (IntKind.bits .i64) = n by show min ((n : Int)).toNat 64 = n; omega]
/-- The slots from 'from' on, n of them, are set. -/
def setFrom (l : List Int) (fr : Nat) (v : Int) : Nat → List Int
  | 0 => l
  | n + 1 => (setFrom l fr v n).set (fr + n) v
theorem setFrom_len (l : List Int) (fr : Nat) (v : Int) : ∀ n, (setFrom l fr v n).length = l.length
  | 0 => rfl
  | n + 1 => by rw [setFrom, List.length_set, setFrom_len l fr v n]
theorem setFrom_get (l : List Int) (fr : Nat) (v : Int) (j : Nat) (hj : j < l.length) : ∀ n, (setFrom l fr v n)[j]? = some (if fr ≤ j ∧ j < fr + n then v else l[j])
  | 0 => by rw [setFrom, if_neg (by omega), List.getElem?_eq_getElem hj]
  | n + 1 => by
    rw [setFrom, List.getElem?_set]
    by_cases h : fr + n = j
    · rw [if_pos h, if_pos (by rw [setFrom_len]; omega), if_pos (by omega)]
    · rw [if_neg h, setFrom_get l fr v j hj n]
      by_cases h2 : fr ≤ j ∧ j < fr + n
      · rw [if_pos h2, if_pos (by omega)]
      · rw [if_neg h2, if_neg (by omega)]
theorem setFrom_rd (l : List Int) (fr n : Nat) (v : Int) (j : Nat) (hj : j < l.length) : rd (setFrom l fr v n) (j : Int) = if fr ≤ j ∧ j < fr + n then v else rd l (j : Int) := by
  unfold rd
  rw [Int.toNat_natCast, List.getD_eq_getElem?_getD, List.getD_eq_getElem?_getD, setFrom_get l fr v j hj n, List.getElem?_eq_getElem hj]
  rfl
theorem setFrom_mem (l : List Int) (fr : Nat) (v : Int) : ∀ (n : Nat) (x : Int), x ∈ setFrom l fr v n → x ∈ l ∨ x = v
  | 0, x, h => .inl h
  | n + 1, x, h => by
    rcases List.mem_or_eq_of_mem_set h with h | h
    · exact setFrom_mem l fr v n x h
    · exact .inr h
theorem set_l (p v d : Int) (l l0 : List Int) (low : Nat) (hlow : low ≤ 10) (hp0 : 0 ≤ p) (hp : p ≤ 100000) (hfit : (p + 1) * 2 ^ low ≤ (l.length : Int)) (hl : l.length ≤ 100000) (m : Nat) : ∀ (k i : Nat), ((i + m : Nat) : Int) = 2 ^ low →
    dir_Set.l0 (k + m + 1) p v (setFrom l (p * 2 ^ low).toNat v i) (low : Int) (2 ^ low) (i : Int) d l0 = some (d, setFrom l (p * 2 ^ low).toNat v (i + m)) := by
  have hpl := pow2 low
  have hpm : 0 ≤ p * 2 ^ low := Int.mul_nonneg hp0 (Int.le_of_lt hpl)
  have hfit' : p * 2 ^ low + 2 ^ low ≤ (l.length : Int) := by rw [Int.add_mul, Int.one_mul] at hfit; exact hfit
  induction m with
  | zero =>
    intro k i hi
    rw [dir_Set.l0, if_neg (by omega), Nat.add_zero]
  | succ m ih =>
    intro k i hi
    rw [show k + (m + 1) + 1 = (k + m + 1) + 1 from rfl, dir_Set.l0, if_pos (by omega), if_pos (by omega), shl_is p low hp0 hp hlow, wrap_id (x := p * 2 ^ low + (i : Int)) (by omega) (by omega), if_pos (by omega), if_pos (by rw [setFrom_len]; omega), wrap_id (x := (i : Int) + 1) (by omega) (by omega)]
    have e : (p * 2 ^ low + (i : Int)).toNat = (p * 2 ^ low).toNat + i := by omega
    rw [e]
    have h := ih k (i + 1) (by omega)
    rw [show i + 1 + m = i + (m + 1) by omega] at h
    exact h
/-- What dir.Set tells where it sets. -/
theorem set_is (d : Int) (l : List Int) (hok : Ok d l) (hl : l.length ≤ 1000) (p : Int) (dep : Nat) (hdep : (dep : Int) ≤ d) (hp0 : 0 ≤ p) (hp : p < 2 ^ dep) (v : Int) (hv0 : 1 ≤ v) (hv1 : v ≤ 3000) (k : Nat) (hk : 2000 ≤ k) :
    dir_Set.f k d l p (dep : Int) v = some (d, setFrom l (p * 2 ^ (d.toNat - dep)).toNat v (2 ^ (d.toNat - dep))) := by
  have hc := (chk_ok d l).mpr hok
  obtain ⟨g0, g1, g2, g3⟩ := hok
  obtain ⟨n, rfl⟩ := Int.eq_ofNat_of_zero_le g0
  rw [Int.toNat_natCast] at g3 ⊢
  have hd10 : dep ≤ 10 := by omega
  have hpd := pow10 dep hd10
  have hlow := pow10 (n - dep) (by omega)
  have e2 : (2 : Int) ^ dep * 2 ^ (n - dep) = 2 ^ n := by rw [← Int.pow_add, show dep + (n - dep) = n by omega]
  have hfit : (p + 1) * 2 ^ (n - dep) ≤ (l.length : Int) := by
    rw [g3, ← e2]
    exact Int.mul_le_mul_of_nonneg_right (by omega) (Int.le_of_lt (pow2 _))
  obtain ⟨j, rfl⟩ : ∃ j, k = (j + 2 ^ (n - dep) + 1) + 1 := by
    have h1 := pow_cast (n - dep)
    exact ⟨k - 2 ^ (n - dep) - 2, by omega⟩
  have hsl : dir_slot.f v = some true := by
    unfold dir_slot.f
    rw [if_pos (by omega), decide_eq_true (by omega)]
  unfold dir_Set.f
  rw [may_is, Option.bind_some, if_pos (by rw [hc]; rfl), if_neg (by omega), if_neg (by omega), if_neg (by omega), if_pos (by omega), shr_is p dep hd10, if_pos (Int.ediv_eq_zero_of_lt hp0 hp), hsl, Option.bind_some]
  rw [show (!true) = false from rfl, dir_Set.j0, if_neg (by decide)]
  have hcl : slices_Clone_int_int.f l = some l := by unfold slices_Clone_int_int.f; rw [if_pos (by omega)]
  rw [hcl, Option.bind_some, wrap_id (x := (n : Int) - (dep : Int)) (by omega) (by omega), if_pos (by omega)]
  have e3 : (n : Int) - (dep : Int) = ((n - dep : Nat) : Int) := by omega
  rw [e3]
  have hs1 : shl .i64 1 ((n - dep : Nat) : Int) = 2 ^ (n - dep) := by rw [shl_is 1 (n - dep) (by decide) (by decide) (by omega), Int.one_mul]
  rw [hs1]
  have h := set_l p v (n : Int) l l (n - dep) (by omega) hp0 (by omega) hfit (by omega) (2 ^ (n - dep)) j 0 (by rw [Nat.zero_add, pow_cast])
  rw [Nat.zero_add] at h
  exact h
/-- Where dir.Set sets nothing. -/
theorem set_off (d : Int) (l : List Int) (hok : Ok d l) (hl : l.length ≤ 1000) (p : Int) (dep : Nat) (hdep : (dep : Int) ≤ d) (hp : ¬ (0 ≤ p ∧ p < 2 ^ dep)) (v : Int) (k : Nat) (hk : 2000 ≤ k) :
    dir_Set.f k d l p (dep : Int) v = some (d, l) := by
  have hc := (chk_ok d l).mpr hok
  obtain ⟨g0, g1, g2, g3⟩ := hok
  obtain ⟨j, rfl⟩ : ∃ j, k = j + 1 := ⟨k - 1, by omega⟩
  have hj : ∀ x, dir_Set.j0 (j + 1) p (dep : Int) v true x l = some (x, l) := by
    intro x
    rw [dir_Set.j0, if_pos rfl, own_is x l (by omega), Option.bind_some]
  unfold dir_Set.f
  rw [may_is, Option.bind_some, if_pos (by rw [hc]; rfl), if_neg (by omega), if_neg (by omega)]
  by_cases hp0 : p < 0
  · rw [if_pos hp0]
    exact hj d
  · rw [if_neg hp0, if_pos (by omega), shr_is p dep (by omega), if_neg]
    · exact hj d
    · intro e
      apply hp
      refine ⟨by omega, ?_⟩
      have h3 := Int.lt_mul_ediv_self_add (x := p) (pow2 dep)
      rw [e, Int.mul_zero, Int.zero_add] at h3
      exact h3
theorem top_low (h : Int) (n dep : Nat) (hd : dep ≤ n) (hn : n ≤ 32) : topOf h n / 2 ^ (n - dep) = topOf h dep := by
  unfold topOf
  rw [Int.ediv_ediv_of_nonneg (Int.le_of_lt (pow2 _)), ← Int.pow_add, show 32 - n + (n - dep) = 32 - dep by omega]
section
variable (s : ByteArray) (h : Int) (hh : In32 h) (d : Int) (l : List Int) (hok : Ok d l) (hl : l.length ≤ 1000) (dep : Nat) (hdep : (dep : Int) ≤ d) (v : Int) (hv0 : 1 ≤ v) (hv1 : v ≤ 3000)
include hok hl hdep hv0 hv1
theorem set_ok (hh : In32 h) (p : Int) (hp : 0 ≤ p ∧ p < 2 ^ dep) (k : Nat) (hk : 2000 ≤ k) : ∃ l', dir_Set.f k d l p (dep : Int) v = some (d, l') ∧ chk d l' = 0 ∧ atOf h d l' = if p = topOf h dep then v else atOf h d l := by
  have hc := (chk_ok d l).mpr hok
  refine ⟨_, set_is d l hok hl p dep hdep hp.1 hp.2 v hv0 hv1 k hk, ?_⟩
  have hc2 : chk d (setFrom l (p * 2 ^ (d.toNat - dep)).toNat v (2 ^ (d.toNat - dep))) = 0 := by
    refine (chk_ok _ _).mpr ⟨hok.1, hok.2.1, fun x hx => ?_, ?_⟩
    · rcases setFrom_mem _ _ _ _ _ hx with hx | hx
      · exact hok.2.2.1 x hx
      · omega
    · rw [setFrom_len]; exact hok.2.2.2
  refine ⟨hc2, ?_⟩
  have ht := top_lt h hh d l hc
  have hlow := top_low h d.toNat dep (by omega) (by have := hok.2.1; omega)
  unfold atOf
  rw [if_pos hc2, if_pos hc]
  obtain ⟨P, hP⟩ := Int.eq_ofNat_of_zero_le ht.1
  have hcast : ((2 ^ (d.toNat - dep) : Nat) : Int) = 2 ^ (d.toNat - dep) := by exact pow_cast _
  have hpl := pow2 (d.toNat - dep)
  have hpm : 0 ≤ p * 2 ^ (d.toNat - dep) := Int.mul_nonneg hp.1 (Int.le_of_lt hpl)
  rw [hP] at ht hlow ⊢
  rw [setFrom_rd _ _ _ _ P (by omega)]
  by_cases he : p = topOf h dep
  · rw [if_pos he, if_pos]
    have h1 := Int.emod_nonneg (P : Int) (Int.ne_of_gt hpl)
    have h2 := Int.emod_lt_of_pos (P : Int) hpl
    have h3 := Int.emod_add_mul_ediv (P : Int) (2 ^ (d.toNat - dep))
    rw [hlow, ← he, Int.mul_comm] at h3
    omega
  · rw [if_neg he, if_neg]
    intro hin
    apply he
    rw [← hlow]
    have h4 : p ≤ (P : Int) / 2 ^ (d.toNat - dep) := Int.le_ediv_of_mul_le hpl (by omega)
    have h5 : (P : Int) / 2 ^ (d.toNat - dep) < p + 1 := Int.ediv_lt_of_lt_mul hpl (by rw [Int.add_mul, Int.one_mul]; omega)
    omega
/-- Set anywhere: what is at the key's place. -/
theorem set_any (hh : In32 h) (p : Int) (k : Nat) (hk : 2000 ≤ k) : ∃ l', dir_Set.f k d l p (dep : Int) v = some (d, l') ∧ chk d l' = 0 ∧ (p ≠ topOf h dep → atOf h d l' = atOf h d l) := by
  by_cases hp : 0 ≤ p ∧ p < 2 ^ dep
  · obtain ⟨l', h1, h2, h3⟩ := set_ok h d l hok hl dep hdep v hv0 hv1 hh p hp k hk
    exact ⟨l', h1, h2, fun hne => by rw [h3, if_neg hne]⟩
  · exact ⟨l, set_off d l hok hl p dep hdep hp v k hk, (chk_ok d l).mpr hok, fun _ => rfl⟩
theorem sets_j2 (hh : In32 h) (hof : ∀ k, s.size < k → mix_Of.f k s = some h) (hs : s.size ≤ 1000) (l1 : List Int) (hc1 : chk d l1 = 0) (ha1 : atOf h d l1 = v) (q : Int) (hq : q ≠ topOf h dep) (a0 : Int) (k : Nat) (hk : 2000 ≤ k) :
    intarsialaw11_DirSets.j2 (k + 1) s q a0 (dep : Int) v d l d l1 = some true := by
  obtain ⟨l2, h2, _, h4⟩ := set_any h d l hok hl dep hdep v hv0 hv1 hh q k hk
  rw [intarsialaw11_DirSets.j2, h2, Option.bind_some, at_is s h hh hof k (by omega), Option.bind_some, if_pos ha1, at_is s h hh hof k (by omega), Option.bind_some, at_is s h hh hof k (by omega), Option.bind_some, if_pos (h4 hq), check_is, Option.bind_some, if_pos hc1]
  rfl
theorem sets_l (hh : In32 h) (hof : ∀ k, s.size < k → mix_Of.f k s = some h) (hs : s.size ≤ 1000) (a0 : Int) (m : Nat) : ∀ (k i : Nat), (dep : Int) + i + m = d → 2001 ≤ k →
    intarsialaw11_DirSets.l0 (k + m + 1) s (topOf h (dep + m)) ((dep : Int) + i) d l a0 (dep : Int) v d l = some true := by
  have hd10 := hok.2.1
  induction m with
  | zero =>
    intro k i hi hk
    obtain ⟨j, rfl⟩ : ∃ j, k = j + 1 := ⟨k - 1, by omega⟩
    have hp := topOf_in h hh dep (by omega)
    have h10 := pow10 dep (by omega)
    obtain ⟨l1, h1, h2, h3⟩ := set_ok h d l hok hl dep hdep v hv0 hv1 hh (topOf h dep) hp (j + 1) (by omega)
    rw [if_pos rfl] at h3
    rw [intarsialaw11_DirSets.l0, if_neg (by omega), Nat.add_zero dep, h1, Option.bind_some]
    dsimp only
    rw [wrap_id (x := topOf h dep - 1) (by omega) (by omega), wrap_id (x := topOf h dep + 1) (by omega) (by omega)]
    split
    · exact sets_j2 s h d l hok hl dep hdep v hv0 hv1 hh hof hs l1 h2 h3 _ (by omega) a0 j (by omega)
    · exact sets_j2 s h d l hok hl dep hdep v hv0 hv1 hh hof hs l1 h2 h3 _ (by omega) a0 j (by omega)
  | succ m ih =>
    intro k i hi hk
    have hp := topOf_in h hh (dep + (m + 1)) (by omega)
    have h10 := pow10 (dep + (m + 1)) (by omega)
    have hth := top_half h (dep + m) (by omega)
    rw [show k + (m + 1) + 1 = (k + m + 1) + 1 from rfl, intarsialaw11_DirSets.l0, if_pos (by omega), Int.tdiv_eq_ediv_of_nonneg hp.1, show dep + (m + 1) = dep + m + 1 from rfl, hth]
    have hp2 := topOf_in h hh (dep + m) (by omega)
    have h11 := pow10 (dep + m) (by omega)
    rw [wrap_id (x := topOf h (dep + m)) (by omega) (by omega), wrap_id (x := (dep : Int) + i + 1) (by omega) (by omega)]
    have h := ih k (i + 1) (by omega) hk
    rw [show (dep : Int) + ((i + 1 : Nat) : Int) = (dep : Int) + i + 1 by omega] at h
    exact h
end
theorem sets (s : ByteArray) (d : Int) (l : List Int) (a b c : Int) (_wa : (Lit.int .i64 a).wf = true) (_wb : (Lit.int .i64 b).wf = true) (_wc : (Lit.int .i64 c).wf = true) : ∃ k, intarsialaw11_DirSets.f k d l s a b c = some true := by
  refine ⟨2013, ?_⟩
  have hj : ∀ x, intarsialaw11_DirSets.j0 2013 s true x l a b c = some true := by
    intro x
    rw [intarsialaw11_DirSets.j0, if_pos rfl]
    rfl
  unfold intarsialaw11_DirSets.f
  by_cases h1 : (l.length : Int) > 300
  · rw [if_pos h1]
    exact hj d
  · by_cases h2 : (s.size : Int) > 300
    · rw [if_neg h1, if_pos h2]
      exact hj d
    · rw [if_neg h1, if_neg h2, check_is, Option.bind_some]
      by_cases hc : chk d l = 0
      · rw [if_pos hc]
        by_cases h3 : b < 0
        · rw [if_pos h3]
          exact hj d
        · rw [if_neg h3]
          by_cases h4 : b > d
          · rw [if_pos h4]
            exact hj d
          · rw [if_neg h4]
            by_cases h5 : c < 1
            · rw [if_pos h5]
              exact hj d
            · rw [if_neg h5]
              by_cases h6 : c > 3000
              · rw [decide_eq_true h6]
                exact hj d
              · obtain ⟨h, hh, hof⟩ := of_is s (by omega)
                obtain ⟨dep, rfl⟩ := Int.eq_ofNat_of_zero_le (show 0 ≤ b by omega)
                have hok := (chk_ok d l).mp hc
                have hm : d.toNat = dep + (d.toNat - dep) := by omega
                have hd10 := hok.2.1
                rw [decide_eq_false h6, intarsialaw11_DirSets.j0, if_neg (by decide), place_is s h hh hof _ (by omega), Option.bind_some]
                unfold placeOf
                rw [if_pos hc, hm]
                have hg := sets_l s h d l hok (by omega) dep (by omega) c (by omega) (by omega) hh hof (by omega) a (d.toNat - dep) (2011 - (d.toNat - dep)) 0 (by omega) (by omega)
                rw [show 2011 - (d.toNat - dep) + (d.toNat - dep) + 1 = 2012 by omega, show (dep : Int) + ((0 : Nat) : Int) = dep by omega] at hg
                exact hg
      · rw [if_neg hc]
        exact hj d
end Go.Proofs.Ytiapecjiedhaoaa.Dirs
