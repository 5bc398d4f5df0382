/- Plain laws of the tokens: the texts of tags, laid and read. -/
import Derived.Test.YthlkkpaihomfjaaMTokx9
namespace Go.Proofs.Ythlkkpaihomfjaa.Tags
open Go.RowKit Go.Proofs.Ythlkkpaihomfjaa.Hand Go.Proofs.Ythlkkpaihomfjaa.MTok Go.Proofs.YthlkkpaihomfjaaW.PrintWords Go.Proofs.YthlkkpaihomfjaaW.PrintLast Go.Proofs.YthlkkpaihomfjaaW.PrintMore

def be6 (n : Int) : List Int := [n / 1099511627776 % 256, n / 4294967296 % 256, n / 16777216 % 256, n / 65536 % 256, n / 256 % 256, n % 256]
def be2 (n : Int) : List Int := [n / 256 % 256, n % 256]

theorem wrap_id {x : Int} (h0 : -9223372036854775808 ≤ x) (h1 : x ≤ 9223372036854775807) : wrap64 x = x := by
  unfold wrap64; omega
theorem wrap_lit (n : Nat) (h : n < 1000) : wrap64 (n : Int) = n := wrap_id (by omega) (by omega)
theorem shr_def (x : Int) (y : Int) : shr .i64 x y = x / 2 ^ min y.toNat 64 := rfl
theorem may6 : num_may.f 6 = some true := rfl
theorem may2 : num_may.f 2 = some true := rfl
theorem put6_l (k : Nat) (n : Int) : num_Put.l0 (k + 7) n 6 [0, 0, 0, 0, 0, 0] 6 0 = some (be6 n, 0) := by
  have e0 : wrap64 (8 * 0) = 0 := by decide +kernel
  have e1 : wrap64 (8 * 1) = 8 := by decide +kernel
  have e2 : wrap64 (8 * 2) = 16 := by decide +kernel
  have e3 : wrap64 (8 * 3) = 24 := by decide +kernel
  have e4 : wrap64 (8 * 4) = 32 := by decide +kernel
  have e5 : wrap64 (8 * 5) = 40 := by decide +kernel
  have f0 : wrap64 (wrap64 (6 - 1) - 0) = 5 := by decide +kernel
  have f1 : wrap64 (wrap64 (6 - 1) - 1) = 4 := by decide +kernel
  have f2 : wrap64 (wrap64 (6 - 1) - 2) = 3 := by decide +kernel
  have f3 : wrap64 (wrap64 (6 - 1) - 3) = 2 := by decide +kernel
  have f4 : wrap64 (wrap64 (6 - 1) - 4) = 1 := by decide +kernel
  have f5 : wrap64 (wrap64 (6 - 1) - 5) = 0 := by decide +kernel
  have g0 : wrap64 (0 + 1) = 1 := by decide +kernel
  have g1 : wrap64 (1 + 1) = 2 := by decide +kernel
  have g2 : wrap64 (2 + 1) = 3 := by decide +kernel
  have g3 : wrap64 (3 + 1) = 4 := by decide +kernel
  have g4 : wrap64 (4 + 1) = 5 := by decide +kernel
  have g5 : wrap64 (5 + 1) = 6 := by decide +kernel
  have s0 : shr .i64 n 0 = n := by rw [shr_def, show min (0 : Int).toNat 64 = 0 from rfl]; simp
  have s1 : shr .i64 n 8 = n / 256 := rfl
  have s2 : shr .i64 n 16 = n / 65536 := rfl
  have s3 : shr .i64 n 24 = n / 16777216 := rfl
  have s4 : shr .i64 n 32 = n / 4294967296 := rfl
  have s5 : shr .i64 n 40 = n / 1099511627776 := rfl
  unfold be6
  rw [num_Put.l0, e0, f0, g0, s0, num_Put.l0, e1, f1, g1, s1, num_Put.l0, e2, f2, g2, s2, num_Put.l0, e3, f3, g3, s3, num_Put.l0, e4, f4, g4, s4, num_Put.l0, e5, f5, g5, s5, num_Put.l0]
  simp
theorem put6 (k : Nat) (n : Int) (h : 0 ≤ n) (h1 : n < 281474976710656) : num_Put.f (k + 7) n 6 = some (be6 n, 0) := by
  have e : wrap64 (8 * 6) = 48 := by decide +kernel
  have s : shr .i64 n 48 = n / 281474976710656 := rfl
  have z : n / 281474976710656 = 0 := by omega
  have hn : ¬ n < 0 := by omega
  unfold num_Put.f
  rw [may6, Option.bind_some, if_pos rfl, if_neg hn, e, s, if_pos (by decide +kernel), if_pos z, if_pos (by decide +kernel), if_pos (by decide +kernel)]
  exact put6_l k n
theorem put6_bad (k : Nat) (n : Int) (h : n < 0 ∨ 281474976710656 ≤ n) : num_Put.f k n 6 = some ([], 12) := by
  have e : wrap64 (8 * 6) = 48 := by decide +kernel
  have s : shr .i64 n 48 = n / 281474976710656 := rfl
  unfold num_Put.f
  rw [may6, Option.bind_some, if_pos rfl]
  by_cases hn : n < 0
  · rw [if_pos hn]
  · have z : ¬ n / 281474976710656 = 0 := by omega
    rw [if_neg hn, e, s, if_pos (by decide +kernel), if_neg z]
theorem put2_l (k : Nat) (n : Int) : num_Put.l0 (k + 3) n 2 [0, 0] 2 0 = some (be2 n, 0) := by
  have e0 : wrap64 (8 * 0) = 0 := by decide +kernel
  have e1 : wrap64 (8 * 1) = 8 := by decide +kernel
  have f0 : wrap64 (wrap64 (2 - 1) - 0) = 1 := by decide +kernel
  have f1 : wrap64 (wrap64 (2 - 1) - 1) = 0 := by decide +kernel
  have g0 : wrap64 (0 + 1) = 1 := by decide +kernel
  have g1 : wrap64 (1 + 1) = 2 := by decide +kernel
  have s0 : shr .i64 n 0 = n := by rw [shr_def, show min (0 : Int).toNat 64 = 0 from rfl]; simp
  have s1 : shr .i64 n 8 = n / 256 := rfl
  unfold be2
  rw [num_Put.l0, e0, f0, g0, s0, num_Put.l0, e1, f1, g1, s1, num_Put.l0]
  simp
theorem put2 (k : Nat) (n : Int) (h : 0 ≤ n) (h1 : n < 65536) : num_Put.f (k + 3) n 2 = some (be2 n, 0) := by
  have e : wrap64 (8 * 2) = 16 := by decide +kernel
  have s : shr .i64 n 16 = n / 65536 := rfl
  have z : n / 65536 = 0 := by omega
  have hn : ¬ n < 0 := by omega
  unfold num_Put.f
  rw [may2, Option.bind_some, if_pos rfl, if_neg hn, e, s, if_pos (by decide +kernel), if_pos z, if_pos (by decide +kernel), if_pos (by decide +kernel)]
  exact put2_l k n
theorem put2_bad (k : Nat) (n : Int) (h : n < 0 ∨ 65536 ≤ n) : num_Put.f k n 2 = some ([], 12) := by
  have e : wrap64 (8 * 2) = 16 := by decide +kernel
  have s : shr .i64 n 16 = n / 65536 := rfl
  unfold num_Put.f
  rw [may2, Option.bind_some, if_pos rfl]
  by_cases hn : n < 0
  · rw [if_pos hn]
  · have z : ¬ n / 65536 = 0 := by omega
    rw [if_neg hn, e, s, if_pos (by decide +kernel), if_neg z]

/-! ### texts -/
def U (l : List Int) : List UInt8 := l.map fun x => UInt8.ofNat x.toNat
def enc (l : List Int) : List UInt8 := l.flatMap fun n => U (be6 n)
def Ok (l : List Int) : Prop := ∀ n ∈ l, 0 ≤ n ∧ n ≤ 1099511627776
def ba (l : List UInt8) : ByteArray := ⟨l.toArray⟩
theorem ba_list (l : List UInt8) : (ba l).toList = l := by rw [ByteArray.toList_eq]; rfl
theorem ba_data (l : List UInt8) : (ba l).data.toList = l := rfl
theorem ba_size (l : List UInt8) : (ba l).size = l.length := rfl
theorem ba_append (l m : List UInt8) : ba l ++ ba m = ba (l ++ m) := by
  apply ByteArray.ext
  rw [ByteArray.data_append]
  simp [ba]
theorem str_ba (l : List Int) : strOfNums l = ba (U l) := rfl
theorem be6_byte (n : Int) : ∀ x ∈ be6 n, 0 ≤ x ∧ x ≤ 255 := by
  intro x hx
  simp only [be6, List.mem_cons, List.not_mem_nil, or_false] at hx
  rcases hx with h | h | h | h | h | h <;> rw [h] <;> omega

theorem go_ok : ∀ (l : List Int) (acc : List UInt8), Ok l → token_tags.go l acc = some (ba (acc ++ enc l), 0)
  | [], acc, _ => by simp [token_tags.go, enc, ba]
  | n :: r, acc, h => by
    have hn := h n (List.mem_cons_self ..)
    have hr : Ok r := fun x hx => h x (List.mem_cons_of_mem _ hx)
    rw [token_tags.go, show (8 : Nat) = 1 + 7 from rfl, put6 1 n hn.1 (by omega), Option.bind_some, if_pos rfl, if_neg (by omega), if_pos ⟨by simp [be6], be6_byte n, by simp [be6]⟩]
    rw [go_ok r _ hr]
    simp [enc, U]
theorem go_bad : ∀ (l : List Int) (acc : List UInt8), ¬ Ok l → token_tags.go l acc = some (ba [], 22)
  | [], acc, h => absurd (fun _ hx => absurd hx (List.not_mem_nil)) h
  | n :: r, acc, h => by
    rw [token_tags.go]
    by_cases hb : n < 0 ∨ 281474976710656 ≤ n
    · rw [put6_bad _ n hb, Option.bind_some, if_neg (by decide +kernel)]
      rfl
    · rw [show (8 : Nat) = 1 + 7 from rfl, put6 1 n (by omega) (by omega), Option.bind_some, if_pos rfl]
      by_cases hm : n > 1099511627776
      · rw [if_pos hm]; rfl
      · rw [if_neg hm, if_pos ⟨by simp [be6], be6_byte n, by simp [be6]⟩]
        refine go_bad r _ fun hr => h fun x hx => ?_
        rcases List.mem_cons.mp hx with e | e
        · rw [e]; omega
        · exact hr x e
/-- The text of some tags, or why there is none. -/
noncomputable def T (l : List Int) : ByteArray × Int := open Classical in if 5 < l.length then (ba [], 5) else if Ok l then (ba (enc l), 0) else (ba [], 22)
theorem tags_is (l : List Int) : token_tags.f l = some (T l) := by
  unfold token_tags.f T
  by_cases h : 5 < l.length
  · rw [if_pos (by omega), if_pos h]; rfl
  · rw [if_neg (by omega), if_neg h]
    by_cases ho : Ok l
    · rw [if_pos ho, go_ok l [] ho]; rfl
    · rw [if_neg ho, go_bad l [] ho]
theorem enc_length : ∀ l, (enc l).length = 6 * l.length
  | [] => rfl
  | n :: r => by
    have := enc_length r
    have e : enc (n :: r) = U (be6 n) ++ enc r := rfl
    rw [e, List.length_append, this, show (U (be6 n)).length = 6 from rfl, List.length_cons]
    omega
theorem T_size (l : List Int) : (T l).1.size ≤ 30 := by
  unfold T
  split
  · simp [ba_size]
  · split
    · rw [ba_size, enc_length]; omega
    · simp [ba_size]
theorem T_err (l : List Int) (h : (T l).2 ≠ 0) : (T l).1 = ba [] := by
  unfold T at h ⊢
  split
  · rfl
  · rename_i h5
    rw [if_neg h5] at h
    split
    · rename_i ho
      rw [if_pos ho] at h
      exact absurd rfl h
    · rfl
theorem T_nil (l : List Int) (h : (T l).2 ≠ 0) : T l = (ba [], (T l).2) := by
  rw [← T_err l h]
theorem T_zero (l : List Int) (h : (T l).2 = 0) : l.length ≤ 5 ∧ Ok l ∧ (T l).1 = ba (enc l) := by
  unfold T at h ⊢
  by_cases h5 : 5 < l.length
  · rw [if_pos h5] at h; cases h
  · rw [if_neg h5] at h ⊢
    by_cases ho : Ok l
    · rw [if_pos ho]; exact ⟨by omega, ho, rfl⟩
    · rw [if_neg ho] at h; cases h
/-! ### joins -/
theorem join_ok : ∀ (ps : List S65) (acc : List UInt8), (∀ p ∈ ps, p.f1 = 0) → acc.length + (ps.map fun p => p.f0.size).sum ≤ 1000 → token_join.go ps acc = some (ba (acc ++ ps.flatMap fun p => p.f0.data.toList), 0)
  | [], acc, _, _ => by simp [token_join.go, ba]
  | p :: r, acc, h, hs => by
    have hs' : acc.length + (p.f0.size + (r.map fun p => p.f0.size).sum) ≤ 1000 := by simpa only [List.map_cons, List.sum_cons] using hs
    rw [token_join.go, if_pos (h p (List.mem_cons_self ..)), if_pos (by omega), join_ok r _ (fun x hx => h x (List.mem_cons_of_mem _ hx))]
    · simp
    · rw [List.length_append]
      have : p.f0.data.toList.length = p.f0.size := Array.length_toList
      omega
theorem Tags_is (l : List Int) : token_Tags.f l = some (T l) := by
  unfold token_Tags.f
  rw [tags_is, Option.bind_some]
  by_cases h : (T l).2 = 0
  · have hz := T_size l
    rw [token_join.f, join_ok _ _ (fun p hp => by rcases List.mem_singleton.mp hp with rfl; exact h) (by simp only [List.length_nil, List.map_cons, List.map_nil, List.sum_cons, List.sum_nil]; omega), Option.bind_some]
    obtain ⟨-, -, e⟩ := T_zero l h
    simp only [List.flatMap_cons, List.flatMap_nil, List.nil_append, List.append_nil]
    rw [show T l = ((T l).1, (T l).2) from rfl, h]
    rfl
  · rw [token_join.f, token_join.go, if_neg h, Option.bind_some, T_nil l h]
    rfl

/-! ### the reference lays the same -/
theorem rput_step (k : Nat) (x : Int) (b : List Int) (i : Int) (h0 : 0 ≤ x) (h1 : x < 281474976710656) (hi0 : 0 ≤ i) (hi : i < 6) (hb : b.length ≤ 6) : intarsiaref01_Put.l0 (k + 1) x 6 b i = intarsiaref01_Put.l0 k (x / 256) 6 (x % 256 :: b) (i + 1) := by
  have e1 : Int.tmod x 256 % 256 = x % 256 := by rw [Int.tmod_eq_emod_of_nonneg h0]; omega
  have e2 : wrap64 (Int.tdiv x 256) = x / 256 := by rw [Int.tdiv_eq_ediv_of_nonneg h0]; exact wrap_id (by omega) (by omega)
  have e3 : wrap64 (i + 1) = i + 1 := wrap_id (by omega) (by omega)
  rw [intarsiaref01_Put.l0, if_pos hi, Option.bind_some, e1, e2, e3, if_pos (by simp; omega)]
  rfl
theorem rput_l (k : Nat) (n : Int) (h0 : 0 ≤ n) (h1 : n < 281474976710656) : intarsiaref01_Put.l0 (k + 7) n 6 [] 0 = some (be6 n, 0) := by
  rw [rput_step _ _ _ _ h0 h1 (by omega) (by omega) (by simp), rput_step _ _ _ _ (by omega) (by omega) (by omega) (by omega) (by simp), rput_step _ _ _ _ (by omega) (by omega) (by omega) (by omega) (by simp),
    rput_step _ _ _ _ (by omega) (by omega) (by omega) (by omega) (by simp), rput_step _ _ _ _ (by omega) (by omega) (by omega) (by omega) (by simp), rput_step _ _ _ _ (by omega) (by omega) (by omega) (by omega) (by simp), intarsiaref01_Put.l0, if_neg (by omega)]
  unfold be6
  have a1 : n / 256 / 256 = n / 65536 := by omega
  have a2 : n / 65536 / 256 = n / 16777216 := by omega
  have a3 : n / 16777216 / 256 = n / 4294967296 := by omega
  have a4 : n / 4294967296 / 256 = n / 1099511627776 := by omega
  rw [a1, a2, a3, a4]
theorem rtop : ∀ k, intarsiaref01_top.f (k + 8) 6 = some 281474976710656 := fun _ => by kernel_rfl
theorem rput (k : Nat) (n : Int) (h0 : 0 ≤ n) (h1 : n < 281474976710656) : intarsiaref01_Put.f (k + 9) n 6 = some (be6 n, 0) := by
  unfold intarsiaref01_Put.f
  rw [if_neg (by decide +kernel), show decide ((6 : Int) > 6) = false from rfl, intarsiaref01_Put.j0, if_neg (by decide +kernel), if_neg (by omega), rtop, Option.bind_some, if_neg (by omega)]
  exact rput_l (k + 1) n h0 h1
theorem rd_mid (pre : List Int) (x : Int) (r : List Int) : rd (pre ++ x :: r) (pre.length : Int) = x := by
  unfold rd
  simp
theorem rtags_l : ∀ (suf pre acc : _) (l : List Int) (k : Nat), l = pre ++ suf → l.length ≤ 6 → acc.length + 6 * suf.length ≤ 1000 → suf.length + 20 ≤ k → (Ok suf → intarsiaref23_Tags.l0 k l (ba acc) pre.length = some (ba (acc ++ enc suf), 0)) ∧ (¬ Ok suf → intarsiaref23_Tags.l0 k l (ba acc) pre.length = some (ba [], 22))
  | [], pre, acc, l, k, hl, hn, hs, hk => by
    obtain ⟨k, rfl⟩ : ∃ j, k = j + 1 := ⟨k - 1, by omega⟩
    refine ⟨fun _ => ?_, fun h => absurd (fun _ hx => absurd hx (List.not_mem_nil)) h⟩
    rw [intarsiaref23_Tags.l0, if_neg (by rw [hl]; simp)]
    simp [enc]
  | x :: r, pre, acc, l, k, hl, hn, hs, hk => by
    rw [List.length_cons] at hs hk
    obtain ⟨k, rfl⟩ : ∃ j, k = j + 12 := ⟨k - 12, by omega⟩
    have hll : l.length = pre.length + (r.length + 1) := by rw [hl]; simp
    have hrd : rd l (pre.length : Int) = x := by rw [hl]; exact rd_mid pre x r
    have hw : wrap64 ((pre.length : Int) + 1) = ((pre ++ [x]).length : Int) := by
      rw [wrap_id (by omega) (by omega)]; simp
    have ih := rtags_l r (pre ++ [x]) (acc ++ U (be6 x)) l (k + 11) (by rw [hl]; simp) hn (by rw [List.length_append, show (U (be6 x)).length = 6 from rfl]; omega) (by omega)
    rw [show k + 12 = (k + 11) + 1 from rfl, intarsiaref23_Tags.l0, if_pos (by omega), if_pos (by omega), hrd]
    by_cases h0 : x < 0
    · rw [if_pos h0]
      exact ⟨fun h => absurd (h x (List.mem_cons_self ..)).1 (by omega), fun _ => rfl⟩
    · rw [if_neg h0]
      by_cases h1 : x > 1099511627776
      · rw [if_pos h1]
        exact ⟨fun h => absurd (h x (List.mem_cons_self ..)).2 (by omega), fun _ => rfl⟩
      · rw [if_neg h1, show k + 11 = (k + 2) + 9 from rfl, rput (k + 2) x (by omega) (by omega), Option.bind_some, hw]
        have hz : (ba acc).size + (strOfNums (be6 x)).size ≤ 9223372036854775807 := by
          rw [str_ba, ba_size, ba_size, show (U (be6 x)).length = 6 from rfl]; omega
        rw [if_pos hz, str_ba, ba_append]
        refine ⟨fun h => ?_, fun h => ?_⟩
        · rw [ih.1 (fun y hy => h y (List.mem_cons_of_mem _ hy))]
          simp [enc]
        · refine ih.2 fun hr => h fun y hy => ?_
          rcases List.mem_cons.mp hy with e | e
          · rw [e]; omega
          · exact hr y e
theorem rtags (k : Nat) (hk : 26 ≤ k) (l : List Int) : intarsiaref23_Tags.f k l = some (T l) := by
  unfold intarsiaref23_Tags.f T
  by_cases h : 5 < l.length
  · rw [if_pos (by omega), if_pos h]; rfl
  · rw [if_neg (by omega), if_neg h]
    have := rtags_l l [] [] l k rfl (by omega) (by simp; omega) (by omega)
    by_cases ho : Ok l
    · rw [if_pos ho]; exact this.1 ho
    · rw [if_neg ho]; exact this.2 ho
/-! ### the rows laid -/
def N2 (n : Int) : ByteArray × Int := if 0 ≤ n ∧ n ≤ 65535 then (ba (U (be2 n)), 0) else (ba [], 12)
theorem number (k : Nat) (hk : 3 ≤ k) (n : Int) : token_number.f k n = some (N2 n) := by
  obtain ⟨k, rfl⟩ : ∃ j, k = j + 3 := ⟨k - 3, by omega⟩
  unfold token_number.f N2
  by_cases h : 0 ≤ n ∧ n ≤ 65535
  · rw [if_pos h, put2 k n h.1 (by omega)]; rfl
  · rw [if_neg h, put2_bad _ n (by omega)]; rfl
theorem two (n : Int) (h : 0 ≤ n ∧ n ≤ 65535) : intarsiaref23_two.f n = some (ba (U (be2 n))) := by
  have e1 : Int.tmod n 256 % 256 = n % 256 := by rw [Int.tmod_eq_emod_of_nonneg h.1]; omega
  have e2 : wrap64 (Int.tdiv n 256) = n / 256 := by rw [Int.tdiv_eq_ediv_of_nonneg h.1]; exact wrap_id (by omega) (by omega)
  unfold intarsiaref23_two.f be2
  rw [e1, e2]; rfl
theorem two_len (n : Int) : (U (be2 n)).length = 2 := rfl
def Nd (a n : Int) : ByteArray × Int := if 0 ≤ n ∧ n ≤ 65535 then (ba (U [a] ++ U (be2 n)), 0) else (ba [], 12)
theorem node (k : Nat) (hk : 3 ≤ k) (a n : Int) : token_Node.f k a n = some (Nd a n) := by
  unfold token_Node.f token_byteOf.f
  rw [Option.bind_some, number k hk, Option.bind_some]
  unfold N2 Nd
  by_cases h : 0 ≤ n ∧ n ≤ 65535
  · rw [if_pos h, if_pos h, token_join.f, join_ok _ _ (by simp) (by simp [str_ba, ba_size, U, be2])]
    rfl
  · rw [if_neg h, if_neg h, token_join.f, token_join.go, if_pos rfl, if_pos (by simp [str_ba, ba_size, U]), token_join.go, if_neg (by decide +kernel)]
    rfl
theorem rnode (a n : Int) : intarsiaref23_Node.f a n = some (Nd a n) := by
  unfold intarsiaref23_Node.f Nd
  by_cases h0 : n < 0
  · rw [if_pos h0, if_neg (by omega)]; rfl
  · by_cases h1 : n > 65535
    · rw [if_neg h0, if_pos h1, if_neg (by omega)]; rfl
    · rw [if_neg h0, if_neg h1, if_pos ⟨by omega, by omega⟩, Option.bind_some, two n ⟨by omega, by omega⟩, Option.bind_some, if_pos (by rw [str_ba, ba_size, ba_size, two_len]; simp [U]), str_ba, ba_append]
noncomputable def Lf (l : List Int) (n : Int) : ByteArray × Int := if (T l).2 = 0 then (if 0 ≤ n ∧ n ≤ 65535 then (ba (U (be2 n) ++ enc l), 0) else (ba [], 12)) else (ba [], (T l).2)
theorem left (k : Nat) (hk : 3 ≤ k) (l : List Int) (n : Int) : token_Left.f k l n = some (Lf l n) := by
  unfold token_Left.f Lf
  rw [tags_is, Option.bind_some]
  by_cases h : (T l).2 = 0
  · obtain ⟨h5, -, e⟩ := T_zero l h
    have hz := enc_length l
    rw [if_pos h, if_pos h, number k hk, Option.bind_some]
    unfold N2
    by_cases hn : 0 ≤ n ∧ n ≤ 65535
    · rw [if_pos hn, if_pos hn, h, e, token_join.f, join_ok _ _ (by simp) (by simp [ba_size, two_len]; omega)]
      simp [ba_data]
    · rw [if_neg hn, if_neg hn, token_join.f, token_join.go, if_neg (by decide +kernel)]
      rfl
  · rw [if_neg h, if_neg h]; rfl
theorem rleft (k : Nat) (hk : 26 ≤ k) (l : List Int) (n : Int) : intarsiaref23_Left.f k l n = some (Lf l n) := by
  unfold intarsiaref23_Left.f Lf
  rw [rtags k hk, Option.bind_some]
  by_cases h : (T l).2 = 0
  · obtain ⟨h5, -, e⟩ := T_zero l h
    have hz := enc_length l
    rw [if_pos h, if_pos h]
    by_cases h0 : n < 0
    · rw [if_pos h0, if_neg (by omega)]; rfl
    · by_cases h1 : n > 65535
      · rw [if_neg h0, if_pos h1, if_neg (by omega)]; rfl
      · rw [if_neg h0, if_neg h1, if_pos ⟨by omega, by omega⟩, two n ⟨by omega, by omega⟩, Option.bind_some, e, if_pos (by rw [ba_size, ba_size, two_len]; omega), ba_append]
  · rw [if_neg h, if_neg h]; rfl
noncomputable def Us (a n : Int) (l : List Int) : ByteArray × Int := if 0 ≤ n ∧ n ≤ 65535 then (if (T l).2 = 0 then (ba (U [a] ++ U (be2 n) ++ enc l), 0) else (ba [], (T l).2)) else (ba [], 12)
theorem use (k : Nat) (hk : 3 ≤ k) (a n : Int) (l : List Int) : token_Use.f k a n l = some (Us a n l) := by
  unfold token_Use.f Us token_byteOf.f
  rw [Option.bind_some, number k hk, Option.bind_some, tags_is, Option.bind_some]
  unfold N2
  by_cases hn : 0 ≤ n ∧ n ≤ 65535
  · rw [if_pos hn, if_pos hn]
    by_cases h : (T l).2 = 0
    · obtain ⟨h5, -, e⟩ := T_zero l h
      have hz := enc_length l
      rw [if_pos h, h, e, token_join.f, join_ok _ _ (by simp) (by simp [str_ba, ba_size, U, be2]; omega)]
      simp [ba_data, str_ba]
    · rw [if_neg h, token_join.f, token_join.go, if_pos rfl, if_pos (by simp [str_ba, ba_size, U]), token_join.go, if_pos rfl, if_pos (by simp [str_ba, ba_size, U, be2, ba_data]), token_join.go, if_neg h]
      rfl
  · rw [if_neg hn, if_neg hn, token_join.f, token_join.go, if_pos rfl, if_pos (by simp [str_ba, ba_size, U]), token_join.go, if_neg (by decide +kernel)]
    rfl
theorem ruse (k : Nat) (hk : 26 ≤ k) (a n : Int) (l : List Int) : intarsiaref23_Use.f k a n l = some (Us a n l) := by
  unfold intarsiaref23_Use.f Us
  rw [rnode, Option.bind_some]
  unfold Nd
  by_cases hn : 0 ≤ n ∧ n ≤ 65535
  · rw [if_pos hn, if_pos rfl, if_pos hn, rtags k hk, Option.bind_some]
    by_cases h : (T l).2 = 0
    · obtain ⟨h5, -, e⟩ := T_zero l h
      have hz := enc_length l
      rw [if_pos h, if_pos h, e, if_pos (by rw [ba_size, ba_size, List.length_append, two_len]; simp [U]; omega), ba_append]
    · rw [if_neg h, if_neg h]; rfl
  · rw [if_neg hn, if_neg (by decide +kernel), if_neg hn]; rfl
noncomputable def En (n : Int) (l : List Int) (b : Bool) : ByteArray × Int := if 0 ≤ n ∧ n ≤ 65535 then (if (T l).2 = 0 then (ba (U (be2 n) ++ U [if b = true then 1 else 0] ++ enc l), 0) else (ba [], (T l).2)) else (ba [], 12)
theorem entry_j (k : Nat) (hk : 3 ≤ k) (x n : Int) (l : List Int) (b : Bool) : token_Entry.j0 (k + 1) x n l b = some (if 0 ≤ n ∧ n ≤ 65535 then (if (T l).2 = 0 then (ba (U (be2 n) ++ U [x] ++ enc l), 0) else (ba [], (T l).2)) else (ba [], 12)) := by
  rw [token_Entry.j0]
  unfold token_byteOf.f
  rw [number k hk, Option.bind_some, Option.bind_some, tags_is, Option.bind_some]
  unfold N2
  by_cases hn : 0 ≤ n ∧ n ≤ 65535
  · rw [if_pos hn, if_pos hn]
    by_cases h : (T l).2 = 0
    · obtain ⟨h5, -, e⟩ := T_zero l h
      have hz := enc_length l
      rw [if_pos h, h, e, token_join.f, join_ok _ _ (by simp) (by simp [str_ba, ba_size, U, be2]; omega)]
      simp [ba_data, str_ba]
    · rw [if_neg h, token_join.f, token_join.go, if_pos rfl, if_pos (by simp [ba_size, U, be2]), token_join.go, if_pos rfl, if_pos (by simp [str_ba, ba_size, U, be2, ba_data]), token_join.go, if_neg h]
      rfl
  · rw [if_neg hn, if_neg hn, token_join.f, token_join.go, if_neg (by decide +kernel)]
    rfl
theorem entry (k : Nat) (hk : 4 ≤ k) (n : Int) (l : List Int) (b : Bool) : token_Entry.f k n l b = some (En n l b) := by
  obtain ⟨k, rfl⟩ : ∃ j, k = j + 1 := ⟨k - 1, by omega⟩
  unfold token_Entry.f En
  cases b
  · rw [if_neg (by decide), entry_j k (by omega)]; rfl
  · rw [if_pos rfl, entry_j k (by omega)]; rfl
theorem rentry (k : Nat) (hk : 27 ≤ k) (n : Int) (l : List Int) (b : Bool) : intarsiaref23_Entry.f k n l b = some (En n l b) := by
  obtain ⟨k, rfl⟩ : ∃ j, k = j + 1 := ⟨k - 1, by omega⟩
  unfold intarsiaref23_Entry.f En
  by_cases h0 : n < 0
  · rw [if_pos h0, intarsiaref23_Entry.j0, if_pos rfl, if_neg (by omega)]; rfl
  · rw [if_neg h0]
    by_cases h1 : n > 65535
    · rw [decide_eq_true h1, intarsiaref23_Entry.j0, if_pos rfl, if_neg (by omega)]; rfl
    · have hn : 0 ≤ n ∧ n ≤ 65535 := ⟨by omega, by omega⟩
      rw [decide_eq_false h1, intarsiaref23_Entry.j0, if_neg (by decide), if_pos hn, rtags k (by omega), Option.bind_some]
      by_cases h : (T l).2 = 0
      · obtain ⟨h5, -, e⟩ := T_zero l h
        have hz := enc_length l
        rw [if_pos h, if_pos h, two n hn, e]
        cases b
        · rw [if_neg (by decide), Option.bind_some, Option.bind_some, if_pos (by rw [str_ba, ba_size, ba_size, two_len]; simp [U]), str_ba, ba_append, if_pos (by rw [ba_size, ba_size, List.length_append, two_len]; simp [U]; omega), ba_append]
          rfl
        · rw [if_pos rfl, Option.bind_some, Option.bind_some, if_pos (by rw [str_ba, ba_size, ba_size, two_len]; simp [U]), str_ba, ba_append, if_pos (by rw [ba_size, ba_size, List.length_append, two_len]; simp [U]; omega), ba_append]
          rfl
      · rw [if_neg h, if_neg h]; rfl

/-! ### reading -/
theorem awake_is (k : Nat) (hk : 9 ≤ k) : intarsialaw23_awake.f k = some true := by
  obtain ⟨k, rfl⟩ : ∃ j, k = j + 9 := ⟨k - 9, by omega⟩
  kernel_rfl
/-- The number of six bytes. -/
def d6 (b : List UInt8) : Int := b.foldl (fun n x => 256 * n + (x.toNat : Int)) 0
theorem be_d6 (b : List UInt8) (h : b.length = 6) : U (be6 (d6 b)) = b ∧ 0 ≤ d6 b ∧ d6 b < 281474976710656 := by
  match b, h with
  | [x0, x1, x2, x3, x4, x5], _ =>
    have h0 := x0.toNat_lt
    have h1 := x1.toNat_lt
    have h2 := x2.toNat_lt
    have h3 := x3.toNat_lt
    have h4 := x4.toNat_lt
    have h5 := x5.toNat_lt
    have e : d6 [x0, x1, x2, x3, x4, x5] = 1099511627776 * (x0.toNat : Int) + 4294967296 * (x1.toNat : Int) + 16777216 * (x2.toNat : Int) + 65536 * (x3.toNat : Int) + 256 * (x4.toNat : Int) + (x5.toNat : Int) := by
      simp only [d6, List.foldl_cons, List.foldl_nil]
      omega
    refine ⟨?_, by omega, by omega⟩
    have q0 : d6 [x0, x1, x2, x3, x4, x5] / 1099511627776 % 256 = x0.toNat := by omega
    have q1 : d6 [x0, x1, x2, x3, x4, x5] / 4294967296 % 256 = x1.toNat := by omega
    have q2 : d6 [x0, x1, x2, x3, x4, x5] / 16777216 % 256 = x2.toNat := by omega
    have q3 : d6 [x0, x1, x2, x3, x4, x5] / 65536 % 256 = x3.toNat := by omega
    have q4 : d6 [x0, x1, x2, x3, x4, x5] / 256 % 256 = x4.toNat := by omega
    have q5 : d6 [x0, x1, x2, x3, x4, x5] % 256 = x5.toNat := by omega
    unfold be6
    rw [q0, q1, q2, q3, q4, q5]
    simp [U]
theorem d6_be (n : Int) (h0 : 0 ≤ n) (h1 : n < 281474976710656) : d6 (U (be6 n)) = n := by
  have e : ∀ x : Int, 0 ≤ x → x < 256 → ((UInt8.ofNat x.toNat).toNat : Int) = x := by
    intro x a b
    rw [UInt8.toNat_ofNat']
    omega
  simp only [U, be6, List.map_cons, List.map_nil, d6, List.foldl_cons, List.foldl_nil]
  rw [e _ (by omega) (by omega), e _ (by omega) (by omega), e _ (by omega) (by omega), e _ (by omega) (by omega), e _ (by omega) (by omega), e _ (by omega) (by omega)]
  omega
/-- The numbers of a text's whole sixes. -/
def dec : Nat → List UInt8 → List Int
  | 0, _ => []
  | m + 1, s => d6 (s.take 6) :: dec m (s.drop 6)
theorem dec_length : ∀ m s, (dec m s).length = m
  | 0, _ => rfl
  | m + 1, s => by rw [dec, List.length_cons, dec_length m]
theorem dec_enc : ∀ l, Ok l → dec l.length (enc l) = l
  | [], _ => rfl
  | n :: r, h => by
    have hn := h n (List.mem_cons_self ..)
    have e : enc (n :: r) = U (be6 n) ++ enc r := rfl
    have e6 : (U (be6 n)).length = 6 := rfl
    rw [e, List.length_cons, dec, List.take_append_of_le_length (by omega), List.take_of_length_le (by omega), d6_be n hn.1 (by omega), List.drop_append_of_le_length (by omega), List.drop_of_length_le (by omega), List.nil_append, dec_enc r (fun x hx => h x (List.mem_cons_of_mem _ hx))]
theorem enc_dec : ∀ m s, s.length = 6 * m → enc (dec m s) = s
  | 0, s, h => by rw [List.length_eq_zero_iff.mp (by omega : s.length = 0)]; rfl
  | m + 1, s, h => by
    have e : ∀ n r, enc (n :: r) = U (be6 n) ++ enc r := fun _ _ => rfl
    rw [dec, e, (be_d6 _ (by rw [List.length_take]; omega)).1, enc_dec m _ (by rw [List.length_drop]; omega), List.take_append_drop]
theorem dec_pos : ∀ m s, 6 * m ≤ s.length → ∀ x ∈ dec m s, 0 ≤ x
  | 0, s, _, x, hx => by cases hx
  | m + 1, s, h, x, hx => by
    rw [dec] at hx
    rcases List.mem_cons.mp hx with e | e
    · rw [e]; exact (be_d6 _ (by rw [List.length_take]; omega)).2.1
    · exact dec_pos m _ (by rw [List.length_drop]; omega) x e
theorem or_add (n x : Int) (h0 : 0 ≤ n) (h1 : n < 1099511627776) (hx : 0 ≤ x) (hx1 : x < 256) : Go.bits .or .i64 (n * 256) x = 256 * n + x := by
  obtain ⟨a, rfl⟩ := Int.eq_ofNat_of_zero_le h0
  obtain ⟨b, rfl⟩ := Int.eq_ofNat_of_zero_le hx
  have := (Go.bits_nat .i64 63 (by decide +kernel) (fun m h0 h1 => by rw [IntKind.wrap_i64]; omega) (2 ^ 8 * a) b (by omega) (by omega)).2
  rw [show ((a : Nat) : Int) * 256 = ((2 ^ 8 * a : Nat) : Int) by omega, this, ← Nat.two_pow_add_eq_or_of_lt (by omega : b < 2 ^ 8) a]
  omega
/-! ### six bytes are read -/
def byteAt (s : List UInt8) (i : Nat) : Int := ((s.getD i 0).toNat : Int)
theorem byteAt_range (s : List UInt8) (i : Nat) : 0 ≤ byteAt s i ∧ byteAt s i < 256 := by
  have := (s.getD i 0).toNat_lt
  unfold byteAt
  omega
theorem nums_ba (s : List UInt8) : strNums (ba s) = s.map fun b => (b.toNat : Int) := rfl
theorem rd_nums (s : List UInt8) (i : Nat) : rd (s.map fun b => (b.toNat : Int)) (i : Int) = byteAt s i := by
  unfold rd byteAt
  rw [Int.toNat_natCast, show (0 : Int) = (fun b : UInt8 => (b.toNat : Int)) 0 from rfl, List.getD_eq_getElem?_getD, List.getElem?_map, List.getD_eq_getElem?_getD]
  cases s[i]? <;> rfl
theorem d6_take (s : List UInt8) (h : 6 ≤ s.length) : d6 (s.take 6) = 256 * (256 * (256 * (256 * (256 * (256 * 0 + byteAt s 0) + byteAt s 1) + byteAt s 2) + byteAt s 3) + byteAt s 4) + byteAt s 5 := by
  match s, h with
  | x0 :: x1 :: x2 :: x3 :: x4 :: x5 :: r, _ => rfl
theorem get_step (k : Nat) (s : List UInt8) (n : Int) (i : Nat) (h0 : 0 ≤ n) (h1 : n < 1099511627776) (hi : i < 6) (hs : 6 ≤ s.length) : num_Get.l0 (k + 1) (s.map fun b => (b.toNat : Int)) n 6 i = num_Get.l0 k (s.map fun b => (b.toNat : Int)) (256 * n + byteAt s i) 6 ((i + 1 : Nat) : Int) := by
  have hb := byteAt_range s i
  rw [num_Get.l0, if_pos (by omega), if_pos (by omega), if_pos (by rw [List.length_map]; omega), rd_nums, wrap_id (x := n * 256) (by omega) (by omega), wrap_id (x := byteAt s i) (by omega) (by omega), or_add n _ h0 h1 hb.1 hb.2, wrap_id (x := (i : Int) + 1) (by omega) (by omega)]
  rfl
theorem rget_step (k : Nat) (s : List UInt8) (n : Int) (i : Nat) (h0 : 0 ≤ n) (h1 : n < 1099511627776) (hi : i < 6) (hs : 6 ≤ s.length) : intarsiaref01_Get.l0 (k + 1) (s.map fun b => (b.toNat : Int)) 6 n i = intarsiaref01_Get.l0 k (s.map fun b => (b.toNat : Int)) 6 (256 * n + byteAt s i) ((i + 1 : Nat) : Int) := by
  have hb := byteAt_range s i
  rw [intarsiaref01_Get.l0, if_pos (by omega), if_pos (by omega), if_pos (by rw [List.length_map]; omega), rd_nums, wrap_id (x := 256 * n) (by omega) (by omega), wrap_id (x := byteAt s i) (by omega) (by omega), wrap_id (x := 256 * n + byteAt s i) (by omega) (by omega), wrap_id (x := (i : Int) + 1) (by omega) (by omega)]
  rfl
theorem get6 (s : List UInt8) (h : 6 ≤ s.length) : num_Get.f 8 (s.map fun b => (b.toNat : Int)) 6 = some (d6 (s.take 6), 0) := by
  have b0 := byteAt_range s 0
  have b1 := byteAt_range s 1
  have b2 := byteAt_range s 2
  have b3 := byteAt_range s 3
  have b4 := byteAt_range s 4
  have b5 := byteAt_range s 5
  unfold num_Get.f
  rw [may6, Option.bind_some, if_pos rfl, if_neg (by rw [List.length_map]; omega), d6_take s h]
  rw [show (0 : Int) = ((0 : Nat) : Int) from rfl]
  rw [get_step 7 s _ 0 (by omega) (by omega) (by omega) h, get_step 6 s _ 1 (by omega) (by omega) (by omega) h, get_step 5 s _ 2 (by omega) (by omega) (by omega) h, get_step 4 s _ 3 (by omega) (by omega) (by omega) h, get_step 3 s _ 4 (by omega) (by omega) (by omega) h, get_step 2 s _ 5 (by omega) (by omega) (by omega) h, num_Get.l0, if_neg (by omega)]
  rfl
theorem rget6 (s : List UInt8) (h : 6 ≤ s.length) : intarsiaref01_Get.f 9 (s.map fun b => (b.toNat : Int)) 6 = some (d6 (s.take 6), 0) := by
  have b0 := byteAt_range s 0
  have b1 := byteAt_range s 1
  have b2 := byteAt_range s 2
  have b3 := byteAt_range s 3
  have b4 := byteAt_range s 4
  have b5 := byteAt_range s 5
  unfold intarsiaref01_Get.f
  rw [if_neg (by decide +kernel), show decide ((6 : Int) > 6) = false from rfl, intarsiaref01_Get.j0, if_neg (by decide), if_neg (by rw [List.length_map]; omega), d6_take s h]
  rw [show (0 : Int) = ((0 : Nat) : Int) from rfl]
  rw [rget_step 7 s _ 0 (by omega) (by omega) (by omega) h, rget_step 6 s _ 1 (by omega) (by omega) (by omega) h, rget_step 5 s _ 2 (by omega) (by omega) (by omega) h, rget_step 4 s _ 3 (by omega) (by omega) (by omega) h, rget_step 3 s _ 4 (by omega) (by omega) (by omega) h, rget_step 2 s _ 5 (by omega) (by omega) (by omega) h, intarsiaref01_Get.l0, if_neg (by omega)]
  rfl
theorem ba_extract (l : List UInt8) (i j : Nat) : (ba l).extract i j = ba ((l.take j).drop i) := by
  apply ByteArray.ext
  rw [ByteArray.data_extract]
  apply Array.toList_inj.mp
  simp [ba, List.extract, List.drop_take]
theorem ba_from (l : List UInt8) (i : Nat) : (ba l).extract i (ba l).size = ba (l.drop i) := by
  rw [ba_extract, ba_size, List.take_of_length_le (by omega)]
theorem untags_go : ∀ (m k : Nat) (s : List UInt8) (out : List Int), s.length = 6 * m → m < k → out.length + m < 1000 → (Ok (dec m s) → token_Untags.go k (ba s) out = some (out ++ dec m s, 0)) ∧ (¬ Ok (dec m s) → token_Untags.go k (ba s) out = some ([], 4))
  | 0, k, s, out, hs, hk, ho => by
    obtain ⟨k, rfl⟩ : ∃ j, k = j + 1 := ⟨k - 1, by omega⟩
    refine ⟨fun _ => ?_, fun h => absurd (fun _ hx => absurd hx (List.not_mem_nil)) h⟩
    rw [token_Untags.go, if_pos (by rw [ba_size]; omega)]
    simp [dec]
  | m + 1, k, s, out, hs, hk, ho => by
    obtain ⟨k, rfl⟩ : ∃ j, k = j + 1 := ⟨k - 1, by omega⟩
    have ht : (s.take 6).length = 6 := by rw [List.length_take]; omega
    have ih := untags_go m k (s.drop 6) (out ++ [d6 (s.take 6)]) (by rw [List.length_drop]; omega) (by omega) (by simp; omega)
    rw [token_Untags.go, if_neg (by rw [ba_size]; omega), if_pos (by rw [ba_size]; omega), ba_extract, List.drop_zero, nums_ba, get6 _ (by omega), Option.bind_some, if_pos rfl, List.take_take, show min 6 6 = 6 from rfl, dec, ba_from]
    by_cases hb : d6 (s.take 6) > 1099511627776
    · rw [if_pos hb]
      exact ⟨fun h => absurd (h _ (List.mem_cons_self ..)).2 (by omega), fun _ => rfl⟩
    · rw [if_neg hb, if_pos (by omega)]
      refine ⟨fun h => ?_, fun h => ?_⟩
      · rw [ih.1 (fun y hy => h y (List.mem_cons_of_mem _ hy))]; simp
      · refine ih.2 fun hr => h fun y hy => ?_
        rcases List.mem_cons.mp hy with e | e
        · rw [e]; exact ⟨(be_d6 _ ht).2.1, by omega⟩
        · exact hr y e
/-- What a text of tags tells. -/
noncomputable def Rd (s : List UInt8) : List Int × Int := open Classical in if s.length % 6 = 0 ∧ s.length ≤ 30 ∧ Ok (dec (s.length / 6) s) then (dec (s.length / 6) s, 0) else ([], 4)
theorem untags (s : List UInt8) : token_Untags.f (ba s) = some (Rd s) := by
  unfold token_Untags.f Rd
  rw [ba_size]
  by_cases h : s.length % 6 = 0 ∧ s.length ≤ 30
  · have hg := untags_go (s.length / 6) 7 s [] (by omega) (by omega) (by simp; omega)
    rw [if_pos h]
    by_cases ho : Ok (dec (s.length / 6) s)
    · rw [if_pos ⟨h.1, h.2, ho⟩, hg.1 ho]; rfl
    · rw [if_neg (fun x => ho x.2.2), hg.2 ho]
  · rw [if_neg h, if_neg (fun x => h ⟨x.1, x.2.1⟩)]
theorem rtags_go : ∀ (k : Nat) (s : List UInt8) (out : List Int), out.length ≤ 6 → 6 - out.length < k → intarsiaref23_tags.go k (ba s) out = some (out ++ dec (min (6 - out.length) (s.length / 6)) s)
  | 0, s, out, ho, hk => absurd hk (by omega)
  | k + 1, s, out, ho, hk => by
    rw [intarsiaref23_tags.go, ba_size]
    by_cases h6 : 6 ≤ s.length
    · rw [if_pos h6]
      by_cases h : out.length < 6
      · rw [if_pos h, nums_ba, rget6 s h6, Option.bind_some, show (ba s).extract 6 s.length = ba (s.drop 6) from ba_from s 6, rtags_go k _ _ (by simp; omega) (by simp; omega)]
        have e : min (6 - out.length) (s.length / 6) = min (6 - (out ++ [d6 (s.take 6)]).length) ((s.drop 6).length / 6) + 1 := by
          rw [List.length_append, List.length_drop, List.length_singleton]; omega
        rw [e, dec]
        simp
      · rw [if_neg h, show min (6 - out.length) (s.length / 6) = 0 by omega]
        simp [dec]
    · rw [if_neg h6, show min (6 - out.length) (s.length / 6) = 0 by omega]
      simp [dec]
theorem runtags (k : Nat) (hk : 26 ≤ k) (s : List UInt8) (hs : s.length ≤ 1000) : intarsiaref23_Untags.f k (ba s) = some (Rd s) := by
  unfold intarsiaref23_Untags.f intarsiaref23_tags.f
  rw [ba_size, if_pos hs, rtags_go 8 s [] (by simp) (by simp), Option.bind_some, rtags k hk, Option.bind_some, List.nil_append, List.length_nil, ba_list]
  generalize hm : min (6 - 0) (s.length / 6) = m
  have hl := dec_length m s
  unfold Rd
  by_cases h : s.length % 6 = 0 ∧ s.length ≤ 30
  · have em : m = s.length / 6 := by omega
    have ee := enc_dec m s (by omega)
    rw [← em]
    by_cases ho : Ok (dec m s)
    · have eT : T (dec m s) = (ba (enc (dec m s)), 0) := by unfold T; rw [if_neg (by omega), if_pos ho]
      rw [eT, if_pos (c := _ ∧ _ ∧ _) ⟨h.1, h.2, ho⟩, if_pos rfl, ba_list, if_pos ee]
    · have eT : T (dec m s) = (ba [], 22) := by unfold T; rw [if_neg (by omega), if_neg ho]
      rw [eT, if_neg (c := _ ∧ _ ∧ _) (fun x => ho x.2.2), if_neg (by decide +kernel)]
  · rw [if_neg (c := _ ∧ _ ∧ _) (fun x => h ⟨x.1, x.2.1⟩)]
    by_cases hz : (T (dec m s)).2 = 0
    · obtain ⟨h5, -, e⟩ := T_zero _ hz
      have hle := enc_length (dec m s)
      rw [if_pos hz, e, ba_list, if_neg (fun x => by rw [x] at hle; omega)]
    · rw [if_neg hz]

/-! ### rows read -/
theorem bt_ba (s : List UInt8) (i : Nat) : bt (ba s) (i : Int) = byteAt s i := by
  unfold bt byteAt
  rw [Int.toNat_natCast]
  by_cases h : i < s.length
  · rw [dif_pos (show i < (ba s).size from h), List.getD_eq_getElem?_getD, List.getElem?_eq_getElem h]
    rfl
  · rw [dif_neg (show ¬ i < (ba s).size from h), List.getD_eq_getElem?_getD, List.getElem?_eq_none (by omega)]
    rfl
noncomputable def Hd (s : List UInt8) (n a : Nat) : Int × List Int × Int := if s.length < n then (0, [], 4) else if (Rd (s.drop n)).2 = 0 then (256 * byteAt s a + byteAt s (a + 1), (Rd (s.drop n)).1, 0) else (0, [], (Rd (s.drop n)).2)
theorem head (s : List UInt8) (n a : Nat) (hn : a + 2 ≤ n) (hn2 : n < 100) : token_head.f (ba s) n a = some (Hd s n a) := by
  unfold token_head.f Hd
  rw [ba_size]
  have b0 := byteAt_range s a
  have b1 := byteAt_range s (a + 1)
  by_cases h : s.length < n
  · rw [if_pos (by omega), if_pos h]
  · rw [if_neg (by omega), if_neg h, if_pos (by omega), if_pos (by omega), Int.toNat_natCast, show (ba s).extract n s.length = ba (s.drop n) from ba_from s n, untags, Option.bind_some]
    by_cases hz : (Rd (s.drop n)).2 = 0
    · rw [if_pos hz, if_pos hz, if_pos (by omega), if_pos (by omega), wrap_id (x := (a : Int) + 1) (by omega) (by omega), if_pos (by omega), if_pos (by omega), bt_ba, show (a : Int) + 1 = ((a + 1 : Nat) : Int) by omega, bt_ba, wrap_id (x := byteAt s a) (by omega) (by omega), wrap_id (x := byteAt s a * 256) (by omega) (by omega), wrap_id (x := byteAt s (a + 1)) (by omega) (by omega), or_add _ _ b0.1 (by omega) b1.1 b1.2]
    · rw [if_neg hz, if_neg hz]
theorem rpair (s : List UInt8) (h : 2 ≤ s.length) : intarsiaref23_pair.f (ba s) = some (256 * byteAt s 0 + byteAt s 1) := by
  have b0 := byteAt_range s 0
  have b1 := byteAt_range s 1
  unfold intarsiaref23_pair.f
  rw [ba_size, if_pos (by omega), if_pos (by omega), show (0 : Int) = ((0 : Nat) : Int) from rfl, bt_ba, show (1 : Int) = ((1 : Nat) : Int) from rfl, bt_ba, wrap_id (x := byteAt s 0) (by omega) (by omega), wrap_id (x := 256 * byteAt s 0) (by omega) (by omega), wrap_id (x := byteAt s 1) (by omega) (by omega), wrap_id (by omega) (by omega)]
theorem Rd_err (s : List UInt8) : (Rd s).2 = 0 ∨ (Rd s).2 = 4 := by
  unfold Rd; split
  · exact .inl rfl
  · exact .inr rfl
noncomputable def Ul (s : List UInt8) : List Int × Int × Int := if s.length < 2 then ([], 0, 4) else if (Rd (s.drop 2)).2 = 0 then ((Rd (s.drop 2)).1, 256 * byteAt s 0 + byteAt s 1, 0) else ([], 0, 4)
theorem unleft (s : List UInt8) : token_Unleft.f (ba s) = some (Ul s) := by
  unfold token_Unleft.f Ul
  have := head s 2 0 (by omega) (by omega)
  rw [show token_head.f (ba s) 2 0 = some (Hd s 2 0) from this, Option.bind_some]
  unfold Hd
  by_cases h : s.length < 2
  · rw [if_pos h, if_pos h]; rfl
  · rw [if_neg h, if_neg h]
    by_cases hz : (Rd (s.drop 2)).2 = 0
    · rw [if_pos hz, if_pos hz]; rfl
    · rw [if_neg hz, if_neg hz, if_neg hz, (Rd_err _).resolve_left hz]
theorem runleft (k : Nat) (hk : 26 ≤ k) (s : List UInt8) (hs : s.length ≤ 1000) : intarsiaref23_Unleft.f k (ba s) = some (Ul s) := by
  unfold intarsiaref23_Unleft.f Ul
  rw [ba_size]
  by_cases h : s.length < 2
  · rw [if_pos (by omega), if_pos h]
  · rw [if_neg (by omega), if_neg h, if_pos (by omega), show (ba s).extract 2 s.length = ba (s.drop 2) from ba_from s 2, runtags k hk _ (by rw [List.length_drop]; omega), Option.bind_some]
    by_cases hz : (Rd (s.drop 2)).2 = 0
    · rw [if_pos hz, if_pos hz, rpair s (by omega), Option.bind_some]
    · rw [if_neg hz, if_neg hz]
noncomputable def Uu (s : List UInt8) : Int × Int × List Int × Int := if s.length < 3 then (0, 0, [], 4) else if (Rd (s.drop 3)).2 = 0 then (byteAt s 0, 256 * byteAt s 1 + byteAt s 2, (Rd (s.drop 3)).1, 0) else (0, 0, [], 4)
theorem unuse (s : List UInt8) : token_Unuse.f (ba s) = some (Uu s) := by
  unfold token_Unuse.f Uu
  have := head s 3 1 (by omega) (by omega)
  rw [show token_head.f (ba s) 3 1 = some (Hd s 3 1) from this, Option.bind_some]
  unfold Hd
  by_cases h : s.length < 3
  · rw [if_pos h, if_pos h]; rfl
  · rw [if_neg h, if_neg h]
    by_cases hz : (Rd (s.drop 3)).2 = 0
    · rw [if_pos hz, if_pos hz, if_pos rfl, ba_size, if_pos (by omega), show bt (ba s) 0 = byteAt s 0 from bt_ba s 0]
    · rw [if_neg hz, if_neg hz, if_neg hz, (Rd_err _).resolve_left hz]
theorem byteAt_drop (s : List UInt8) (n i : Nat) : byteAt (s.drop n) i = byteAt s (n + i) := by
  unfold byteAt
  rw [List.getD_eq_getElem?_getD, List.getD_eq_getElem?_getD, List.getElem?_drop]
theorem runuse (k : Nat) (hk : 26 ≤ k) (s : List UInt8) (hs : s.length ≤ 1000) : intarsiaref23_Unuse.f k (ba s) = some (Uu s) := by
  unfold intarsiaref23_Unuse.f Uu
  rw [ba_size]
  by_cases h : s.length < 3
  · rw [if_pos (by omega), if_pos h]
  · rw [if_neg (by omega), if_neg h, if_pos (by omega), show (ba s).extract 3 s.length = ba (s.drop 3) from ba_from s 3, runtags k hk _ (by rw [List.length_drop]; omega), Option.bind_some]
    by_cases hz : (Rd (s.drop 3)).2 = 0
    · rw [if_pos hz, if_pos hz, if_pos (by omega), if_pos (by omega), show (ba s).extract 1 s.length = ba (s.drop 1) from ba_from s 1, rpair _ (by rw [List.length_drop]; omega), Option.bind_some, byteAt_drop, byteAt_drop, show bt (ba s) 0 = byteAt s 0 from bt_ba s 0]
    · rw [if_neg hz, if_neg hz]
noncomputable def Ue (s : List UInt8) : Int × List Int × Bool × Int := if s.length < 3 then (0, [], false, 4) else if byteAt s 2 > 1 then (0, [], false, 4) else if (Rd (s.drop 3)).2 = 0 then (256 * byteAt s 0 + byteAt s 1, (Rd (s.drop 3)).1, byteAt s 2 == 1, 0) else (0, [], false, 4)
theorem unentry (s : List UInt8) : token_Unentry.f (ba s) = some (Ue s) := by
  unfold token_Unentry.f Ue
  have := head s 3 0 (by omega) (by omega)
  rw [show token_head.f (ba s) 3 0 = some (Hd s 3 0) from this, Option.bind_some]
  unfold Hd
  by_cases h : s.length < 3
  · rw [if_pos h, if_pos h]; rfl
  · rw [if_neg h, if_neg h]
    by_cases hz : (Rd (s.drop 3)).2 = 0
    · rw [if_pos hz, if_pos hz, if_pos rfl, ba_size, if_pos (by omega), show bt (ba s) 2 = byteAt s 2 from bt_ba s 2]
      by_cases hb : byteAt s 2 > 1
      · rw [if_pos hb, if_pos hb]
      · rw [if_neg hb, if_neg hb]
    · rw [if_neg hz, if_neg hz, if_neg hz, (Rd_err _).resolve_left hz]
      by_cases hb : byteAt s 2 > 1
      · rw [if_pos hb]
      · rw [if_neg hb]
theorem runentry (k : Nat) (hk : 27 ≤ k) (s : List UInt8) (hs : s.length ≤ 1000) : intarsiaref23_Unentry.f k (ba s) = some (Ue s) := by
  obtain ⟨k, rfl⟩ : ∃ j, k = j + 1 := ⟨k - 1, by omega⟩
  unfold intarsiaref23_Unentry.f Ue
  rw [ba_size]
  by_cases h : s.length < 3
  · rw [if_pos (by omega), if_pos h, intarsiaref23_Unentry.j0, if_pos rfl]
  · rw [if_neg (by omega), if_neg h, if_pos (by omega), show bt (ba s) 2 = byteAt s 2 from bt_ba s 2]
    by_cases hb : byteAt s 2 > 1
    · rw [decide_eq_true hb, intarsiaref23_Unentry.j0, if_pos rfl, if_pos hb]
    · rw [decide_eq_false hb, intarsiaref23_Unentry.j0, if_neg (by decide), if_neg hb, ba_size, if_pos (by omega), show (ba s).extract 3 s.length = ba (s.drop 3) from ba_from s 3, runtags k (by omega) _ (by rw [List.length_drop]; omega), Option.bind_some]
      by_cases hz : (Rd (s.drop 3)).2 = 0
      · rw [if_pos hz, if_pos hz, rpair s (by omega), Option.bind_some, if_pos (by omega), show bt (ba s) 2 = byteAt s 2 from bt_ba s 2]
      · rw [if_neg hz, if_neg hz]
/-! ### lists alike, lists in order -/
theorem rd_cons0 (l : List Int) (i : Nat) (h : i < l.length) : rd l (i : Int) = l[i] := by
  unfold rd
  rw [Int.toNat_natCast, List.getD_eq_getElem?_getD, List.getElem?_eq_getElem h]; rfl
theorem same_l (l m : List Int) (hl : l.length = m.length) : ∀ (n i k : Nat), i + n = l.length → l.length ≤ 1000 → n < k → intarsiaref21_SameInts.l0 k l m i = some (decide (l.drop i = m.drop i))
  | 0, i, k, hi, hm, hk => by
    obtain ⟨k, rfl⟩ : ∃ j, k = j + 1 := ⟨k - 1, by omega⟩
    rw [intarsiaref21_SameInts.l0, if_neg (by omega), List.drop_of_length_le (by omega), List.drop_of_length_le (by omega)]; rfl
  | n + 1, i, k, hi, hm, hk => by
    obtain ⟨k, rfl⟩ : ∃ j, k = j + 1 := ⟨k - 1, by omega⟩
    rw [intarsiaref21_SameInts.l0, if_pos (by omega), if_pos (by omega), if_pos (by omega), rd_cons0 l i (by omega), rd_cons0 m i (by omega), wrap_id (x := (i : Int) + 1) (by omega) (by omega)]
    have el : l.drop i = l[i]'(by omega) :: l.drop (i + 1) := List.drop_eq_getElem_cons (by omega)
    have em : m.drop i = m[i]'(by omega) :: m.drop (i + 1) := List.drop_eq_getElem_cons (by omega)
    by_cases h : l[i]'(by omega) = m[i]'(by omega)
    · rw [if_pos h]
      have ih := same_l l m hl n (i + 1) k (by omega) hm (by omega)
      rw [show (i : Int) + 1 = ((i + 1 : Nat) : Int) by omega, ih, el, em, h]
      exact congrArg some (decide_eq_decide.mpr ⟨fun x => by rw [x], fun x => (List.cons.inj x).2⟩)
    · rw [if_neg h, el, em]
      exact congrArg some (decide_eq_false fun x => h (List.cons.inj x).1).symm
theorem same (k : Nat) (l m : List Int) (h : l.length ≤ 1000) (hk : l.length < k) : intarsiaref21_SameInts.f k l m = some (decide (l = m)) := by
  unfold intarsiaref21_SameInts.f
  by_cases hl : l.length = m.length
  · rw [if_pos (by omega)]
    exact same_l l m hl l.length 0 k (by omega) h hk
  · rw [if_neg (by omega), decide_eq_false (fun e => hl (by rw [e]))]
theorem sameInst (k : Nat) (a b : Int) (l m : List Int) (h : l.length ≤ 1000) (hk : l.length < k) : intarsiaref21_SameInst.f k a l b m = some (decide (a = b) && decide (l = m)) := by
  unfold intarsiaref21_SameInst.f
  by_cases hab : a = b
  · rw [if_pos hab, same k l m h hk, Option.bind_some, decide_eq_true hab]; simp
  · rw [if_neg hab, decide_eq_false hab]; rfl
theorem Rd_len (s : List UInt8) : (Rd s).1.length ≤ 5 := by
  unfold Rd
  split
  · rw [dec_length]; omega
  · simp

/-! ### the laws -/
theorem eq_ba (s : ByteArray) : s = ba s.data.toList := by apply ByteArray.ext; simp [ba]
theorem lays (a0 a1 n : Int) (l : List Int) (b : Bool) : intarsialaw23_TokenLays.f 40 a0 a1 n l b = some true := by
  unfold intarsialaw23_TokenLays.f
  by_cases h : 20 < l.length
  · rw [if_pos (by omega), awake_is _ (by omega)]; rfl
  · rw [if_neg (by omega), Tags_is, Option.bind_some, rtags _ (by omega), Option.bind_some, node _ (by omega), Option.bind_some, rnode, Option.bind_some, if_pos rfl, if_pos rfl, if_pos rfl, bne_self_eq_false, intarsialaw23_TokenLays.j0, if_neg (by decide),
      left _ (by omega), Option.bind_some, rleft _ (by omega), Option.bind_some, use _ (by omega), Option.bind_some, ruse _ (by omega), Option.bind_some, if_pos rfl, if_pos rfl, if_pos rfl, bne_self_eq_false, intarsialaw23_TokenLays.j1, if_neg (by decide),
      entry _ (by omega), Option.bind_some, rentry _ (by omega), Option.bind_some, if_pos rfl, if_pos rfl, awake_is _ (by omega)]
    rfl
theorem Rd_enc (l : List Int) (h5 : l.length ≤ 5) (ho : Ok l) : Rd (enc l) = (l, 0) := by
  have hz := enc_length l
  have e : (enc l).length / 6 = l.length := by omega
  unfold Rd
  rw [e, dec_enc l ho, if_pos ⟨by omega, by omega, ho⟩]
theorem be2_read (n : Int) (h : 0 ≤ n ∧ n ≤ 65535) (r : List UInt8) : 256 * byteAt (U (be2 n) ++ r) 0 + byteAt (U (be2 n) ++ r) 1 = n := by
  have e0 : byteAt (U (be2 n) ++ r) 0 = ((UInt8.ofNat (n / 256 % 256).toNat).toNat : Int) := rfl
  have e1 : byteAt (U (be2 n) ++ r) 1 = ((UInt8.ofNat (n % 256).toNat).toNat : Int) := rfl
  rw [e0, e1, UInt8.toNat_ofNat', UInt8.toNat_ofNat']
  omega
theorem drop2 (n : Int) (r : List UInt8) : (U (be2 n) ++ r).drop 2 = r := rfl
theorem back_left (l : List Int) (n : Int) (h : (Lf l n).2 = 0) : token_Unleft.f (Lf l n).1 = some (l, n, 0) ∧ l.length ≤ 5 := by
  unfold Lf at h ⊢
  by_cases hz : (T l).2 = 0
  · obtain ⟨h5, ho, -⟩ := T_zero l hz
    rw [if_pos hz] at h ⊢
    by_cases hn : 0 ≤ n ∧ n ≤ 65535
    · rw [if_pos hn, unleft]
      unfold Ul
      rw [if_neg (by rw [List.length_append, two_len]; omega), drop2, Rd_enc l h5 ho, if_pos rfl, be2_read n hn]
      exact ⟨rfl, h5⟩
    · rw [if_neg hn] at h; cases h
  · rw [if_neg hz] at h
    exact absurd h hz
theorem back_use (a n : Int) (l : List Int) (ha : 0 ≤ a ∧ a ≤ 255) (h : (Us a n l).2 = 0) : token_Unuse.f (Us a n l).1 = some (a, n, l, 0) ∧ l.length ≤ 5 := by
  unfold Us at h ⊢
  by_cases hn : 0 ≤ n ∧ n ≤ 65535
  · rw [if_pos hn] at h ⊢
    by_cases hz : (T l).2 = 0
    · obtain ⟨h5, ho, -⟩ := T_zero l hz
      rw [if_pos hz, unuse]
      have e3 : (U [a] ++ U (be2 n) ++ enc l).drop 3 = enc l := rfl
      have e0 : byteAt (U [a] ++ U (be2 n) ++ enc l) 0 = a := by
        have : byteAt (U [a] ++ U (be2 n) ++ enc l) 0 = ((UInt8.ofNat a.toNat).toNat : Int) := rfl
        rw [this, UInt8.toNat_ofNat']; omega
      have e12 : 256 * byteAt (U [a] ++ U (be2 n) ++ enc l) 1 + byteAt (U [a] ++ U (be2 n) ++ enc l) 2 = n := be2_read n hn (enc l)
      unfold Uu
      rw [if_neg (by simp [U, be2]), e3, Rd_enc l h5 ho, if_pos rfl, e0, e12]
      exact ⟨rfl, h5⟩
    · rw [if_neg hz] at h; exact absurd h hz
  · rw [if_neg hn] at h; cases h
theorem back_entry (n : Int) (l : List Int) (b : Bool) (h : (En n l b).2 = 0) : token_Unentry.f (En n l b).1 = some (n, l, b, 0) ∧ l.length ≤ 5 := by
  unfold En at h ⊢
  by_cases hn : 0 ≤ n ∧ n ≤ 65535
  · rw [if_pos hn] at h ⊢
    by_cases hz : (T l).2 = 0
    · obtain ⟨h5, ho, -⟩ := T_zero l hz
      rw [if_pos hz, unentry]
      have e3 : ∀ x : Int, (U (be2 n) ++ U [x] ++ enc l).drop 3 = enc l := fun _ => rfl
      have e01 : ∀ x : Int, 256 * byteAt (U (be2 n) ++ U [x] ++ enc l) 0 + byteAt (U (be2 n) ++ U [x] ++ enc l) 1 = n := fun x => by rw [List.append_assoc]; exact be2_read n hn _
      unfold Ue
      rw [if_neg (by simp [U, be2]), e3, Rd_enc l h5 ho, e01]
      cases b
      · have e2 : byteAt (U (be2 n) ++ U [if false = true then 1 else 0] ++ enc l) 2 = 0 := rfl
        rw [e2, if_neg (by decide), if_pos rfl]
        exact ⟨rfl, h5⟩
      · have e2 : byteAt (U (be2 n) ++ U [if true = true then 1 else 0] ++ enc l) 2 = 1 := rfl
        rw [e2, if_neg (by decide), if_pos rfl]
        exact ⟨rfl, h5⟩
    · rw [if_neg hz] at h; exact absurd h hz
  · rw [if_neg hn] at h; cases h
theorem back (a0 a1 n : Int) (l : List Int) (b : Bool) (ha : 0 ≤ a0 ∧ a0 ≤ 255) : intarsialaw23_TokenBack.f 40 a0 a1 n l b = some true := by
  have fin : intarsialaw23_TokenBack.j1 39 n l b = some true ∧ intarsialaw23_TokenBack.j1 38 n l b = some true := by
    constructor <;>
    · rw [intarsialaw23_TokenBack.j1, entry _ (by omega), Option.bind_some]
      by_cases h : (En n l b).2 = 0
      · obtain ⟨e, h5⟩ := back_entry n l b h
        rw [if_pos h, e, Option.bind_some, if_pos rfl, bne_self_eq_false, if_neg (by decide)]
        dsimp only
        rw [sameInst _ _ _ _ _ (by omega) (by omega), Option.bind_some, decide_eq_true rfl, decide_eq_true rfl, Bool.and_self, if_pos rfl, awake_is _ (by omega)]
        rfl
      · rw [if_neg h, awake_is _ (by omega)]; rfl
  have mid : ∀ k, k = 40 ∨ k = 39 → intarsialaw23_TokenBack.j0 k a0 a1 l n l b = some true := by
    intro k hk
    obtain ⟨j, rfl, hj⟩ : ∃ j, k = j + 1 ∧ (j = 39 ∨ j = 38) := by
      rcases hk with rfl | rfl
      · exact ⟨39, rfl, .inl rfl⟩
      · exact ⟨38, rfl, .inr rfl⟩
    have fj : intarsialaw23_TokenBack.j1 j n l b = some true := by
      rcases hj with rfl | rfl
      · exact fin.1
      · exact fin.2
    rw [intarsialaw23_TokenBack.j0, use _ (by omega), Option.bind_some]
    by_cases h : (Us a0 a1 l).2 = 0
    · obtain ⟨e, h5⟩ := back_use a0 a1 l ha h
      rw [if_pos h, e, Option.bind_some, if_pos rfl, if_pos rfl, if_pos rfl]
      dsimp only
      rw [same _ _ _ (by omega) (by omega), Option.bind_some, decide_eq_true rfl, if_pos rfl, fj]
    · rw [if_neg h, fj]
  unfold intarsialaw23_TokenBack.f
  by_cases h : 20 < l.length
  · rw [if_pos (by omega), awake_is _ (by omega)]; rfl
  · rw [if_neg (by omega), left _ (by omega), Option.bind_some]
    by_cases hl : (Lf l a1).2 = 0
    · obtain ⟨e, h5⟩ := back_left l a1 hl
      rw [if_pos hl, e, Option.bind_some, if_pos rfl, if_pos rfl]
      dsimp only
      rw [same _ _ _ (by omega) (by omega), Option.bind_some, decide_eq_true rfl, if_pos rfl, mid _ (.inl rfl)]
    · rw [if_neg hl, mid _ (.inl rfl)]
/-! ### the order of texts -/
theorem beq_dec {α : Type} [DecidableEq α] [BEq α] [LawfulBEq α] (a b : α) : (a == b) = decide (a = b) := by
  by_cases h : a = b
  · rw [decide_eq_true h, beq_iff_eq.mpr h]
  · rw [decide_eq_false h, beq_eq_false_iff_ne.mpr h]
theorem bl (a b : Int) (ha : 0 ≤ a) (ha1 : a < 256) (hb : 0 ≤ b) (hb1 : b < 256) (s t : List UInt8) : Op.bytesLess (UInt8.ofNat a.toNat :: s) (UInt8.ofNat b.toNat :: t) = (decide (a < b) || (decide (a = b) && Op.bytesLess s t)) := by
  have e1 : (UInt8.ofNat a.toNat < UInt8.ofNat b.toNat) ↔ a < b := by
    rw [UInt8.lt_iff_toNat_lt, UInt8.toNat_ofNat', UInt8.toNat_ofNat']; omega
  have e2 : (UInt8.ofNat a.toNat = UInt8.ofNat b.toNat) ↔ a = b := by
    rw [← UInt8.toNat_inj, UInt8.toNat_ofNat', UInt8.toNat_ofNat']; omega
  rw [Op.bytesLess, decide_eq_decide.mpr e1]
  congr 2
  rw [beq_dec, decide_eq_decide.mpr e2]
theorem six (n m : Int) (hn : 0 ≤ n) (hn1 : n < 281474976710656) (hm : 0 ≤ m) (hm1 : m < 281474976710656) (r q : List UInt8) : Op.bytesLess (U (be6 n) ++ r) (U (be6 m) ++ q) = (decide (n < m) || (decide (n = m) && Op.bytesLess r q)) := by
  show Op.bytesLess (UInt8.ofNat (n / 1099511627776 % 256).toNat :: UInt8.ofNat (n / 4294967296 % 256).toNat :: UInt8.ofNat (n / 16777216 % 256).toNat :: UInt8.ofNat (n / 65536 % 256).toNat :: UInt8.ofNat (n / 256 % 256).toNat :: UInt8.ofNat (n % 256).toNat :: r) (UInt8.ofNat (m / 1099511627776 % 256).toNat :: UInt8.ofNat (m / 4294967296 % 256).toNat :: UInt8.ofNat (m / 16777216 % 256).toNat :: UInt8.ofNat (m / 65536 % 256).toNat :: UInt8.ofNat (m / 256 % 256).toNat :: UInt8.ofNat (m % 256).toNat :: q) = _
  rw [bl _ _ (by omega) (by omega) (by omega) (by omega), bl _ _ (by omega) (by omega) (by omega) (by omega), bl _ _ (by omega) (by omega) (by omega) (by omega), bl _ _ (by omega) (by omega) (by omega) (by omega), bl _ _ (by omega) (by omega) (by omega) (by omega), bl _ _ (by omega) (by omega) (by omega) (by omega)]
  have en : n = 1099511627776 * (n / 1099511627776 % 256) + 4294967296 * (n / 4294967296 % 256) + 16777216 * (n / 16777216 % 256) + 65536 * (n / 65536 % 256) + 256 * (n / 256 % 256) + n % 256 := by omega
  have em : m = 1099511627776 * (m / 1099511627776 % 256) + 4294967296 * (m / 4294967296 % 256) + 16777216 * (m / 16777216 % 256) + 65536 * (m / 65536 % 256) + 256 * (m / 256 % 256) + m % 256 := by omega
  have r0 : ∀ x : Int, 0 ≤ x % 256 ∧ x % 256 < 256 := fun x => by omega
  have a0 := r0 (n / 1099511627776); have a1 := r0 (n / 4294967296); have a2 := r0 (n / 16777216); have a3 := r0 (n / 65536); have a4 := r0 (n / 256); have a5 := r0 n
  have b0 := r0 (m / 1099511627776); have b1 := r0 (m / 4294967296); have b2 := r0 (m / 16777216); have b3 := r0 (m / 65536); have b4 := r0 (m / 256); have b5 := r0 m
  generalize n / 1099511627776 % 256 = x0 at *; generalize n / 4294967296 % 256 = x1 at *; generalize n / 16777216 % 256 = x2 at *; generalize n / 65536 % 256 = x3 at *; generalize n / 256 % 256 = x4 at *; generalize n % 256 = x5 at *
  generalize m / 1099511627776 % 256 = y0 at *; generalize m / 4294967296 % 256 = y1 at *; generalize m / 16777216 % 256 = y2 at *; generalize m / 65536 % 256 = y3 at *; generalize m / 256 % 256 = y4 at *; generalize m % 256 = y5 at *
  have step : ∀ (x y : Int) (P : Bool) (R : Bool), (x < y → R = true) → (y < x → R = false) → (x = y → P = R) → (decide (x < y) || (decide (x = y) && P)) = R := by
    intro x y P R h1 h2 h3
    rcases Int.lt_trichotomy x y with h | h | h
    · rw [decide_eq_true h, h1 h]; rfl
    · rw [decide_eq_false (by omega : ¬ x < y), decide_eq_true h, h3 h]; simp
    · rw [decide_eq_false (by omega : ¬ x < y), decide_eq_false (by omega : ¬ x = y), h2 h]; rfl
  have T : n < m → (decide (n < m) || (decide (n = m) && Op.bytesLess r q)) = true := fun h => by rw [decide_eq_true h]; rfl
  have F : m < n → (decide (n < m) || (decide (n = m) && Op.bytesLess r q)) = false := fun h => by rw [decide_eq_false (by omega : ¬ n < m), decide_eq_false (by omega : ¬ n = m)]; rfl
  refine step x0 y0 _ _ (fun h => T (by omega)) (fun h => F (by omega)) fun e0 => ?_
  refine step x1 y1 _ _ (fun h => T (by omega)) (fun h => F (by omega)) fun e1 => ?_
  refine step x2 y2 _ _ (fun h => T (by omega)) (fun h => F (by omega)) fun e2 => ?_
  refine step x3 y3 _ _ (fun h => T (by omega)) (fun h => F (by omega)) fun e3 => ?_
  refine step x4 y4 _ _ (fun h => T (by omega)) (fun h => F (by omega)) fun e4 => ?_
  refine step x5 y5 _ _ (fun h => T (by omega)) (fun h => F (by omega)) fun e5 => ?_
  rw [decide_eq_false (by omega : ¬ n < m), decide_eq_true (by omega : n = m)]; simp
def lessL : List Int → List Int → Bool
  | _, [] => false
  | [], _ :: _ => true
  | x :: s, y :: t => decide (x < y) || (decide (x = y) && lessL s t)
theorem enc_cons (n : Int) (r : List Int) : enc (n :: r) = U (be6 n) ++ enc r := rfl
theorem enc_less : ∀ a b : List Int, Ok a → Ok b → Op.bytesLess (enc a) (enc b) = lessL a b
  | [], [], _, _ => rfl
  | x :: s, [], _, _ => rfl
  | [], y :: t, _, _ => rfl
  | x :: s, y :: t, ha, hb => by
    have hx := ha x (List.mem_cons_self ..)
    have hy := hb y (List.mem_cons_self ..)
    rw [enc_cons, enc_cons, six x y hx.1 (by omega) hy.1 (by omega), enc_less s t (fun z h => ha z (List.mem_cons_of_mem _ h)) (fun z h => hb z (List.mem_cons_of_mem _ h)), lessL]
theorem enc_inj (a b : List Int) (ha : Ok a) (hb : Ok b) : enc a = enc b ↔ a = b := by
  refine ⟨fun h => ?_, fun h => by rw [h]⟩
  have ea := dec_enc a ha
  have eb := dec_enc b hb
  have la := enc_length a
  have lb := enc_length b
  rw [h, lb] at la
  rw [← ea, ← eb, h, show a.length = b.length by omega]
theorem less_l (l m : List Int) (hl : l.length ≤ 1000) (hm : m.length ≤ 1000) : ∀ (n i k : Nat), i + n = l.length → i ≤ m.length → 2 * n + 2 ≤ k → intarsiaref21_Less.l0 k l m i = some (lessL (l.drop i) (m.drop i))
  | 0, i, k, hi, him, hk => by
    obtain ⟨k, rfl⟩ : ∃ j, k = j + 2 := ⟨k - 2, by omega⟩
    rw [intarsiaref21_Less.l0, if_neg (by omega), intarsiaref21_Less.j1, if_neg (by decide), List.drop_of_length_le (l := l) (by omega)]
    by_cases h : i < m.length
    · rw [decide_eq_true (by omega : (l.length : Int) < m.length), List.drop_eq_getElem_cons h]; rfl
    · rw [decide_eq_false (by omega : ¬ (l.length : Int) < m.length), List.drop_of_length_le (l := m) (by omega)]; rfl
  | n + 1, i, k, hi, him, hk => by
    obtain ⟨k, rfl⟩ : ∃ j, k = j + 2 := ⟨k - 2, by omega⟩
    have el : l.drop i = l[i]'(by omega) :: l.drop (i + 1) := List.drop_eq_getElem_cons (by omega)
    rw [intarsiaref21_Less.l0, if_pos (by omega)]
    by_cases h : i < m.length
    · have em : m.drop i = m[i]'(by omega) :: m.drop (i + 1) := List.drop_eq_getElem_cons (by omega)
      rw [decide_eq_true (by omega : (i : Int) < m.length), intarsiaref21_Less.j1, if_pos rfl, if_pos (by omega), if_pos (by omega), if_pos (by omega), rd_cons0 l i (by omega), rd_cons0 m i (by omega), wrap_id (x := (i : Int) + 1) (by omega) (by omega), el, em, lessL]
      by_cases hx : l[i]'(by omega) = m[i]'(by omega)
      · have ih := less_l l m hl hm n (i + 1) k (by omega) (by omega) (by omega)
        rw [if_pos hx, show (i : Int) + 1 = ((i + 1 : Nat) : Int) by omega, ih, hx, decide_eq_true rfl, decide_eq_false (Int.lt_irrefl _)]
        simp
      · rw [if_neg hx, decide_eq_false hx, Bool.false_and, Bool.or_false]
    · rw [decide_eq_false (by omega : ¬ (i : Int) < m.length), intarsiaref21_Less.j1, if_neg (by decide), decide_eq_false (by omega : ¬ (l.length : Int) < m.length), List.drop_of_length_le (l := m) (by omega)]
      cases l.drop i <;> rfl
theorem less (k : Nat) (a b : List Int) (ha : a.length ≤ 5) (hb : b.length ≤ 5) (hk : 20 ≤ k) : intarsiaref21_Less.f k a b = some (lessL a b) := by
  unfold intarsiaref21_Less.f
  exact less_l a b (by omega) (by omega) a.length 0 k (by omega) (by omega) (by omega)
theorem order_j (j : Nat) (hj : 40 ≤ j) (a b : List Int) (x : Bool) : intarsialaw23_TokenOrder.j0 (j + 1) a b x = some true := by
  rw [intarsialaw23_TokenOrder.j0]
  by_cases h : x = true
  · rw [if_pos h, awake_is _ (by omega)]; rfl
  · rw [if_neg h, Tags_is, Option.bind_some, Tags_is, Option.bind_some]
    have bad : (T a).2 ≠ 0 ∨ (T b).2 ≠ 0 → intarsialaw23_TokenOrder.j1 j a b (T a).1 (T a).2 (T b).1 true = some true := by
      intro hb
      obtain ⟨j, rfl⟩ : ∃ i, j = i + 1 := ⟨j - 1, by omega⟩
      rw [intarsialaw23_TokenOrder.j1, if_pos rfl]
      by_cases ha : (T a).2 = 0
      · rw [if_pos ha, awake_is _ (by omega)]; rfl
      · rw [if_neg ha, T_err a ha, ba_list, if_pos rfl, awake_is _ (by omega)]; rfl
    by_cases ha : (T a).2 = 0
    · rw [if_pos ha]
      by_cases hb : (T b).2 = 0
      · obtain ⟨a5, oa, ea⟩ := T_zero a ha
        obtain ⟨b5, ob, eb⟩ := T_zero b hb
        obtain ⟨j, rfl⟩ : ∃ i, j = i + 1 := ⟨j - 1, by omega⟩
        rw [show ((T b).2 != 0) = false by rw [hb]; rfl, intarsialaw23_TokenOrder.j1, if_neg (by decide), less _ a b a5 b5 (by omega), Option.bind_some, ea, eb, ba_list, ba_list, enc_less a b oa ob, beq_self_eq_true, if_pos rfl, same _ _ _ (by omega) (by omega), Option.bind_some]
        rw [show (enc a == enc b) = decide (a = b) by rw [beq_dec]; exact decide_eq_decide.mpr (enc_inj a b oa ob), beq_self_eq_true, if_pos rfl, awake_is _ (by omega)]
        rfl
      · rw [show ((T b).2 != 0) = true from bne_iff_ne.mpr hb]
        exact bad (.inr hb)
    · rw [if_neg ha]
      exact bad (.inl ha)
theorem order (a b : List Int) : intarsialaw23_TokenOrder.f 41 a b = some true := by
  unfold intarsialaw23_TokenOrder.f
  split <;> exact order_j 40 (by omega) a b _
end Go.Proofs.Ythlkkpaihomfjaa.Tags
