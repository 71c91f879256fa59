/-
  Plain laws of distributions: greater counts get no smaller shares but for one, no share is above its part, and counts scaled alike give the same shares. No program in sight.
-/
import Derived.Test.YtgponpjlkebjcaaNorm11
namespace Go.Proofs.Ytgponpjlkebjcaa
open Go.RowKit
set_option linter.unusedSimpArgs false
set_option linter.unusedVariables false

theorem wgh_c (p : Int) : (p < 0 ∧ wgh p = 1) ∨ (0 ≤ p ∧ wgh p = p) := by
  unfold wgh
  split
  · left; exact ⟨by assumption, rfl⟩
  · right; exact ⟨by omega, rfl⟩
/-- A greater count has a share that is at most one less. -/
def fair (Y ps : List Int) : Prop := ∀ s t, s < ps.length → t < ps.length → Y.getD t 0 < Y.getD s 0 → wgh (ps.getD t 0) - 1 ≤ wgh (ps.getD s 0)
theorem fair_dec (Y ps : List Int) (h : fair Y ps) : fair Y (dec ps) := by
  intro s t hs ht hy
  rw [dec_len] at hs ht
  have hm := amx_lt ps (by omega)
  have h1 := h s t hs ht hy
  have h2 := amx_max ps t ht
  have h4 := wgh_c (ps.getD s 0)
  have h5 := wgh_c (ps.getD t 0)
  have h6 := wgh_c (ps.getD (amx ps) 0 - 1)
  unfold dec
  rw [getD_set _ _ _ _ hm, getD_set _ _ _ _ hm]
  by_cases e1 : amx ps = s
  · by_cases e2 : amx ps = t
    · rw [← e1, ← e2] at hy
      omega
    · rw [if_pos e1, if_neg e2]
      omega
  · rw [if_neg e1]
    by_cases e2 : amx ps = t
    · rw [if_pos e2]
      rw [e2] at h6 ⊢
      omega
    · rw [if_neg e2]
      exact h1
theorem fair_decs (Y : List Int) : ∀ (k : Nat) (ps : List Int), fair Y ps → fair Y (decs k ps)
  | 0, _, h => h
  | k + 1, ps, h => fair_decs Y k (dec ps) (fair_dec Y ps h)
theorem dec_le (ps : List Int) (i : Nat) : (dec ps).getD i 0 ≤ ps.getD i 0 := by
  by_cases h0 : 0 < ps.length
  · unfold dec
    rw [getD_set _ _ _ _ (amx_lt ps h0)]
    split
    · rename_i h; rw [h]; omega
    · omega
  · obtain rfl : ps = [] := List.length_eq_zero_iff.1 (by omega)
    simp [dec]
theorem decs_le : ∀ (k : Nat) (ps : List Int) (i : Nat), (decs k ps).getD i 0 ≤ ps.getD i 0
  | 0, _, _ => Int.le_refl _
  | k + 1, ps, i => Int.le_trans (decs_le k (dec ps) i) (dec_le ps i)
theorem two_pow_nn (l : Nat) : 0 ≤ (2 : Int) ^ l := Int.le_of_lt (Int.pow_pos (by omega))
theorem shr_mono {c d t : Int} {l : Nat} (h : c ≤ d) (ht : 0 < t) : shr c t l ≤ shr d t l := by
  unfold shr
  exact Int.ediv_le_ediv ht (Int.mul_le_mul_of_nonneg_right h (two_pow_nn l))
theorem shr_nn {c t : Int} {l : Nat} (h : 0 ≤ c) (ht : 0 < t) : 0 ≤ shr c t l := by
  unfold shr
  exact Int.ediv_nonneg (Int.mul_nonneg h (two_pow_nn l)) (by omega)
theorem prb_wgh {c t : Int} {l : Nat} (h : 0 ≤ c) (ht : 0 < t) : (shr c t l = 0 ∧ prb t l c = -1) ∨ (0 < shr c t l ∧ prb t l c = shr c t l) := by
  have := shr_nn (l := l) h ht
  unfold prb
  split
  · left; exact ⟨by assumption, rfl⟩
  · right; exact ⟨by omega, rfl⟩
theorem fair_base {Y : List Int} {t : Int} {l : Nat} (hr : rng Y = true) (ht : 0 < t) : fair Y (base Y t l) := by
  intro i j hi hj hy
  rw [base_len] at hi hj
  rw [base_get _ _ _ _ hi, base_get _ _ _ _ hj]
  have n1 := rng_get hr i
  have n2 := rng_get hr j
  unfold prz
  rw [if_pos (show 0 < Y.getD i 0 by omega)]
  have h1 := prb_wgh (l := l) n1 ht
  have h2 := prb_wgh (l := l) n2 ht
  have h3 := shr_mono (l := l) (Int.le_of_lt hy) ht
  have h4 := wgh_c (prb t l (Y.getD i 0))
  have h5 := wgh_c (prb t l (Y.getD j 0))
  split
  · omega
  · have h6 := wgh_c 0
    omega
theorem base_le {Y : List Int} {t : Int} {l i : Nat} (hr : rng Y = true) (ht : 0 < t) (hi : i < many Y) : (base Y t l).getD i 0 ≤ shr (Y.getD i 0) t l := by
  rw [base_get _ _ _ _ hi]
  have n1 := rng_get hr i
  have h1 := prb_wgh (l := l) n1 ht
  have h2 := shr_nn (l := l) n1 ht
  unfold prz
  split <;> omega
/-- Greater counts get shares no smaller but for one; no symbol but the greatest gets more than its part. -/
theorem dist_fair {Y : List Int} {l : Nat} (hr : rng Y = true) (ht : 0 < Y.sum) : fair Y (dist0 Y l) ∧ ∀ i, i < many Y → i ≠ amx Y → (dist0 Y l).getD i 0 ≤ shr (Y.getD i 0) Y.sum l := by
  obtain ⟨a1, a2⟩ := amx_many hr ht
  have hf := fair_base (l := l) hr ht
  have hm := many_le Y
  unfold dist0
  split
  · rename_i hleft
    unfold give
    have ha : amx Y < (base Y Y.sum l).length := by rw [base_len]; exact a1
    refine ⟨?_, fun i hi hne => ?_⟩
    · intro i j hi hj hy
      simp only [List.length_set] at hi hj
      have h1 := hf i j hi hj hy
      rw [base_len] at hi hj
      rw [getD_set _ _ _ _ ha, getD_set _ _ _ _ ha]
      have h2 := amx_max Y i (by omega)
      rw [if_neg (show ¬ amx Y = j by intro h; rw [h] at h2; omega)]
      split
      · rename_i h
        have h3 := wgh_nn ((base Y Y.sum l).getD i 0)
        rw [h]
        have h4 := wgh_c (wgh ((base Y Y.sum l).getD i 0) + ((2 : Int) ^ l - wsum (base Y Y.sum l)))
        omega
      · exact h1
    · rw [getD_set _ _ _ _ ha, if_neg (fun h => hne h.symm)]
      exact base_le hr ht hi
  · exact ⟨fair_decs Y _ _ hf, fun i hi _ => Int.le_trans (decs_le _ _ i) (base_le hr ht hi)⟩
theorem getD_scale (xs : List Int) (k : Int) (i : Nat) : (xs.map (· * k)).getD i 0 = xs.getD i 0 * k := by
  rw [List.getD_eq_getElem?_getD, List.getElem?_map, List.getD_eq_getElem?_getD]
  cases xs[i]? <;> simp
theorem sum_scale (k : Int) : ∀ xs : List Int, (xs.map (· * k)).sum = xs.sum * k
  | [] => by simp
  | x :: r => by rw [List.map_cons, List.sum_cons, List.sum_cons, sum_scale k r, Int.add_mul]
theorem pos_scale {k : Int} (hk : 0 < k) (x : Int) : 0 < x * k ↔ 0 < x := by
  constructor
  · intro h
    exact Int.lt_of_mul_lt_mul_right (a := k) (by simpa using h) (Int.le_of_lt hk)
  · intro h
    exact Int.mul_pos h hk
theorem occ_scale {k : Int} (hk : 0 < k) : ∀ (xs : List Int) (s : Nat), occ s (xs.map (· * k)) = (occ s xs).map fun q => (q.1, q.2 * k)
  | [], _ => rfl
  | x :: r, s => by
    have ih := occ_scale hk r (s + 1)
    rw [List.map_cons]
    unfold occ
    rw [ih]
    by_cases h : 0 < x
    · rw [if_pos ((pos_scale hk x).2 h), if_pos h]
      rfl
    · rw [if_neg (fun h2 => h ((pos_scale hk x).1 h2)), if_neg h]
theorem lst_scale {k : Int} (hk : 0 < k) (xs : List Int) : lst (xs.map (· * k)) = lst xs := by
  unfold lst
  rw [occ_scale hk, List.getLast?_map]
  cases (occ 0 xs).getLast? <;> rfl
theorem many_scale {k : Int} (hk : 0 < k) (xs : List Int) : many (xs.map (· * k)) = many xs := by unfold many; rw [lst_scale hk]
theorem shr_scale {k : Int} (hk : 0 < k) (c t : Int) (l : Nat) : shr (c * k) (t * k) l = shr c t l := by
  unfold shr
  rw [Int.mul_right_comm, Int.mul_ediv_mul_of_pos_left _ _ hk]
theorem base_scale {k : Int} (hk : 0 < k) (xs : List Int) (t : Int) (l : Nat) : base (xs.map (· * k)) (t * k) l = base xs t l := by
  unfold base
  rw [many_scale hk, ← List.map_take, List.map_map]
  apply List.map_congr_left
  intro x _
  simp only [Function.comp, prz, prb, shr_scale hk]
  by_cases h : 0 < x
  · rw [if_pos ((pos_scale hk x).2 h), if_pos h]
  · rw [if_neg (fun h2 => h ((pos_scale hk x).1 h2)), if_neg h]
theorem amF_scale {k : Int} (hk : 0 < k) (xs : List Int) : ∀ n, amF (xs.map (· * k)) n = amF xs n
  | 0 => rfl
  | n + 1 => by
    unfold amF
    rw [amF_scale hk xs n, getD_scale, getD_scale]
    by_cases h : xs.getD (amF xs n) 0 < xs.getD n 0
    · rw [if_pos h, if_pos (Int.mul_lt_mul_of_pos_right h hk)]
    · rw [if_neg h, if_neg (fun h2 => h (Int.lt_of_mul_lt_mul_right h2 (Int.le_of_lt hk)))]
theorem dist_scale {k : Int} (hk : 0 < k) (xs : List Int) (l : Nat) : dist0 (xs.map (· * k)) l = dist0 xs l := by
  have ha : amx (xs.map (· * k)) = amx xs := by unfold amx; rw [List.length_map, amF_scale hk]
  unfold dist0 give
  rw [sum_scale, base_scale hk, ha]
theorem rng_of {Y : List Int} (h : ∀ k, 0 ≤ Y.getD k 0 ∧ Y.getD k 0 ≤ 1099511627776) : rng Y = true := by
  unfold rng
  rw [List.all_eq_true]
  intro y hy
  obtain ⟨k, hk, rfl⟩ := List.getElem_of_mem hy
  have := h k
  rw [List.getD_eq_getElem?_getD, List.getElem?_eq_getElem hk] at this
  simp at this ⊢
  omega
theorem cnts_bd (xs : List Int) (k : Nat) : 0 ≤ (cnts xs).getD k 0 ∧ (cnts xs).getD k 0 ≤ 1048576 := cq_bd _ k
theorem scale_ok (xs : List Int) (k : Int) (h1 : 1 ≤ k) (h9 : k ≤ 9) : cchk ((cnts xs).map (· * k)) = 0 ∧ 0 < ((cnts xs).map (· * k)).sum := by
  obtain ⟨o1, o2, o3, o4, o5, o6⟩ := cnts_ok xs
  have hbd := cnts_bd xs
  have hr : rng ((cnts xs).map (· * k)) = true := by
    refine rng_of fun i => ?_
    rw [getD_scale]
    obtain ⟨b1, b2⟩ := hbd i
    have e1 := Int.mul_nonneg b1 (show 0 ≤ k by omega)
    have e2 := Int.mul_le_mul b2 h9 (by omega) (by omega)
    omega
  have hs : ((cnts xs).map (· * k)).sum = (cnts xs).sum * k := sum_scale k _
  have e3 := Int.mul_le_mul o5 h9 (by omega) (by omega)
  have e4 := Int.mul_pos o4 (show 0 < k by omega)
  exact ⟨cchk_zero (by rw [List.length_map]; omega) hr (by omega), by omega⟩
/-- One count alone. -/
def lone (n : Nat) (k : Int) : List Int := List.replicate n 0 ++ [k]
theorem lone_get (n : Nat) (k : Int) (i : Nat) : (lone n k).getD i 0 = if i = n then k else 0 := by
  unfold lone
  rw [List.getD_eq_getElem?_getD, List.getElem?_append, List.length_replicate]
  by_cases h : i < n
  · rw [if_pos h, if_neg (by omega)]
    simp [h]
  · rw [if_neg h]
    by_cases h2 : i = n
    · rw [if_pos h2]
      simp [h2]
    · rw [if_neg h2, List.getElem?_eq_none (by simp; omega)]
      rfl
theorem lone_sum (n : Nat) (k : Int) : (lone n k).sum = k := by
  unfold lone
  rw [List.sum_append]
  simp
theorem lone_len (n : Nat) (k : Int) : (lone n k).length = n + 1 := by simp [lone]
theorem lone_rng (n : Nat) (k : Int) (h1 : 1 ≤ k) (h9 : k ≤ 9) : rng (lone n k) = true := rng_of fun i => by
  rw [lone_get]
  split <;> omega
theorem lone_ok (n : Nat) (k : Int) (hn : n < 40) (h1 : 1 ≤ k) (h9 : k ≤ 9) : cchk (lone n k) = 0 ∧ 0 < (lone n k).sum ∧ many (lone n k) = n + 1 := by
  refine ⟨cchk_zero (by rw [lone_len]; omega) (lone_rng n k h1 h9) (by rw [lone_sum]; omega), by rw [lone_sum]; omega, ?_⟩
  unfold many lone
  rw [lst_snoc, if_pos (by omega), List.length_replicate]
  omega
theorem wsum_one : ∀ (n : Nat) (ps : List Int), ps.length = n + 1 → (∀ i, i < n → ps.getD i 0 = 0) → wsum ps = wgh (ps.getD n 0)
  | 0, [p], _, _ => by simp [wsum]
  | n + 1, p :: r, hl, h => by
    have h0 : p = 0 := h 0 (by omega)
    have ih := wsum_one n r (by simpa using hl) (fun i hi => h (i + 1) (by omega))
    subst h0
    unfold wsum at ih ⊢
    rw [List.map_cons, List.sum_cons, ih]
    simp [wgh]
theorem lone_dist (n : Nat) (k : Int) (l : Nat) (hn : n < 40) (h1 : 1 ≤ k) (h9 : k ≤ 9) (h6 : 6 ≤ l) (h12 : l ≤ 12) : (dist0 (lone n k) l).length = n + 1 ∧ (dist0 (lone n k) l).getD n 0 = (2 : Int) ^ l := by
  obtain ⟨c1, c2, c3⟩ := lone_ok n k hn h1 h9
  have hp := pow_mono12 l h6 h12
  have hol : (occ 0 (lone n k)).length ≤ (lone n k).length := by rw [occ_len]; exact List.length_filter_le _ _
  rw [lone_len] at hol
  obtain ⟨s1, s2⟩ := dist_spec (lone_rng n k h1 h9) c2 h12 (by omega)
  have hl : (dist0 (lone n k) l).length = n + 1 := by rw [dist0_len, c3]
  refine ⟨hl, ?_⟩
  have h := wsum_one n _ hl (fun i hi => (s2 i (by omega)).2.2 (by rw [lone_get, if_neg (by omega)]; omega))
  have h2 := wgh_c ((dist0 (lone n k) l).getD n 0)
  omega
end Go.Proofs.Ytgponpjlkebjcaa
