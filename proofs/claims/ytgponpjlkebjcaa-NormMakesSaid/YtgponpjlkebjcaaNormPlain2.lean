/-
  Plain laws of distributions: they sum to their size, and have probabilities just for the symbols that have counts. No program in sight.
-/
import Derived.Test.YtgponpjlkebjcaaNormPlain
namespace Go.Proofs.Ytgponpjlkebjcaa
open Go.RowKit
set_option linter.unusedSimpArgs false
set_option linter.unusedVariables false
theorem sum_set (f : Int → Int) : ∀ (ps : List Int) (k : Nat) (v : Int), k < ps.length → ((ps.set k v).map f).sum = (ps.map f).sum - f (ps.getD k 0) + f v
  | p :: r, 0, v, _ => by simp; omega
  | p :: r, k + 1, v, h => by
    have := sum_set f r k v (by simpa using h)
    simp only [List.set_cons_succ, List.map_cons, List.sum_cons, List.getD_cons_succ]
    omega
theorem getD_set (ps : List Int) (k i : Nat) (v : Int) (hk : k < ps.length) : (ps.set k v).getD i 0 = if k = i then v else ps.getD i 0 := by
  rw [List.getD_eq_getElem?_getD, List.getElem?_set]
  by_cases h : k = i
  · rw [if_pos h, if_pos hk, if_pos h]
    rfl
  · rw [if_neg h, if_neg h, List.getD_eq_getElem?_getD]
/-- How many are not 0. -/
def nz1 (p : Int) : Int := if p = 0 then 0 else 1
def cz (ps : List Int) : Int := (ps.map nz1).sum
theorem wsum_set (ps : List Int) (k : Nat) (v : Int) (h : k < ps.length) : wsum (ps.set k v) = wsum ps - wgh (ps.getD k 0) + wgh v := sum_set wgh ps k v h
theorem cz_set (ps : List Int) (k : Nat) (v : Int) (h : k < ps.length) (h1 : ps.getD k 0 ≠ 0) (h2 : v ≠ 0) : cz (ps.set k v) = cz ps := by
  unfold cz
  rw [sum_set nz1 ps k v h]
  unfold nz1
  rw [if_neg h1, if_neg h2]
  omega
theorem wsum_le_cz : ∀ (ps : List Int), (∀ i, i < ps.length → -1 ≤ ps.getD i 0 ∧ ps.getD i 0 ≤ 1) → wsum ps ≤ cz ps
  | [], _ => by simp [wsum, cz]
  | p :: r, h => by
    have h0 := h 0 (by simp)
    have ih := wsum_le_cz r (fun i hi => by have := h (i + 1) (by simpa using hi); simpa using this)
    simp only [List.getD_cons_zero] at h0
    unfold wsum cz at ih ⊢
    simp only [List.map_cons, List.sum_cons]
    unfold wgh nz1 at ih ⊢
    split <;> split <;> omega
theorem wgh_nn (p : Int) : 0 ≤ wgh p := by unfold wgh; split <;> omega
theorem wsum_nn : ∀ (ps : List Int), 0 ≤ wsum ps
  | [] => by simp [wsum]
  | p :: r => by
    have := wsum_nn r
    have h := wgh_nn p
    unfold wsum at this ⊢
    simp only [List.map_cons, List.sum_cons]
    omega
theorem wgh_le_sum : ∀ (ps : List Int) (i : Nat), i < ps.length → wgh (ps.getD i 0) ≤ wsum ps
  | p :: r, 0, _ => by
    have := wsum_nn r
    unfold wsum at this ⊢
    simp
    omega
  | p :: r, i + 1, h => by
    have := wgh_le_sum r i (by simpa using h)
    have h2 := wgh_nn p
    unfold wsum at this ⊢
    simp only [List.map_cons, List.sum_cons, List.getD_cons_succ]
    omega
theorem big_max (ps : List Int) (P : Int) (hc : cz ps ≤ P) (hw : P < wsum ps) (hb : ∀ i, i < ps.length → -1 ≤ ps.getD i 0) : amx ps < ps.length ∧ 2 ≤ ps.getD (amx ps) 0 := by
  have h0 : 0 < ps.length := by
    rcases Nat.eq_zero_or_pos ps.length with h | h
    · have : ps = [] := List.length_eq_zero_iff.1 h
      subst this
      simp [wsum, cz] at hc hw
      omega
    · exact h
  refine ⟨amx_lt ps h0, ?_⟩
  by_cases h2 : 2 ≤ ps.getD (amx ps) 0
  · exact h2
  · have := wsum_le_cz ps (fun i hi => ⟨hb i hi, by have := amx_max ps i hi; omega⟩)
    omega
theorem dec_inv (ps : List Int) (P : Int) (hc : cz ps ≤ P) (hw : P < wsum ps) (hb : ∀ i, i < ps.length → -1 ≤ ps.getD i 0) :
    wsum (dec ps) = wsum ps - 1 ∧ cz (dec ps) = cz ps ∧ (∀ i, i < ps.length → -1 ≤ (dec ps).getD i 0) ∧ (∀ i, (dec ps).getD i 0 = 0 ↔ ps.getD i 0 = 0) := by
  obtain ⟨h1, h2⟩ := big_max ps P hc hw hb
  unfold dec
  refine ⟨?_, cz_set _ _ _ h1 (by omega) (by omega), fun i hi => ?_, fun i => ?_⟩
  · rw [wsum_set _ _ _ h1]
    unfold wgh
    rw [if_neg (by omega), if_neg (by omega)]
    omega
  · rw [getD_set _ _ _ _ h1]
    split
    · omega
    · exact hb i hi
  · rw [getD_set _ _ _ _ h1]
    by_cases h : amx ps = i
    · rw [if_pos h, ← h]
      omega
    · rw [if_neg h]
theorem decs_inv (P : Int) : ∀ (j : Nat) (ps : List Int), cz ps ≤ P → P + j ≤ wsum ps → (∀ i, i < ps.length → -1 ≤ ps.getD i 0) →
    wsum (decs j ps) = wsum ps - j ∧ cz (decs j ps) = cz ps ∧ (∀ i, i < ps.length → -1 ≤ (decs j ps).getD i 0) ∧ (∀ i, (decs j ps).getD i 0 = 0 ↔ ps.getD i 0 = 0)
  | 0, ps, _, _, hb => ⟨by simp [decs], rfl, hb, fun _ => Iff.rfl⟩
  | j + 1, ps, hc, hw, hb => by
    obtain ⟨h1, h2, h3, h4⟩ := dec_inv ps P hc (by push_cast at hw; omega) hb
    obtain ⟨g1, g2, g3, g4⟩ := decs_inv P j (dec ps) (by omega) (by push_cast at hw; omega) (fun i hi => h3 i (by rwa [dec_len] at hi))
    rw [decs]
    refine ⟨by push_cast; omega, by omega, fun i hi => g3 i (by rw [dec_len]; exact hi), fun i => (g4 i).trans (h4 i)⟩
theorem prb_ne (t : Int) (l : Nat) (c : Int) : prb t l c ≠ 0 := by
  unfold prb
  split
  · omega
  · assumption
theorem cz_occ (t : Int) (l : Nat) : ∀ (xs : List Int) (s : Nat), cz (xs.map (prz t l)) = ((occ s xs).length : Int)
  | [], _ => rfl
  | x :: r, s => by
    have ih := cz_occ t l r (s + 1)
    unfold cz at ih ⊢
    unfold occ
    simp only [List.map_cons, List.sum_cons, ih]
    by_cases h : 0 < x
    · rw [if_pos h]
      unfold prz nz1
      rw [if_pos h, if_neg (prb_ne _ _ _)]
      simp only [List.length_cons]
      omega
    · rw [if_neg h]
      unfold prz nz1
      rw [if_neg h, if_pos rfl]
      omega
theorem base_get (xs : List Int) (t : Int) (l i : Nat) (hi : i < many xs) : (base xs t l).getD i 0 = prz t l (xs.getD i 0) := by
  have hm := many_le xs
  unfold base
  simp [List.getD_eq_getElem?_getD, List.getElem?_take, hi, show i < xs.length by omega]
/-- What a distribution is like. -/
theorem dist_spec {xs : List Int} {l : Nat} (hr : rng xs = true) (ht : 0 < xs.sum) (hl : l ≤ 12) (hd : ((occ 0 xs).length : Int) ≤ (2 : Int) ^ l) :
    wsum (dist0 xs l) = (2 : Int) ^ l ∧ ∀ i, i < many xs → -1 ≤ (dist0 xs l).getD i 0 ∧ ((dist0 xs l).getD i 0 = 0 ↔ ¬ 0 < xs.getD i 0) := by
  have hcz : cz (base xs xs.sum l) = ((occ 0 xs).length : Int) := by
    unfold base
    rw [cz_occ _ _ _ 0, ← occ_cut]
  have hbd : ∀ i, i < many xs → -1 ≤ (base xs xs.sum l).getD i 0 ∧ ((base xs xs.sum l).getD i 0 = 0 ↔ ¬ 0 < xs.getD i 0) := by
    intro i hi
    rw [base_get xs _ l i hi]
    unfold prz
    have hm := many_le xs
    by_cases h : 0 < xs.getD i 0
    · rw [if_pos h]
      have := prb_bd (l := l) (rng_get hr i) (sum_ge xs i hr (by omega)) ht hl
      exact ⟨this.1, by constructor <;> intro h5; exact absurd h5 (prb_ne _ _ _); exact absurd h h5⟩
    · rw [if_neg h]
      exact ⟨by omega, fun _ => h, fun _ => rfl⟩
  have hbl := base_len xs xs.sum l
  unfold dist0
  by_cases hlf : 0 < (2 : Int) ^ l - wsum (base xs xs.sum l)
  · rw [if_pos hlf]
    obtain ⟨h1, h2⟩ := amx_many hr ht
    have hw := wgh_nn ((base xs xs.sum l).getD (amx xs) 0)
    unfold give
    refine ⟨?_, fun i hi => ?_⟩
    · rw [wsum_set _ _ _ (by omega)]
      have : wgh (wgh ((base xs xs.sum l).getD (amx xs) 0) + ((2 : Int) ^ l - wsum (base xs xs.sum l))) = wgh ((base xs xs.sum l).getD (amx xs) 0) + ((2 : Int) ^ l - wsum (base xs xs.sum l)) := by
        have hz : 0 < wgh ((base xs xs.sum l).getD (amx xs) 0) + ((2 : Int) ^ l - wsum (base xs xs.sum l)) := by omega
        generalize wgh ((base xs xs.sum l).getD (amx xs) 0) + ((2 : Int) ^ l - wsum (base xs xs.sum l)) = z at hz ⊢
        unfold wgh
        split <;> omega
      rw [this]
      omega
    · rw [getD_set _ _ _ _ (by omega)]
      by_cases h : amx xs = i
      · rw [if_pos h, ← h]
        exact ⟨by omega, by constructor <;> intro h5 <;> omega⟩
      · rw [if_neg h]
        exact hbd i hi
  · rw [if_neg hlf]
    obtain ⟨g1, _, g3, g4⟩ := decs_inv ((2 : Int) ^ l) (wsum (base xs xs.sum l) - (2 : Int) ^ l).toNat (base xs xs.sum l) (by omega) (by omega) (fun i hi => (hbd i (by omega)).1)
    exact ⟨by omega, fun i hi => ⟨g3 i (by omega), (g4 i).trans (hbd i hi).2⟩⟩
theorem dist_sum {xs : List Int} {l : Nat} (hr : rng xs = true) (ht : 0 < xs.sum) (hl : l ≤ 12) (hd : ((occ 0 xs).length : Int) ≤ (2 : Int) ^ l) (hm : many xs ≤ 256) : rSum (dist0 xs l) = ((2 : Int) ^ l, 0) := by
  obtain ⟨h1, h2⟩ := dist_spec hr ht hl hd
  have hp := pow12 l hl
  have hlen := dist0_len xs l
  rw [← h1]
  refine rSum_ok (by omega) (fun k hk => ?_)
  have h3 := h2 k (by omega)
  have h4 := wgh_le_sum (dist0 xs l) k hk
  refine ⟨h3.1, ?_⟩
  rw [h1] at h4
  unfold wgh at h4
  split at h4 <;> omega
theorem many_pos {xs : List Int} (hr : rng xs = true) (ht : 0 < xs.sum) : 0 < many xs ∧ 0 < xs.getD (many xs - 1) 0 := by
  obtain ⟨h1, h2⟩ := amx_many hr ht
  have h3 : 0 ≤ lst xs := by
    unfold many at h1
    omega
  refine ⟨by omega, ?_⟩
  have h4 := lst_pos h3
  have : many xs - 1 = (lst xs).toNat := by unfold many; omega
  rw [this]
  exact h4
theorem none_beyond (xs : List Int) (i : Nat) (h : many xs ≤ i) : ¬ 0 < xs.getD i 0 := by
  intro hp
  by_cases hi : i < xs.length
  · have := pos_le_lst xs i hi hp
    unfold many at h
    omega
  · simp [show xs.length ≤ i by omega] at hp
end Go.Proofs.Ytgponpjlkebjcaa
