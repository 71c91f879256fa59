/-
  Plain laws of tallies: what stands at a place, sums, parts, and strings of one byte. No program in sight.
-/
import Derived.Test.YtgponpjlkebjcaaCountsSpell
namespace Go.Proofs.Ytgponpjlkebjcaa
open Go.RowKit
set_option linter.unusedSimpArgs false
set_option linter.unusedVariables false
theorem snocI {α : Type} {P : List α → Prop} (h0 : P []) (h1 : ∀ l a, P l → P (l ++ [a])) (l : List α) : P l := by
  induction h : l.length generalizing l with
  | zero => simp at h; subst h; exact h0
  | succ n ih =>
    rcases List.eq_nil_or_concat l with h2 | ⟨ys, y, h2⟩
    · subst h2; simp at h
    · subst h2
      simp at h
      rw [List.concat_eq_append]; exact h1 _ _ (ih ys h)
theorem tally_get (m : Nat) (ks : List Nat) (j : Nat) (hj : j < m) : (tally m ks).getD j 0 = (ks.count j : Int) := by
  refine snocI (P := fun ks => (tally m ks).getD j 0 = (ks.count j : Int)) ?_ ?_ ks
  · simp [tally, hj]
  · intro ks k ih
    rw [tally_snoc, List.count_append]
    unfold bump
    rw [List.getD_eq_getElem?_getD, List.getElem?_set]
    by_cases h : k = j
    · subst h
      rw [if_pos rfl, if_pos (by rw [tally_len]; exact hj)]
      simp only [Option.getD_some]
      rw [ih]
      simp
    · rw [if_neg h, ← List.getD_eq_getElem?_getD, ih]
      have : List.count j [k] = 0 := by simp [h]
      rw [this]
      simp
theorem tally_ext (m : Nat) (ks ls : List Nat) (h : ∀ j, ks.count j = ls.count j) : tally m ks = tally m ls := by
  apply List.ext_getElem
  · rw [tally_len, tally_len]
  · intro j h1 h2
    rw [tally_len] at h1
    have e1 := tally_get m ks j h1
    have e2 := tally_get m ls j h1
    rw [h j, ← e2] at e1
    simpa [tally_len, h1] using e1
theorem tally_append_get (m : Nat) (ks ls : List Nat) (j : Nat) (hj : j < m) : (tally m ks).getD j 0 + (tally m ls).getD j 0 = (tally m (ks ++ ls)).getD j 0 := by
  rw [tally_get m ks j hj, tally_get m ls j hj, tally_get m _ j hj, List.count_append]
  omega
theorem set_sum (xs : List Int) (k : Nat) (v : Int) (h : k < xs.length) : (xs.set k v).sum = xs.sum - xs.getD k 0 + v := by
  induction xs generalizing k with
  | nil => simp at h
  | cons x r ih =>
    cases k with
    | zero => simp; omega
    | succ k =>
      have := ih k (by simpa using h)
      simp only [List.set_cons_succ, List.sum_cons, List.getD_cons_succ]
      rw [this]
      omega
theorem tally_sum (m : Nat) (ks : List Nat) (h : ∀ k ∈ ks, k < m) : (tally m ks).sum = ks.length := by
  revert h
  refine snocI (P := fun ks => (∀ k ∈ ks, k < m) → (tally m ks).sum = ks.length) ?_ ?_ ks
  · simp [tally]
  · intro ks k ih h
    rw [tally_snoc]
    unfold bump
    rw [set_sum _ _ _ (by rw [tally_len]; exact h k (by simp)), ih (fun j hj => h j (by simp [hj]))]
    simp
    omega
theorem tally_ok (ks : List Nat) (h : ∀ k ∈ ks, k < 256) (hl : ks.length ≤ 1099511627776) : cchk (tally 256 ks) = 0 := by
  refine cchk_zero (by rw [tally_len]; omega) ?_ (by rw [tally_sum _ _ h]; omega)
  unfold rng
  rw [List.all_eq_true]
  intro x hx
  obtain ⟨j, hj, rfl⟩ := List.getElem_of_mem hx
  have := tally_le 256 ks j
  rw [List.getD_eq_getElem?_getD, List.getElem?_eq_getElem hj] at this
  simp at this ⊢
  omega
theorem bts_lt (s : ByteArray) : ∀ k ∈ bts s, k < 256 := by
  intro k hk
  simp only [bts, List.mem_map] at hk
  obtain ⟨b, _, rfl⟩ := hk
  exact b.toNat_lt
theorem bts_append (s t : ByteArray) : bts (s ++ t) = bts s ++ bts t := by simp [bts]
/-! Just one of them -/
theorem filter_one {xs : List Int} {p : Int → Bool} {c : Nat} (hc : c < xs.length) (hp : p xs[c] = true) (hn : ∀ j (hj : j < xs.length), j ≠ c → p xs[j] = false) : (xs.filter p).length = 1 := by
  induction xs generalizing c with
  | nil => simp at hc
  | cons x r ih =>
    cases c with
    | zero =>
      have h0 : r.filter p = [] := by
        rw [List.filter_eq_nil_iff]
        intro y hy
        obtain ⟨j, hj, rfl⟩ := List.getElem_of_mem hy
        have := hn (j + 1) (by simpa using hj) (by omega)
        simpa using this
      have h1 : p x = true := by simpa using hp
      simp [h1, h0]
    | succ c =>
      have h0 : p x = false := by have := hn 0 (by simp) (by omega); simpa using this
      have h1 := ih (c := c) (by simpa using hc) (by simpa using hp) (fun j hj hjc => by
        have := hn (j + 1) (by simpa using hj) (by omega)
        simpa using this)
      simp [h0, h1]
theorem filter_two {xs : List Int} {p : Int → Bool} {a b : Nat} (hab : a < b) (hb : b < xs.length) (h1 : p (xs[a]'(by omega)) = true) (h2 : p xs[b] = true) : 2 ≤ (xs.filter p).length := by
  have e : xs = xs.take b ++ xs.drop b := (List.take_append_drop b xs).symm
  rw [e, List.filter_append, List.length_append]
  have m1 : xs[a]'(by omega) ∈ (xs.take b).filter p := by
    rw [List.mem_filter]
    exact ⟨by rw [List.mem_take_iff_getElem]; exact ⟨a, by omega, rfl⟩, h1⟩
  have m2 : xs[b] ∈ (xs.drop b).filter p := by
    rw [List.mem_filter]
    refine ⟨?_, h2⟩
    rw [List.drop_eq_getElem_cons hb]
    exact List.mem_cons_self
  have l1 := List.length_pos_of_mem m1
  have l2 := List.length_pos_of_mem m2
  omega
theorem same_one (s : ByteArray) : rSame s = decide ((occ 0 (tally 256 (bts s))).length = 1) := by
  rw [occ_len]
  by_cases h0 : 0 < s.size
  · have hl : 0 < (bts s).length := by rw [bts_len]; exact h0
    obtain ⟨d, r, hd⟩ : ∃ d r, bts s = d :: r := by
      cases hb : bts s with
      | nil => rw [hb] at hl; simp at hl
      | cons d r => exact ⟨d, r, rfl⟩
    have hdl : d < 256 := bts_lt s d (by rw [hd]; simp)
    have hcd : 0 < (bts s).count d := by rw [hd]; simp
    have gd := tally_get 256 (bts s) d hdl
    have gl : d < (tally 256 (bts s)).length := by rw [tally_len]; exact hdl
    have gd2 : (tally 256 (bts s))[d] = ((bts s).count d : Int) := by simpa [gl] using gd
    by_cases ha : ∀ c ∈ bts s, c = d
    · have e1 : rSame s = true := by
        simp only [rSame, Bool.and_eq_true, decide_eq_true_eq, List.all_eq_true]
        refine ⟨h0, fun c hc => ?_⟩
        rw [hd]
        simpa using ha c hc
      rw [e1]
      symm
      rw [decide_eq_true_eq]
      refine filter_one gl (by show decide (0 < _) = true; rw [gd2]; exact decide_eq_true (by omega)) (fun j hj hjd => ?_)
      have hj2 : j < 256 := by rwa [tally_len] at hj
      have gj := tally_get 256 (bts s) j hj2
      have hz : (bts s).count j = 0 := by
        rw [List.count_eq_zero]
        intro hm
        exact hjd (ha j hm)
      rw [hz] at gj
      have : (tally 256 (bts s))[j] = 0 := by simpa [hj] using gj
      rw [this]
      rfl
    · have e1 : rSame s = false := by
        rw [← Bool.not_eq_true]
        intro hr
        simp only [rSame, Bool.and_eq_true, decide_eq_true_eq, List.all_eq_true] at hr
        apply ha
        intro c hc
        have := hr.2 c hc
        rw [hd] at this
        simpa using this
      rw [e1]
      symm
      rw [decide_eq_false_iff_not]
      intro hone
      obtain ⟨c, hc⟩ := Classical.not_forall.1 ha
      obtain ⟨hcm, hcd2⟩ := Classical.not_imp.1 hc
      have hcl : c < 256 := bts_lt s c hcm
      have hcc : 0 < (bts s).count c := List.count_pos_iff.2 hcm
      have gc := tally_get 256 (bts s) c hcl
      have gcl : c < (tally 256 (bts s)).length := by rw [tally_len]; exact hcl
      have gc2 : (tally 256 (bts s))[c] = ((bts s).count c : Int) := by simpa [gcl] using gc
      rcases Nat.lt_or_gt_of_ne hcd2 with h | h
      · have := filter_two (p := fun n => decide (0 < n)) h gl (by show decide (0 < _) = true; rw [gc2]; exact decide_eq_true (by omega)) (by show decide (0 < _) = true; rw [gd2]; exact decide_eq_true (by omega))
        omega
      · have := filter_two (p := fun n => decide (0 < n)) h gcl (by show decide (0 < _) = true; rw [gd2]; exact decide_eq_true (by omega)) (by show decide (0 < _) = true; rw [gc2]; exact decide_eq_true (by omega))
        omega
  · have := size_zero h0
    subst this
    decide +kernel
end Go.Proofs.Ytgponpjlkebjcaa
