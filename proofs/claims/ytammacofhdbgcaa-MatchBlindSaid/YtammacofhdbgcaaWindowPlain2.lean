/-
  Plain laws of candidates and common lengths: what the statements of the chapter compare. No program in sight.
-/
import Derived.Test.YtammacofhdbgcaaWindow8
namespace Go.Proofs.Ytammacofhdbgcaa
open Go.RowKit
set_option linter.unusedSimpArgs false
set_option linter.unusedVariables false
theorem cmn_le (s : ByteArray) : ∀ f q p, cmn s f q p ≤ f := by
  intro f
  induction f with
  | zero => intro q p; simp [cmn]
  | succ f ih =>
    intro q p
    unfold cmn
    split
    · have := ih (q + 1) (p + 1); omega
    · omega
theorem cmn_four (s : ByteArray) (f q p : Nat) : 4 ≤ cmn s f q p ↔ 4 ≤ f ∧ fours s q = fours s p := by
  rcases Nat.lt_or_ge f 4 with h | h
  · constructor
    · intro h2
      have := cmn_le s f q p
      omega
    · rintro ⟨h1, _⟩
      omega
  · obtain ⟨g, rfl⟩ : ∃ g, f = g + 4 := ⟨f - 4, by omega⟩
    simp only [cmn, fours, List.cons.injEq, and_true]
    by_cases h0 : byt s q = byt s p
    · by_cases h1 : byt s (q + 1) = byt s (p + 1)
      · by_cases h2 : byt s (q + 2) = byt s (p + 2)
        · by_cases h3 : byt s (q + 3) = byt s (p + 3)
          · simp only [h0, h1, if_true, show q + 1 + 1 = q + 2 by omega, show p + 1 + 1 = p + 2 by omega, h2, show q + 2 + 1 = q + 3 by omega, show p + 2 + 1 = p + 3 by omega, h3]
            simp
            omega
          · simp only [h0, h1, if_true, show q + 1 + 1 = q + 2 by omega, show p + 1 + 1 = p + 2 by omega, h2, show q + 2 + 1 = q + 3 by omega, show p + 2 + 1 = p + 3 by omega, h3, if_false]
            simp
        · simp only [h0, h1, if_true, show q + 1 + 1 = q + 2 by omega, show p + 1 + 1 = p + 2 by omega, h2, if_false]
          simp
      · simp only [h0, h1, if_true, if_false]
        simp
    · simp only [h0, if_false]
      simp
/-- The candidates up to j places back, none in too little room. -/
def backE (s : ByteArray) (p e j : Nat) : List Nat := if e - p < 4 then [] else back s p j
theorem backE_zero (s : ByteArray) (p e : Nat) : backE s p e 0 = [] := by unfold backE; split <;> rfl
theorem backE_succ (s : ByteArray) (p e j : Nat) (h : j < p) : backE s p e (j + 1) = backE s p e j ++ (if 4 ≤ cmn s (e - p) (p - (j + 1)) p then [p - (j + 1)] else []) := by
  unfold backE
  by_cases he : e - p < 4
  · rw [if_pos he, if_pos he, if_neg (by rw [cmn_four]; omega)]
    rfl
  · rw [if_neg he, if_neg he, back_succ s p j h]
    congr 1
    by_cases hf : fours s (p - (j + 1)) = fours s p
    · rw [if_pos hf, if_pos ((cmn_four _ _ _ _).2 ⟨by omega, hf⟩)]
    · rw [if_neg hf, if_neg (fun h2 => hf ((cmn_four _ _ _ _).1 h2).2)]
theorem backE_more (s : ByteArray) (p e k : Nat) : ∀ m, k + m ≤ p → ∃ r, backE s p e (k + m) = backE s p e k ++ r := by
  intro m hm
  unfold backE
  split
  · exact ⟨[], rfl⟩
  · exact back_more s p k m hm
theorem cands_all (s : ByteArray) (p e m : Nat) (h : p ≤ 1024) : cands s p e 10 m = (backE s p e p).take m := by
  have hw : wback p 10 = p := by unfold wback; omega
  unfold cands backE back
  rw [hw]
  split
  · simp
  · simp
theorem back_len_le (s : ByteArray) (p j : Nat) : (back s p j).length ≤ j := by
  unfold back plc
  rw [List.length_reverse]
  exact Nat.le_trans (List.length_filter_le _ _) (by simp)
/-- The candidates found so far are the first ones. -/
theorem backE_get (s : ByteArray) (p e j : Nat) (h : j < p) (hc : 4 ≤ cmn s (e - p) (p - (j + 1)) p) : (backE s p e p)[(backE s p e j).length]? = some (p - (j + 1)) := by
  obtain ⟨r, hr⟩ := backE_more s p e (j + 1) (p - (j + 1)) (by omega)
  rw [show j + 1 + (p - (j + 1)) = p by omega, backE_succ s p e j h, if_pos hc] at hr
  rw [hr]
  simp
/-! Bytes -/
theorem byt_eq (s : ByteArray) (i : Nat) : byt s i = (s.data.toList.getD i 0).toNat := by
  unfold byt
  by_cases h : i < s.size
  · rw [dif_pos h]
    have h2 : i < s.data.toList.length := by simpa using h
    rw [List.getD_eq_getElem?_getD, List.getElem?_eq_getElem h2]
    rfl
  · rw [dif_neg h]
    have h2 : ¬ i < s.data.toList.length := by simpa using h
    rw [List.getD_eq_getElem?_getD, List.getElem?_eq_none (by omega)]
    rfl
theorem fours_of {s t : ByteArray} {q p : Nat} (h : ∀ i, i < 4 → byt s (q + i) = byt t (p + i)) : fours s q = fours t p := by
  unfold fours
  have h0 := h 0 (by omega)
  rw [Nat.add_zero, Nat.add_zero] at h0
  rw [h0, h 1 (by omega), h 2 (by omega), h 3 (by omega)]
theorem plc_shift (s t : ByteArray) (d p a n : Nat) (hp : fours t (d + p) = fours s p) (h : ∀ q, a ≤ q → q < a + n → fours t (d + q) = fours s q) : plc t (d + p) (d + a) n = (plc s p a n).map (d + ·) := by
  unfold plc
  rw [← List.map_add_range', List.filter_map]
  congr 1
  apply List.filter_congr
  intro q hq
  rw [List.mem_range'] at hq
  obtain ⟨i, hi, rfl⟩ := hq
  have := h (a + 1 * i) (by omega) (by omega)
  simp only [Function.comp, this, hp]
theorem plc_app (s : ByteArray) (p a n m : Nat) : plc s p a (n + m) = plc s p a n ++ plc s p (a + n) m := by
  unfold plc
  rw [← List.filter_append]
  congr 1
  have := List.range'_append (s := a) (m := n) (n := m) (step := 1)
  rw [Nat.one_mul] at this
  exact this.symm
/-- What stands at the end or behind it does not matter. -/
theorem backE_cut (s t : ByteArray) (p e : Nat) (h : ∀ i, i < e → byt t i = byt s i) : backE t p e p = backE s p e p := by
  unfold backE
  by_cases he : e - p < 4
  · rw [if_pos he, if_pos he]
  · rw [if_neg he, if_neg he]
    unfold back
    congr 1
    have := plc_shift s t 0 p (p - p) p (by
      rw [Nat.zero_add]
      exact fours_of fun i hi => h _ (by omega)) (fun q _ hq => by
      rw [Nat.zero_add]
      exact fours_of fun i hi => h _ (by omega))
    rw [Nat.zero_add, Nat.zero_add] at this
    rw [this]
    simp
/-- Bytes before move all candidates. -/
theorem backE_far (s t : ByteArray) (d p e : Nat) (h : ∀ i, i < e → byt t (d + i) = byt s i) : ∃ r, backE t (d + p) (d + e) (d + p) = (backE s p e p).map (d + ·) ++ r ∧ ∀ x ∈ r, x < d := by
  unfold backE
  by_cases he : e - p < 4
  · rw [if_pos he, if_pos (by omega)]
    exact ⟨[], rfl, by simp⟩
  · rw [if_neg he, if_neg (by omega)]
    unfold back
    rw [Nat.sub_self, Nat.sub_self, plc_app, Nat.zero_add, List.reverse_append]
    have := plc_shift s t d p 0 p (fours_of fun i hi => by rw [show d + p + i = d + (p + i) by omega]; exact h _ (by omega)) (fun q _ hq => fours_of fun i hi => by rw [show d + q + i = d + (q + i) by omega]; exact h _ (by omega))
    rw [Nat.add_zero] at this
    rw [this]
    refine ⟨_, by rw [← List.map_reverse], fun x hx => ?_⟩
    rw [List.mem_reverse] at hx
    unfold plc at hx
    have := (List.mem_filter.1 hx).1
    rw [List.mem_range'] at this
    omega
/-- The nearest candidate where all bytes are the same. -/
theorem near_same (s : ByteArray) (p e : Nat) (h : ∀ i, i < e → byt s i = byt s 0) (hp : 0 < p) (he : 4 ≤ e - p) (hp2 : p ≤ 1024) : cands s p e 10 1 = [p - 1] := by
  rw [cands_all s p e 1 hp2]
  obtain ⟨r, hr⟩ := backE_more s p e 1 (p - 1) (by omega)
  rw [show 1 + (p - 1) = p by omega, backE_succ s p e 0 hp, backE_zero, if_pos ((cmn_four _ _ _ _).2 ⟨he, fours_of fun i hi => by rw [h _ (by omega), h (p + i) (by omega)]⟩)] at hr
  rw [hr]
  simp
end Go.Proofs.Ytammacofhdbgcaa
