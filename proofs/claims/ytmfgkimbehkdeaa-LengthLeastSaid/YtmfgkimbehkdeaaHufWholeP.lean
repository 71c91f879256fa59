/-
  Counts made of numbers: what their lengths and depths are. No program in sight.
-/
import Derived.Test.YtmfgkimbehkdeaaHufMade
namespace Go.Proofs.Ytmfgkimbehkdeaa
open Go.RowKit
set_option linter.unusedSimpArgs false
set_option linter.unusedVariables false
theorem rng_ints {L : List Nat} (h : ∀ c ∈ L, c ≤ 1099511627776) : rng (ints L) = true := by
  unfold rng ints
  rw [List.all_eq_true]
  intro x hx
  obtain ⟨n, hn, rfl⟩ := List.mem_map.1 hx
  have := h n hn
  simp
  omega
theorem chkL_ints {L : List Nat} (h1 : L.length ≤ 256) (h2 : L.sum ≤ 1099511627776) (h3 : 2 ≤ (leaves 0 L).length) : chkL (ints L) = 0 := by
  have hr : rng (ints L) = true := rng_ints (fun c hc => Nat.le_trans (mem_le_sum hc) h2)
  have hc : cchk (ints L) = 0 := by
    unfold cchk
    rw [ints_length, if_neg (by omega), if_pos]
    rw [cok_iff _ _ (by omega), hr, ints_sum, Bool.true_and, decide_eq_true_eq]
    omega
  unfold chkL
  rw [if_pos hc, occ_leaves, ints_nn, if_neg (by omega)]
theorem rLen_ints {L : List Nat} (h1 : L.length ≤ 256) (h2 : L.sum ≤ 1099511627776) (h3 : 2 ≤ (leaves 0 L).length) : rLen (ints L) = (ints (ofL L.sum L), 0) := by
  unfold rLen
  rw [if_pos (chkL_ints h1 h2 h3), ints_nn]
theorem rDep_ints {L : List Nat} (h1 : L.length ≤ 256) (h2 : L.sum ≤ 1099511627776) (h3 : 2 ≤ (leaves 0 L).length) : rDep (ints L) = (ints (depthsL L), 0) := by
  unfold rDep
  rw [if_pos (chkL_ints h1 h2 h3), ints_nn]
theorem posN_ints (l : List Nat) : posN (ints l) = manyL l := by
  unfold posN manyL ints
  rw [List.countP_map]
  refine List.countP_congr fun x _ => ?_
  simp
theorem rChk2_ints {l : List Nat} (h1 : l.length ≤ 256) (h2 : ∀ x ∈ l, x ≤ 11) (h3 : roomL l = 2048) (h4 : 2 ≤ manyL l) : rChk2 (ints l) = 0 := by
  have ho : okR (ints l) = true := by
    unfold okR ints
    rw [List.all_eq_true]
    intro x hx
    obtain ⟨n, hn, rfl⟩ := List.mem_map.1 hx
    have := h2 n hn
    simp
    omega
  have hr := rRoom_ok (xs := ints l) (by rw [ints_length]; omega) ho
  rw [ints_nn, h3] at hr
  unfold rChk2
  rw [hr, posN_ints, if_neg (by simp), if_neg (by omega), if_neg (by simp)]
theorem leaves_append : ∀ (l m : List Nat) (s : Nat), leaves s (l ++ m) = leaves s l ++ leaves (s + l.length) m := by
  intro l
  induction l with
  | nil => intro m s; simp [leaves]
  | cons a l ih =>
    intro m s
    rw [List.cons_append]
    unfold leaves
    rw [ih]
    have e : s + 1 + l.length = s + (a :: l).length := by simp; omega
    rw [e]
    cases m with
    | nil => split <;> simp [leaves]
    | cons b m => split <;> simp [leaves]
theorem sum_le_mul : ∀ (l : List Nat) (b : Nat), (∀ c ∈ l, c ≤ b) → l.sum ≤ b * l.length := by
  intro l
  induction l with
  | nil => intro b _; simp
  | cons c l ih =>
    intro b h
    have h1 := ih b (fun x hx => h x (by simp [hx]))
    have h2 := h c (by simp)
    rw [List.sum_cons, List.length_cons, Nat.mul_succ]
    omega
structure Made (L : List Nat) : Prop where
  two : 2 ≤ (leaves 0 L).length
  len : L.length ≤ 22
  le : ∀ c ∈ L, c ≤ 65536
theorem made_of (xs : List Int) : Made (mdN xs) := by
  refine ⟨?_, ?_, ?_⟩
  · unfold mdN
    rw [leaves_append]
    simp [leaves]
  · simp [mdN, mkL]
    omega
  · intro c hc
    unfold mdN mkL at hc
    rcases List.mem_append.1 hc with hc | hc
    · obtain ⟨x, _, rfl⟩ := List.mem_map.1 hc
      exact mkN_le x
    · simp at hc
      omega
theorem Made.sum {L : List Nat} (h : Made L) : L.sum ≤ 1441792 := by
  have := sum_le_mul L 65536 h.le
  have := h.len
  omega
theorem Made.pos {L : List Nat} (h : Made L) : 2 ≤ L.length := Nat.le_trans h.two (leaves_le L 0)
def dbl2 (L : List Nat) : List Nat := L.map (2 * ·)
theorem dbl2_leaves : ∀ (L : List Nat) (s : Nat), (leaves s (dbl2 L)).length = (leaves s L).length := by
  intro L s
  unfold dbl2
  rw [leaves_dbl, List.length_map]
theorem dbl2_sum (L : List Nat) : (dbl2 L).sum = 2 * L.sum := by
  unfold dbl2
  induction L with
  | nil => rfl
  | cons a L ih => rw [List.map_cons, List.sum_cons, List.sum_cons, ih]; omega
/-- What LengthWhole asks. -/
structure Whole (L l d : List Nat) : Prop where
  ofs : rLen (ints L) = (ints l, 0)
  deps : rDep (ints L) = (ints d, 0)
  chk : rChk2 (ints l) = 0
  len1 : l.length = L.length
  len2 : d.length = L.length
  same : ∀ i c e : Nat, L[i]? = some c → l[i]? = some e → (0 < c ↔ 0 < e)
  low : (∀ x ∈ d, x ≤ 11) → l = d
  mono : (∀ x ∈ d, x ≤ 11) → ∀ i k ci ck di dk : Nat, L[i]? = some ci → L[k]? = some ck → l[i]? = some di → l[k]? = some dk → 0 < ck → ck < ci → di ≤ dk
  twice : rDep (ints (dbl2 L)) = (ints d, 0)
theorem whole_of {L : List Nat} (h : Made L) : Whole L (ofL L.sum L) (depthsL L) := by
  have hs := h.sum
  have hl := h.len
  obtain ⟨w1, w2, w3, w4, w5⟩ := of_whole (k := L.sum) h.two (by omega) (Nat.le_refl _)
  obtain ⟨d1, d2⟩ := depths_alike h.two
  refine ⟨rLen_ints (by omega) (by omega) h.two, rDep_ints (by omega) (by omega) h.two, rChk2_ints (by omega) w2 w3 w4, w1, d1, w5, fun hd => of_low hd, ?_, ?_⟩
  · intro hd i k ci ck di dk h1 h2 h3 h4 h5 h6
    rw [of_low hd] at h3 h4
    have := h.two
    exact tree_mono (by omega) h1 h2 h3 h4 h5 h6
  · rw [rDep_ints (by simp [dbl2]; omega) (by rw [dbl2_sum]; omega) (by rw [dbl2_leaves]; exact h.two)]
    unfold dbl2
    rw [depths_dbl]
end Go.Proofs.Ytmfgkimbehkdeaa
