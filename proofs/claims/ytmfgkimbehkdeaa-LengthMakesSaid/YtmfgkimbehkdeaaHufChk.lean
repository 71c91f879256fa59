/-
  Counts that are right, as a list of natural numbers; what Depths and Of return. No program in sight.
-/
import Derived.Test.YtmfgkimbehkdeaaHufDepP
import Derived.Test.YtmfgkimbehkdeaaCountsPlain
namespace Go.Proofs.Ytmfgkimbehkdeaa
open Go.RowKit
set_option linter.unusedSimpArgs false
set_option linter.unusedVariables false
def nn (xs : List Int) : List Nat := xs.map Int.toNat
theorem nn_length (xs : List Int) : (nn xs).length = xs.length := by simp [nn]
theorem nn_ints : ∀ (xs : List Int), rng xs = true → ints (nn xs) = xs := by
  intro xs h
  unfold ints nn
  rw [List.map_map]
  have : ∀ x ∈ xs, ((fun n : Nat => (n : Int)) ∘ Int.toNat) x = id x := by
    intro x hx
    unfold rng at h
    rw [List.all_eq_true] at h
    have := h x hx
    simp at this ⊢
    omega
  rw [List.map_congr_left this, List.map_id]
theorem ints_nn (l : List Nat) : nn (ints l) = l := by
  unfold ints nn
  rw [List.map_map]
  have : ∀ x ∈ l, (Int.toNat ∘ fun n : Nat => (n : Int)) x = id x := fun x _ => by simp
  rw [List.map_congr_left this, List.map_id]
theorem occ_leaves : ∀ (xs : List Int) (s : Nat), (occ s xs).length = (leaves s (nn xs)).length := by
  intro xs
  induction xs with
  | nil => intro s; rfl
  | cons x r ih =>
    intro s
    unfold nn at ih ⊢
    rw [List.map_cons]
    unfold occ leaves
    by_cases h : 0 < x
    · rw [if_pos h, if_pos (by omega), List.length_cons, List.length_cons, ih]
    · rw [if_neg h, if_neg (by omega), ih]
theorem ints_sum (l : List Nat) : (ints l).sum = ((l.sum : Nat) : Int) := by
  induction l with
  | nil => rfl
  | cons a l ih =>
    unfold ints at ih ⊢
    rw [List.map_cons, List.sum_cons, List.sum_cons, ih]
    omega
/-- The error of counts of which two have to occur. -/
def chkL (xs : List Int) : Int := if cchk xs = 0 then (if (occ 0 xs).length < 2 then 7 else 0) else cchk xs
structure Right (xs : List Int) (ns : List Nat) : Prop where
  eq : xs = ints ns
  len : ns.length ≤ 256
  sum : ns.sum ≤ 1099511627776
  two : 2 ≤ (leaves 0 ns).length
theorem Right.of {xs : List Int} (h : chkL xs = 0) : Right xs (nn xs) := by
  unfold chkL at h
  split at h
  · rename_i hc
    split at h
    · simp at h
    · rename_i ho
      obtain ⟨h1, h2, h3, h4⟩ := cchk_ok hc
      have e := nn_ints xs h2
      refine ⟨e.symm, by rw [nn_length]; exact h1, ?_, ?_⟩
      · rw [← e, ints_sum] at h3
        omega
      · rw [← occ_leaves]
        omega
  · rename_i hc
    exact absurd h hc
/-- What Depths returns. -/
def rDep (xs : List Int) : List Int × Int := if chkL xs = 0 then (ints (depthsL (nn xs)), 0) else ([], chkL xs)
/-- What Of returns. -/
def rLen (xs : List Int) : List Int × Int := if chkL xs = 0 then (ints (ofL (nn xs).sum (nn xs)), 0) else ([], chkL xs)
theorem chkL_vals (xs : List Int) : chkL xs = 0 ∨ chkL xs = 2 ∨ chkL xs = 6 ∨ chkL xs = 7 := by
  unfold chkL cchk
  by_cases h1 : 256 < xs.length
  · simp [h1]
  · by_cases h2 : cok 0 xs = true
    · by_cases h3 : (occ 0 xs).length < 2
      · simp [h1, h2, h3]
      · simp [h1, h2, h3]
    · simp [h1, h2]
theorem depthsL_len {ns : List Nat} (h : 1 ≤ (leaves 0 ns).length) : (depthsL ns).length = ns.length := by
  obtain ⟨t, _, _, h3, _⟩ := depths_tree ns h
  exact h3
end Go.Proofs.Ytmfgkimbehkdeaa
