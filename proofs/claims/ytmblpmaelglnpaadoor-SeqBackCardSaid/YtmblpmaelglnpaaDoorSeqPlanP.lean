/-
  Plans: lists of literals, distances and matches that are in bytes. No program in sight.
-/
import Derived.Test.YtmblpmaelglnpaaDoorRows
import Derived.Test.YtmblpmaelglnpaaDoorSeqOfPlain
import Derived.Test.YtmblpmaelglnpaaDoorGBase
namespace Go.Proofs.YtmblpmaelglnpaaDoor
open Go.RowKit
set_option linter.unusedSimpArgs false
set_option linter.unusedVariables false

/-- The lists are in the bytes, up to this place. -/
def PlanOk (all : ByteArray) (n0 : Nat) (L D M : List Int) (f : Nat) : Prop := oR L D M = true ∧ f = oAt n0 L M L.length ∧ f ≤ all.size ∧ ∀ i, i < L.length → oFit all n0 L D M i = true
theorem oR_mk2 {ls ds ms : List Int} (h1 : ds.length = ls.length) (h2 : ms.length = ls.length) (h : ∀ i, i < ls.length → 0 ≤ ls.getD i 0 ∧ ls.getD i 0 ≤ 131072 ∧ 1 ≤ ds.getD i 0 ∧ ds.getD i 0 ≤ 2147483648 ∧ 3 ≤ ms.getD i 0 ∧ ms.getD i 0 ≤ 131074) : oR ls ds ms = true := by
  have key : ∀ (l : List Int) (p : Int → Bool), (∀ i, i < l.length → p (l.getD i 0) = true) → l.all p = true := by
    intro l p hp
    rw [List.all_eq_true]
    intro x hx
    obtain ⟨i, hi, rfl⟩ := List.getElem_of_mem hx
    have := hp i hi
    rwa [List.getD_eq_getElem?_getD, List.getElem?_eq_getElem hi] at this
  unfold oR
  simp only [Bool.and_eq_true, decide_eq_true_eq]
  refine ⟨⟨⟨⟨h1, h2⟩, key _ _ fun i hi => ?_⟩, key _ _ fun i hi => ?_⟩, key _ _ fun i hi => ?_⟩
  · have := h i hi; simp only [Bool.and_eq_true, decide_eq_true_eq]; omega
  · have := h i (by omega); simp only [Bool.and_eq_true, decide_eq_true_eq]; omega
  · have := h i (by omega); simp only [Bool.and_eq_true, decide_eq_true_eq]; omega
theorem snoc_lt (L : List Int) (x : Int) {i : Nat} (h : i < L.length) : (L ++ [x]).getD i 0 = L.getD i 0 := by
  rw [List.getD_eq_getElem?_getD, List.getD_eq_getElem?_getD, List.getElem?_append_left h]
theorem snoc_eq (L : List Int) (x : Int) : (L ++ [x]).getD L.length 0 = x := by
  rw [List.getD_eq_getElem?_getD, List.getElem?_append_right (Nat.le_refl _), Nat.sub_self]
  rfl
theorem oAt_snoc (n0 : Nat) (L M : List Int) (x m : Int) (hm : M.length = L.length) : ∀ i, i ≤ L.length → oAt n0 (L ++ [x]) (M ++ [m]) i = oAt n0 L M i := by
  intro i
  induction i with
  | zero => intro _; rfl
  | succ i ih => intro h; simp only [oAt, ih (by omega), snoc_lt L x (by omega : i < L.length), snoc_lt M m (by omega : i < M.length)]
theorem planOk_nil (all : ByteArray) (n0 : Nat) (h : n0 ≤ all.size) : PlanOk all n0 [] [] [] n0 := ⟨by decide, rfl, h, fun i hi => by simp at hi⟩
theorem planOk_snoc {all : ByteArray} {n0 : Nat} {L D M : List Int} {f p d n : Nat} (h : PlanOk all n0 L D M f) (h1 : f ≤ p) (h2 : p - f ≤ 131072) (h3 : 1 ≤ d) (h4 : d ≤ p) (h5 : d ≤ 2147483648) (h6 : 3 ≤ n) (h7 : n ≤ 131074) (h8 : p + n ≤ all.size)
    (h9 : ∀ j, j < n → byt all (p + j) = byt all (p + j - d)) : PlanOk all n0 (L ++ [((p - f : Nat) : Int)]) (D ++ [(d : Int)]) (M ++ [(n : Int)]) (p + n) := by
  obtain ⟨g1, g2, g3, g4⟩ := h
  obtain ⟨k1, k2, k3⟩ := oR_get g1
  have e := oAt_snoc n0 L M ((p - f : Nat) : Int) (n : Int) k2
  have lL : (L ++ [((p - f : Nat) : Int)]).length = L.length + 1 := by simp
  have sD : (D ++ [(d : Int)]).getD L.length 0 = (d : Int) := by rw [← k1]; exact snoc_eq _ _
  have sM : (M ++ [(n : Int)]).getD L.length 0 = (n : Int) := by rw [← k2]; exact snoc_eq _ _
  refine ⟨oR_mk2 (by simp [k1]) (by simp [k2]) fun i hi => ?_, ?_, h8, fun i hi => ?_⟩
  · rw [lL] at hi
    by_cases hi2 : i < L.length
    · rw [snoc_lt L _ hi2, snoc_lt D _ (by omega), snoc_lt M _ (by omega)]
      exact k3 i hi2
    · obtain rfl : i = L.length := by omega
      rw [snoc_eq, sD, sM]
      omega
  · rw [lL, oAt, e _ (Nat.le_refl _), snoc_eq, sM, ← g2]
    simp only [Int.toNat_natCast]
    omega
  · rw [lL] at hi
    by_cases hi2 : i < L.length
    · obtain ⟨f1, f2⟩ := oFit_get (g4 i hi2)
      refine oFit_mk ?_ ?_
      · rw [e i (by omega), snoc_lt L _ hi2, snoc_lt D _ (by omega)]
        exact f1
      · rw [e i (by omega), snoc_lt L _ hi2, snoc_lt D _ (by omega), snoc_lt M _ (by omega)]
        exact f2
    · obtain rfl : i = L.length := by omega
      refine oFit_mk ?_ ?_
      · rw [e _ (Nat.le_refl _), snoc_eq, sD, ← g2]
        simp only [Int.toNat_natCast]
        omega
      · rw [e _ (Nat.le_refl _), snoc_eq, sD, sM, ← g2]
        simp only [Int.toNat_natCast]
        rw [show f + (p - f) = p by omega]
        exact h9
end Go.Proofs.YtmblpmaelglnpaaDoor
