/-
  More plain facts on histories: what follows a right value; the value of a distance means it; histories made of numbers. No program in sight.
-/
import Derived.Test.YtammacofhdbgcaaRepsPlain
namespace Go.Proofs.Ytammacofhdbgcaa
set_option linter.unusedVariables false
set_option linter.unusedSimpArgs false
theorem rmean_ok {a b c v l : Int} (h : chkL true [a, b, c] = 0) (hv : 1 ≤ v) (hv2 : v ≤ 2147483651) (hl : 0 ≤ l) :
    (Rmean a b c v l).2.2 = 0 → (Rmean a b c v l).2.1.1 = (Rmean a b c v l).1 ∧ 1 ≤ (Rmean a b c v l).1 ∧ (Rmean a b c v l).1 ≤ 2147483648 ∧
      chkL true [(Rmean a b c v l).2.1.1, (Rmean a b c v l).2.1.2.1, (Rmean a b c v l).2.1.2.2] = 0 ∧
      ((Rmean a b c v l).2.1.2.1 = a ∨ (Rmean a b c v l).2.1.2.1 = b ∨ (Rmean a b c v l).2.1.2.1 = c) ∧
      ((Rmean a b c v l).2.1.2.2 = a ∨ (Rmean a b c v l).2.1.2.2 = b ∨ (Rmean a b c v l).2.1.2.2 = c) := by
  have hc := chk_ok h
  clear h
  unfold Rmean
  repeat' split
  all_goals
    intro he
    first
      | (exfalso; simp at he; done)
      | (refine ⟨rfl, ?_, ?_, chk_of ?_, ?_, ?_⟩ <;> simp only [] <;> first | omega | simp)
/-- Value of a distance: its value means it. -/
theorem rval_ok {a b c d l : Int} (h : chkL true [a, b, c] = 0) (hd : 1 ≤ d) (hd2 : d ≤ 2147483648) (hl : 0 ≤ l) :
    ∃ v, Rval a b c d l = (v, 0) ∧ 1 ≤ v ∧ v ≤ d + 3 ∧ (Rmean a b c v l).1 = d ∧ (Rmean a b c v l).2.2 = 0 ∧ Rask a b c v l = Rmean a b c v l := by
  rw [rval_in h (by omega)]
  have fin : ∀ v, 1 ≤ v → v ≤ d + 3 → (Rmean a b c v l).1 = d → (Rmean a b c v l).2.2 = 0 →
      1 ≤ v ∧ v ≤ d + 3 ∧ (Rmean a b c v l).1 = d ∧ (Rmean a b c v l).2.2 = 0 ∧ Rask a b c v l = Rmean a b c v l := fun v h1 h2 h3 h4 => ⟨h1, h2, h3, h4, rask_ok h (by omega) h4⟩
  split
  · rename_i h1; exact ⟨1, rfl, fin 1 (by omega) (by omega) h1.2 h1.1⟩
  · split
    · rename_i h1; exact ⟨2, rfl, fin 2 (by omega) (by omega) h1.2 h1.1⟩
    · split
      · rename_i h1; exact ⟨3, rfl, fin 3 (by omega) (by omega) h1.2 h1.1⟩
      · refine ⟨d + 3, rfl, fin _ (by omega) (by omega) ?_ ?_⟩ <;> (unfold Rmean; rw [if_pos (by omega)]) <;> simp
theorem rval_first {a b c d l : Int} (h : chkL true [a, b, c] = 0) (hd : 1 ≤ d) (hd2 : d ≤ 2147483648) (hl : 0 ≤ l) :
    ∃ v y z, Rval a b c d l = (v, 0) ∧ Rask a b c v l = (d, (d, y, z), 0) ∧ 1 ≤ v ∧ v ≤ d + 3 ∧ chkL true [d, y, z] = 0 ∧ (y = a ∨ y = b ∨ y = c) ∧ (z = a ∨ z = b ∨ z = c) := by
  obtain ⟨v, h1, h2, h3, h4, h5, h6⟩ := rval_ok h hd hd2 hl
  obtain ⟨g1, g2, g3, g4, g5, g6⟩ := rmean_ok h h2 (by omega) hl h5
  refine ⟨v, _, _, h1, ?_, h2, h3, ?_, g5, g6⟩
  · rw [h6]
    refine Prod.ext h4 (Prod.ext (Prod.ext (g1.trans h4) (Prod.ext rfl rfl)) h5)
  · rw [← g4, g1, h4]
/-- Which of three the element is: in the form of tests. -/
theorem three_tests {y a b c : Int} (h : y = a ∨ y = b ∨ y = c) : (y != a) = false ∨ ((y != a) = true ∧ (y != b) = false) ∨ ((y != a) = true ∧ (y != b) = true ∧ (y != c) = false) := by
  simp only [bne_iff_ne, bne_eq_false_iff_eq, ne_eq]
  omega
/-- A history made of a number. -/
def kR (k i : Int) : Int := if i < k % 4 then 1 + k / (4 + 13 * i) % (9 + 90 * i) else 0
theorem kR_chk (k : Int) (hk : 0 ≤ k) : chkL true [kR k 0, kR k 1, kR k 2] = 0 := by
  apply chk_of
  have h0 := Int.emod_nonneg (k / 4) (b := 9) (by omega)
  have h0' := Int.emod_lt_of_pos (k / 4) (b := 9) (by omega)
  have h1 := Int.emod_nonneg (k / 17) (b := 99) (by omega)
  have h1' := Int.emod_lt_of_pos (k / 17) (b := 99) (by omega)
  have h2 := Int.emod_nonneg (k / 30) (b := 189) (by omega)
  have h2' := Int.emod_lt_of_pos (k / 30) (b := 189) (by omega)
  unfold kR
  simp only [Int.mul_zero, Int.add_zero, Int.mul_one]
  repeat' split
  all_goals omega
theorem tmod_pos {a b : Int} (hb : 0 < b) (h : 0 ≤ a.tmod b) : a.tmod b = a % b := by
  rw [Int.tmod_eq_emod] at *
  have := Int.emod_nonneg a (b := b) (by omega)
  have h2 := Int.emod_lt_of_pos a hb
  split at h <;> split <;> simp_all <;> omega
theorem tmod_neg {a b : Int} (hb : 0 < b) (h : a.tmod b < 0) : a.tmod b + b = a % b := by
  rw [Int.tmod_eq_emod] at *
  have := Int.emod_nonneg a (b := b) (by omega)
  have h2 := Int.emod_lt_of_pos a hb
  split at h <;> split <;> simp_all <;> omega
end Go.Proofs.Ytammacofhdbgcaa
