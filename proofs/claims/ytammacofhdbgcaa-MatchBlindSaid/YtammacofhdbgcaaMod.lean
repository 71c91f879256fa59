/-
  A number modulo a number, walked: kit.Mod.
-/
import Derived.Test.YtammacofhdbgcaaRows
import Derived.Test.YtammacofhdbgcaaCommon
import Derived.Deep.Light
namespace Go.Proofs.Ytammacofhdbgcaa
open Go.RowKit
set_option linter.unusedSimpArgs false
set_option linter.unusedVariables false
theorem tmod_pos' {a b : Int} (hb : 0 < b) (h : 0 ≤ a.tmod b) : a.tmod b = a % b := by
  rw [Int.tmod_eq_emod] at *
  have := Int.emod_nonneg a (b := b) (by omega)
  have h2 := Int.emod_lt_of_pos a hb
  split at h <;> split <;> simp_all <;> omega
theorem tmod_neg' {a b : Int} (hb : 0 < b) (h : a.tmod b < 0) : a.tmod b + b = a % b := by
  rw [Int.tmod_eq_emod] at *
  have := Int.emod_nonneg a (b := b) (by omega)
  have h2 := Int.emod_lt_of_pos a hb
  split at h <;> split <;> simp_all <;> omega
theorem modK (a b : Int) (hb : 1 ≤ b) (hb2 : b ≤ 4611686018427387904) (w : World) :
    Calls Try.prog 22 #[.int .i64 a, .int .i64 b] w fun e w' => e = .returned (.int .i64 (a % b)) ∧ Below w.heap.size w w' := by
  have h1 := Int.lt_tmod_of_pos a (b := b) (by omega)
  have h2 := Int.tmod_lt_of_pos a (b := b) (by omega)
  go_enter Try.func22, Try.ntmps22
  go_wp2
  all_goals go_ret
  · rw [← tmod_neg' (by omega) (by assumption)]
    exact ⟨rfl, Below.refl _ _⟩
  · rw [← tmod_pos' (by omega) (by assumption)]
    exact ⟨rfl, Below.refl _ _⟩
end Go.Proofs.Ytammacofhdbgcaa
