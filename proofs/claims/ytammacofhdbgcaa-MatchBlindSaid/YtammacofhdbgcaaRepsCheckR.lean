/-
  The reference's Check of a history, walked.
-/
import Derived.Test.YtammacofhdbgcaaRows
import Derived.Test.YtammacofhdbgcaaRepsCheck
import Derived.Test.YtammacofhdbgcaaCommon
import Derived.Deep.Light
namespace Go.Proofs.Ytammacofhdbgcaa
open Go.RowKit
set_option linter.unusedSimpArgs false
set_option linter.unusedVariables false

set_option maxHeartbeats 4000000 in
theorem check_r (a b c : Int) (w : World) :
    Calls Try.prog 56 #[.agg #[.int .i64 a, .int .i64 b, .int .i64 c]] w fun e w' => e = .returned (.int .i64 (chkL true [a, b, c])) ∧ Below w.heap.size w w' := by
  go_enter Try.func56, Try.ntmps56
  go_wp2
  repeat' (first | (go_region <;> go_wp2) | (refine wp_loop_rounds 4 ?_; rw [rounds_succ]; go_wp2) | (rw [rounds_succ]; go_wp2))
  all_goals go_tidy
  all_goals go_light
  all_goals (try simp only [beq_iff_eq, beq_eq_false_iff_ne, bne_iff_ne, bne_eq_false_iff_eq, ne_eq] at *)
  all_goals go_ret
  all_goals
    refine ⟨by first | (rw [chk_of (by omega)] <;> rfl) | (rw [chk_ten (by omega)] <;> rfl), ?_⟩
    repeat' (first | exact Below.refl _ _ | refine Below.drew ?_ | refine below_drewN ?_ _ | refine Below.alloc ?_ (by first | omega | (simp <;> omega)) _ | refine Below.setCell ?_ (by first | omega | (simp <;> omega)) _ | refine Below.trans ?_ (Below.mono (by assumption) (by first | omega | (simp <;> omega))))
end Go.Proofs.Ytammacofhdbgcaa
