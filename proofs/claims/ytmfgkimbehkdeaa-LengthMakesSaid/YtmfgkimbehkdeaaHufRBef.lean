/-
  The reference's order of nodes, walked.
-/
import Derived.Test.YtmfgkimbehkdeaaRows
import Derived.Test.YtmfgkimbehkdeaaHufAskP
import Derived.Test.YtmfgkimbehkdeaaHufNeeds
import Derived.Test.YtmfgkimbehkdeaaGBase
import Derived.Deep.Light
import Derived.Shelf.Abstract
import Derived.Shelf.RegionOpen
import Derived.OwnWalkIn
import Derived.TacticsInMore
import Derived.LoopNIn
import Derived.LoopIn
import Derived.IntWalk
import Derived.Outline
namespace Go.Proofs.Ytmfgkimbehkdeaa
open Go.RowKit
set_option linter.unusedSimpArgs false
set_option linter.unusedVariables false
attribute [local go_sem] Oper.semAt_some

/-- The order of the reference's nodes. -/
def rbI (c1 : Int) (l1 : Bool) (n1 : Int) (c2 : Int) (l2 : Bool) (n2 : Int) : Bool := if c1 ≠ c2 then decide (c1 < c2) else if l1 ≠ l2 then l1 else decide (n1 < n2)
theorem rbefore_p (c1 n1 c2 n2 : Int) (l1 l2 : Bool) (s1 s2 : Value) (w : World) :
    Calls Try.prog 50 #[.agg #[.int .i64 c1, .bool l1, .int .i64 n1, s1], .agg #[.int .i64 c2, .bool l2, .int .i64 n2, s2]] w fun e w' => e = .returned (.bool (rbI c1 l1 n1 c2 l2 n2)) ∧ Below w.heap.size w w' := by
  by_cases hc : c1 = c2
  · subst hc
    cases l1 <;> cases l2
    · have e : rbI c1 false n1 c1 false n2 = decide (n1 < n2) := by simp [rbI]
      rw [e]
      clear e
      go_enter Try.func50, Try.ntmps50
      go_wp2
      go_light
      refine bodyPost_ret (v := .bool (decide (n1 < n2))) (by simp [results, Try.results50, go_sem, *]) rfl ⟨rfl, ?_⟩
      repeat' (first | with_reducible exact Below.refl _ _ | with_reducible refine Below.drew ?_ | with_reducible refine Below.alloc ?_ (by first | omega | (simp <;> omega)) _ | with_reducible refine Below.setCell ?_ (by first | omega | (dsimp only; omega) | (simp <;> omega)) _)
    · have e : rbI c1 false n1 c1 true n2 = false := by simp [rbI]
      rw [e]
      clear e
      go_enter Try.func50, Try.ntmps50
      go_wp2
      go_light
      refine bodyPost_ret (v := .bool (false)) (by simp [results, Try.results50, go_sem, *]) rfl ⟨rfl, ?_⟩
      repeat' (first | with_reducible exact Below.refl _ _ | with_reducible refine Below.drew ?_ | with_reducible refine Below.alloc ?_ (by first | omega | (simp <;> omega)) _ | with_reducible refine Below.setCell ?_ (by first | omega | (dsimp only; omega) | (simp <;> omega)) _)
    · have e : rbI c1 true n1 c1 false n2 = true := by simp [rbI]
      rw [e]
      clear e
      go_enter Try.func50, Try.ntmps50
      go_wp2
      go_light
      refine bodyPost_ret (v := .bool (true)) (by simp [results, Try.results50, go_sem, *]) rfl ⟨rfl, ?_⟩
      repeat' (first | with_reducible exact Below.refl _ _ | with_reducible refine Below.drew ?_ | with_reducible refine Below.alloc ?_ (by first | omega | (simp <;> omega)) _ | with_reducible refine Below.setCell ?_ (by first | omega | (dsimp only; omega) | (simp <;> omega)) _)
    · have e : rbI c1 true n1 c1 true n2 = decide (n1 < n2) := by simp [rbI]
      rw [e]
      clear e
      go_enter Try.func50, Try.ntmps50
      go_wp2
      go_light
      refine bodyPost_ret (v := .bool (decide (n1 < n2))) (by simp [results, Try.results50, go_sem, *]) rfl ⟨rfl, ?_⟩
      repeat' (first | with_reducible exact Below.refl _ _ | with_reducible refine Below.drew ?_ | with_reducible refine Below.alloc ?_ (by first | omega | (simp <;> omega)) _ | with_reducible refine Below.setCell ?_ (by first | omega | (dsimp only; omega) | (simp <;> omega)) _)
  · have e : rbI c1 l1 n1 c2 l2 n2 = decide (c1 < c2) := by simp [rbI, hc]
    have j0 : (c1 != c2) = true := by simpa using hc
    rw [e]
    clear e hc
    go_enter Try.func50, Try.ntmps50
    go_wp2
    go_light
    refine bodyPost_ret (v := .bool (decide (c1 < c2))) (by simp [results, Try.results50, go_sem, *]) rfl ⟨rfl, ?_⟩
    repeat' (first | with_reducible exact Below.refl _ _ | with_reducible refine Below.drew ?_ | with_reducible refine Below.alloc ?_ (by first | omega | (simp <;> omega)) _ | with_reducible refine Below.setCell ?_ (by first | omega | (dsimp only; omega) | (simp <;> omega)) _)
end Go.Proofs.Ytmfgkimbehkdeaa
