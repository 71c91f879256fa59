/-
  Best, whole: of the program and of the reference.
-/
import Derived.Test.YtammacofhdbgcaaRows
import Derived.Test.YtammacofhdbgcaaMatch5
import Derived.Test.YtammacofhdbgcaaCommon
import Derived.Deep.Light
import Derived.Shelf.Abstract
import Derived.Shelf.RegionOpen
import Derived.OwnWalkIn
import Derived.TacticsInMore
import Derived.LoopNIn
import Derived.LoopIn
import Derived.Outline
namespace Go.Proofs.Ytammacofhdbgcaa
open Go.RowKit
set_option linter.unusedSimpArgs false
set_option linter.unusedVariables false
open Go.Shelf
attribute [local go_sem] Oper.semAt_some

set_option maxHeartbeats 2000000 in
theorem best_p (a : Option Addr) (ms : List (Int × Int × Int × Int)) (cap : Nat) (w : World) (ha : RowM w a ms) (hl : ms.length ≤ 9223372036854775807) :
    Calls Try.prog 25 #[.slice a ms.length cap] w fun e w' => e = .returned (.tuple #[.agg #[.int .i64 (mbZ ms ms.length).1, .int .i64 (mbZ ms ms.length).2.1, .int .i64 (mbZ ms ms.length).2.2.1, .int .i64 (mbZ ms ms.length).2.2.2], .bool (decide (0 < ms.length))]) ∧ Below w.heap.size w w' := by
  have q := fun w h => best_s a ms cap w h hl
  obtain ⟨fb, hfb⟩ : ∃ x, decide (0 < ms.length) = x := ⟨_, rfl⟩
  generalize mbZ ms ms.length = m at q
  rw [hfb] at q ⊢
  clear hfb
  obtain ⟨fd, fl, fv, fg⟩ := m
  dsimp only at q
  go_enter Try.func25, Try.ntmps25
  go_wp2_with ((go_at_call 62; refine (q _ (ha.later (by repeat' (first | exact Below.refl _ _ | refine Below.drew ?_ | refine below_drewN ?_ _ | refine Below.alloc ?_ (by first | omega | (simp <;> omega)) _ | refine Below.setCell ?_ (by first | omega | (simp <;> omega)) _ | refine Below.trans ?_ (Below.mono (by assumption) (by first | omega | (simp <;> omega))))))).mono ?_; rintro e w1 ⟨rfl, hb⟩; have hsz := hb.size; (try simp at hsz); (first | (have hbl := blater2 HA (by first | exact Nat.le_refl _ | (simp; done) | (simp; omega)) hb; obtain ⟨hcc, hff, HA, hne, hne'⟩ := hbl) | (obtain ⟨hcc, hff, HA, hne, hne'⟩ := blater1 hb)); (try simp only [World.size_alloc, World.size_setCell] at HA)))
  repeat' (first | (go_region <;> go_wp2))
  all_goals go_light
  all_goals (refine bodyPost_ret (v := .tuple #[.agg #[.int .i64 fd, .int .i64 fl, .int .i64 fv, .int .i64 fg], .bool fb]) (by simp [results, Try.results25, go_sem, *]) rfl ⟨rfl, ?_⟩; repeat' (first | exact Below.refl _ _ | refine Below.drew ?_ | refine below_drewN ?_ _ | refine Below.alloc ?_ (by first | omega | (simp <;> omega)) _ | refine Below.setCell ?_ (by first | omega | (simp <;> omega)) _ | refine Below.trans ?_ (Below.mono (by assumption) (by first | omega | (simp <;> omega)))))
theorem rbest_p (a : Option Addr) (ms : List (Int × Int × Int × Int)) (cap : Nat) (w : World) (ha : RowM w a ms) (hl : ms.length ≤ 9223372036854775807) :
    Calls Try.prog 31 #[.slice a ms.length cap] w fun e w' => e = .returned (.tuple #[.agg #[.int .i64 (mbZ ms ms.length).1, .int .i64 (mbZ ms ms.length).2.1, .int .i64 (mbZ ms ms.length).2.2.1, .int .i64 (mbZ ms ms.length).2.2.2], .bool (decide (0 < ms.length))]) ∧ Below w.heap.size w w' := by
  by_cases h : ms.length = 0
  · have := rbest_0 a cap w
    rw [h]
    exact this
  · have := rbest_1 a ms cap w ha hl (by omega)
    unfold mbZ
    rw [if_neg h, decide_eq_true (show 0 < ms.length by omega)]
    exact this
end Go.Proofs.Ytammacofhdbgcaa
