/-
  Gains of matches, walked: of the program and of the reference.
-/
import Derived.Test.YtammacofhdbgcaaRows
import Derived.Test.YtammacofhdbgcaaHigh
import Derived.Test.YtammacofhdbgcaaCommon
import Derived.Deep.Light
import Derived.Shelf.Abstract
import Derived.Shelf.RegionOpen
import Derived.OwnWalkIn
import Derived.TacticsInMore
import Derived.LoopNIn
import Derived.LoopIn
import Derived.Outline
namespace Go.Proofs.Ytammacofhdbgcaa
open Go.RowKit
set_option linter.unusedSimpArgs false
set_option linter.unusedVariables false
open Go.Shelf
attribute [local go_sem] Oper.semAt_some

/-- The gain of a length and a value. -/
def mgain (n v : Int) : Int := 4 * n - hi v.toNat
/-- What Gain returns. -/
def Rgain (n v : Int) : Int × Int := if n < 0 ∨ 1048576 < n ∨ v < 1 ∨ 2147483651 < v then (0, 2) else (mgain n v, 0)

theorem gain_s (n v : Int) (w : World) (h1 : 0 ≤ n) (h2 : n ≤ 1048576) (h3 : 1 ≤ v) (h4 : v ≤ 2147483651) : Calls Try.prog 64 #[.int .i64 n, .int .i64 v] w fun e w' => e = .returned (.int .i64 (mgain n v)) ∧ w' = w := by
  obtain ⟨m, rfl⟩ : ∃ m : Nat, v = (m : Int) := ⟨v.toNat, by omega⟩
  unfold mgain
  rw [Int.toNat_natCast]
  have hm : m < 2 ^ 62 := by omega
  have hb := hi_bd m hm
  have qH := fun w => high_s m w hm
  generalize hi m = h at hb qH
  go_enter Try.func64, Try.ntmps64
  go_wp2_with (go_at_call 90; refine (qH _).mono ?_; rintro e w' ⟨rfl, rfl⟩)
  go_ret
  exact ⟨rfl, rfl⟩

theorem rgain_s (n v : Int) (w : World) (h1 : 0 ≤ n) (h2 : n ≤ 1048576) (h3 : 1 ≤ v) (h4 : v ≤ 2147483651) : Calls Try.prog 60 #[.int .i64 n, .int .i64 v] w fun e w' => e = .returned (.int .i64 (mgain n v)) ∧ w' = w := by
  obtain ⟨m, rfl⟩ : ∃ m : Nat, v = (m : Int) := ⟨v.toNat, by omega⟩
  unfold mgain
  rw [Int.toNat_natCast]
  have hm : m < 2 ^ 62 := by omega
  have hb := hi_bd m hm
  have qH := fun w => rhigh_s m w hm
  generalize hi m = h at hb qH
  go_enter Try.func60, Try.ntmps60
  go_wp2_with (go_at_call 79; refine (qH _).mono ?_; rintro e w' ⟨rfl, rfl⟩)
  go_ret
  exact ⟨rfl, rfl⟩

theorem gain_p (n v : Int) (w : World) : Calls Try.prog 28 #[.int .i64 n, .int .i64 v] w fun e w' => e = .returned (.tuple #[.int .i64 (Rgain n v).1, .int .i64 (Rgain n v).2]) ∧ w' = w := by
  unfold Rgain
  by_cases hg : n < 0 ∨ 1048576 < n ∨ v < 1 ∨ 2147483651 < v
  · rw [if_pos hg]
    have hx : n < 0 ∨ (¬ n < 0 ∧ (1048576 < n ∨ (¬ 1048576 < n ∧ (v < 1 ∨ (¬ v < 1 ∧ 2147483651 < v))))) := by omega
    clear hg
    rcases hx with g1 | ⟨g1, g2 | ⟨g2, g3 | ⟨g3, g4⟩⟩⟩
    all_goals
      go_enter Try.func28, Try.ntmps28
      go_wp2
      go_ret2
      exact ⟨rfl, rfl⟩
  · rw [if_neg hg]
    have g1 : ¬ n < 0 := by omega
    have g2 : ¬ 1048576 < n := by omega
    have g3 : ¬ v < 1 := by omega
    have g4 : ¬ 2147483651 < v := by omega
    have qG := fun w => gain_s n v w (by omega) (by omega) (by omega) (by omega)
    generalize mgain n v = z at qG
    clear hg
    go_enter Try.func28, Try.ntmps28
    go_wp2_with (go_at_call 64; refine (qG _).mono ?_; rintro e w' ⟨rfl, rfl⟩)
    go_ret2
    exact ⟨rfl, rfl⟩

theorem rgain_p (n v : Int) (w : World) : Calls Try.prog 30 #[.int .i64 n, .int .i64 v] w fun e w' => e = .returned (.tuple #[.int .i64 (Rgain n v).1, .int .i64 (Rgain n v).2]) ∧ w' = w := by
  unfold Rgain
  by_cases hg : n < 0 ∨ 1048576 < n ∨ v < 1 ∨ 2147483651 < v
  · rw [if_pos hg]
    have hx : n < 0 ∨ (¬ n < 0 ∧ (1048576 < n ∨ (¬ 1048576 < n ∧ (v < 1 ∨ (¬ v < 1 ∧ 2147483651 < v))))) := by omega
    clear hg
    rcases hx with g1 | ⟨g1, g2 | ⟨g2, g3 | ⟨g3, g4⟩⟩⟩
    all_goals
      go_enter Try.func30, Try.ntmps30
      go_wp2
      go_ret2
      exact ⟨rfl, rfl⟩
  · rw [if_neg hg]
    have g1 : ¬ n < 0 := by omega
    have g2 : ¬ 1048576 < n := by omega
    have g3 : ¬ v < 1 := by omega
    have g4 : ¬ 2147483651 < v := by omega
    have qG := fun w => rgain_s n v w (by omega) (by omega) (by omega) (by omega)
    generalize mgain n v = z at qG
    clear hg
    go_enter Try.func30, Try.ntmps30
    go_wp2_with (go_at_call 60; refine (qG _).mono ?_; rintro e w' ⟨rfl, rfl⟩)
    go_ret2
    exact ⟨rfl, rfl⟩
end Go.Proofs.Ytammacofhdbgcaa
