/-
  The copies of lists that the statements make, walked.
-/
import Derived.Test.YtmfgkimbehkdeaaRows
import Derived.Test.YtmfgkimbehkdeaaGBase
import Derived.Deep.AppendSrc
import Derived.Deep.Light
namespace Go.Proofs.Ytmfgkimbehkdeaa
open Go.RowKit
set_option linter.unusedSimpArgs false
set_option linter.unusedVariables false
/-- A copy of a list. -/
def CopyPost (xs : List Int) (w : World) (e : Ending) (w' : World) : Prop := ∃ pa ca, e = .returned (.slice pa xs.length ca) ∧ Row .i64 w' pa xs ∧ Below w.heap.size w w'
set_option maxHeartbeats 1000000 in
theorem ownInts_k (a : Option Addr) (xs : List Int) (cap : Nat) (w : World) (ha : Row .i64 w a xs) (hl : xs.length ≤ 1099511627776) :
    Calls Try.prog 9 #[.slice a xs.length cap] w (CopyPost xs w) := by
  obtain ⟨i0, hi, hz0, hz1, hz2⟩ := info_parts infoInt
  have hr0 := (ha.later ((Below.refl _ w).alloc (Nat.le_refl _) (.cells #[] 3))).vals
  go_enter Try.func9, Try.ntmps9
  go_wp2_with (at_builtin; refine wpList_append_any _ rfl _ _ 22 rfl w.heap.size 3 i0 (.int .i64 0) 8 Try.underlying22 hi hz0 hz1 hz2 rfl (.slice (some ⟨w.heap.size, 0, none⟩) 0 0) 0 [] rfl (ownsRow_made w 3) a xs.length cap (xs.map (Value.int .i64)) rfl (by simp) hr0 (ints_one _ _) (by unfold maxLen; omega) (by omega) (by simp) (by simp) ?_; intro v1 w1 hown1 hgrow1)
  rw [List.nil_append, Nat.zero_add] at hown1
  obtain ⟨pa, ca, rfl, _, hrow⟩ := Row.of_own hown1
  have B1 : Below w.heap.size w w1 := ((Below.refl _ w).alloc (Nat.le_refl _) _).grown hgrow1 (by simp) (fun k hk => by simp [Value.ownBlock] at hk; omega)
  go_wp2
  go_ret
  exact ⟨_, _, rfl, hrow, B1⟩
end Go.Proofs.Ytmfgkimbehkdeaa
