/-
  Values of package reps, walked: a run of distances.
-/
import Derived.Test.YtmblpmaelglnpaaDoorRows
import Derived.Test.YtmblpmaelglnpaaDoorGReps
import Derived.Test.YtmblpmaelglnpaaDoorRepsPlain3
import Derived.Test.YtmblpmaelglnpaaDoorGBase
import Derived.Deep.Light
import Derived.Deep.RegionHeld3
import Derived.Deep.AppendLies
import Derived.Deep.DeepCutAuto
namespace Go.Proofs.YtmblpmaelglnpaaDoor
open Go.RowKit
set_option linter.unusedSimpArgs false
set_option linter.unusedVariables false
attribute [local go_sem] eq23 idx23_0 idx23_1 idx23_2 tup

/-- What a run hands back: a slice of these values, the last history, the error; old memory as it was. -/
def RunPost (R : List Int × (Int × Int × Int) × Int) (w : World) (e : Ending) (w' : World) : Prop :=
  ∃ pa ca, e = .returned (.tuple #[.slice pa R.1.length ca, .agg #[.int .i64 R.2.1.1, .int .i64 R.2.1.2.1, .int .i64 R.2.1.2.2], .int .i64 R.2.2]) ∧ Row .i64 w' pa R.1 ∧ Below w.heap.size w w'
theorem runPost_err (x : Int) {w w' : World} (hb : Below w.heap.size w w') : RunPost ([], (0, 0, 0), x) w (.returned (.tuple #[.slice none 0 0, .agg #[.int .i64 0, .int .i64 0, .int .i64 0], .int .i64 x])) w' :=
  ⟨none, 0, rfl, .inl rfl, hb⟩
theorem drop_cons {xs : List Int} {k : Nat} {d : Int} (h : k < xs.length) (hd : xs.getD k 0 = d) : xs.drop k = d :: xs.drop (k + 1) := by
  rw [List.drop_eq_getElem_cons h]
  simp [h] at hd
  rw [hd]

theorem info3 : (Tryd.prog.info? 3).map (fun i => (i.zero, i.size, i.bytes)) = some (some (.int .i64 0), 1, 8) := by kernel_rfl
end Go.Proofs.YtmblpmaelglnpaaDoor
