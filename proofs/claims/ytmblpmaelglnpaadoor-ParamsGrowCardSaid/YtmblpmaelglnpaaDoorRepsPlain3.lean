/-
  Runs of values and of distances, as plain functions on lists. No program in sight.
-/
import Derived.Test.YtmblpmaelglnpaaDoorGReps
namespace Go.Proofs.YtmblpmaelglnpaaDoor
set_option linter.unusedVariables false
set_option linter.unusedSimpArgs false
/-- The values of distances from a history on: the values, the last history, the error. -/
def rvals : Int → Int → Int → List Int → List Int → List Int × (Int × Int × Int) × Int
  | a, b, c, d :: ds, l :: ls =>
    if (Rval a b c d l).2 ≠ 0 then ([], (0, 0, 0), (Rval a b c d l).2)
    else if (Rask a b c (Rval a b c d l).1 l).2.2 ≠ 0 then ([], (0, 0, 0), (Rask a b c (Rval a b c d l).1 l).2.2)
    else
      let n := (Rask a b c (Rval a b c d l).1 l).2.1
      let r := rvals n.1 n.2.1 n.2.2 ds ls
      if r.2.2 ≠ 0 then ([], (0, 0, 0), r.2.2) else ((Rval a b c d l).1 :: r.1, r.2.1, 0)
  | a, b, c, _, _ => ([], (a, b, c), 0)
/-- What has been gathered, put ahead of what is still to come. -/
def rput (vs : List Int) (r : List Int × (Int × Int × Int) × Int) : List Int × (Int × Int × Int) × Int :=
  if r.2.2 ≠ 0 then ([], (0, 0, 0), r.2.2) else (vs ++ r.1, r.2.1, 0)
theorem rput_nil (vs : List Int) (a b c : Int) (ls : List Int) : rput vs (rvals a b c [] ls) = (vs, (a, b, c), 0) := by
  cases ls <;> simp [rvals, rput]
theorem rput_err1 (vs : List Int) {a b c d l : Int} {ds ls : List Int} (h : (Rval a b c d l).2 ≠ 0) : rput vs (rvals a b c (d :: ds) (l :: ls)) = ([], (0, 0, 0), (Rval a b c d l).2) := by
  simp only [rvals]
  rw [if_pos h]
  simp [rput, h]
theorem rput_err2 (vs : List Int) {a b c d l : Int} {ds ls : List Int} (h : (Rval a b c d l).2 = 0) (h2 : (Rask a b c (Rval a b c d l).1 l).2.2 ≠ 0) :
    rput vs (rvals a b c (d :: ds) (l :: ls)) = ([], (0, 0, 0), (Rask a b c (Rval a b c d l).1 l).2.2) := by
  simp only [rvals]
  rw [if_neg (by simpa using h), if_pos h2]
  simp [rput, h2]
theorem rput_step (vs : List Int) {a b c d l : Int} {ds ls : List Int} (h : (Rval a b c d l).2 = 0) (h2 : (Rask a b c (Rval a b c d l).1 l).2.2 = 0) :
    rput vs (rvals a b c (d :: ds) (l :: ls)) = rput (vs ++ [(Rval a b c d l).1]) (rvals (Rask a b c (Rval a b c d l).1 l).2.1.1 (Rask a b c (Rval a b c d l).1 l).2.1.2.1 (Rask a b c (Rval a b c d l).1 l).2.1.2.2 ds ls) := by
  rw [rvals]
  rw [if_neg (by simpa using h), if_neg (by simpa using h2)]
  simp only []
  generalize rvals _ _ _ ds ls = r
  by_cases h3 : r.2.2 = 0 <;> simp [rput, h3]
/-- Values, with the errors of its arguments. -/
def Rvalues (a b c : Int) (ds ls : List Int) : List Int × (Int × Int × Int) × Int :=
  if chkL true [a, b, c] ≠ 0 then ([], (0, 0, 0), chkL true [a, b, c])
  else if 100000 < ds.length then ([], (0, 0, 0), 6)
  else if ls.length ≠ ds.length then ([], (0, 0, 0), 2)
  else rput [] (rvals a b c ds ls)
end Go.Proofs.YtmblpmaelglnpaaDoor
