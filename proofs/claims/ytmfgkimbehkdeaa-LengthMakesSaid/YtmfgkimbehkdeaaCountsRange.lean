/-
  Functions of package counts that range over the counts that occur, walked.
-/
import Derived.Test.YtmfgkimbehkdeaaRows
import Derived.Test.YtmfgkimbehkdeaaCounts
import Derived.Test.YtmfgkimbehkdeaaCountsIter
import Derived.Test.YtmfgkimbehkdeaaCountsPlain
import Derived.Test.YtmfgkimbehkdeaaGBase
import Derived.Deep.Light
import Derived.Shelf.Abstract
import Derived.Shelf.RegionOpen
import Derived.OwnWalkIn
import Derived.TacticsInMore
import Derived.LoopNIn
import Derived.LoopIn
namespace Go.Proofs.Ytmfgkimbehkdeaa
open Go.RowKit
set_option linter.unusedSimpArgs false
set_option linter.unusedVariables false
open Go.Shelf
attribute [local go_sem] Oper.semAt_some

set_option maxHeartbeats 1000000 in
theorem distinct_1 (a : Option Addr) (xs : List Int) (cap : Nat) (w : World) (ha : Row .i64 w a xs) (hl : xs.length ≤ 9223372036854775807) (hc : cchk xs = 0) :
    Calls Try.prog 38 #[.slice a xs.length cap] w fun e w' => e = .returned (.tuple #[.int .i64 ((occ 0 xs).length : Nat), .int .i64 0]) ∧ Below w.heap.size w w' := by
  refine calls_of_marks Try.func38 rfl ?_
  simp only [Try.ntmps38, List.size_toArray, List.length_cons, List.length_nil, Nat.reduceAdd, Nat.reduceSub, Array.replicate_succ, Array.replicate_zero, List.push_toArray, List.append_toArray, List.nil_append, List.cons_append]
  go_wp2_with (first | (go_at_call 33; refine (check_c _ _ _ _ ha hl).mono ?_; rintro e w1 ⟨rfl, hb⟩; have hsz := hb.size; (try simp at hsz); (first | (have hbl := blater2 HA (by first | exact Nat.le_refl _ | (simp; done) | (simp; omega)) hb; obtain ⟨hcc, hff, HA, hne, hne'⟩ := hbl) | (obtain ⟨hcc, hff, HA, hne, hne'⟩ := blater1 hb)); (try simp only [World.size_alloc, World.size_setCell] at HA)) | go_in)
  repeat' (first | (go_region <;> go_wp2_with (first | (go_at_call 33; refine (check_c _ _ _ _ ha hl).mono ?_; rintro e w1 ⟨rfl, hb⟩; have hsz := hb.size; (try simp at hsz); (first | (have hbl := blater2 HA (by first | exact Nat.le_refl _ | (simp; done) | (simp; omega)) hb; obtain ⟨hcc, hff, HA, hne, hne'⟩ := hbl) | (obtain ⟨hcc, hff, HA, hne, hne'⟩ := blater1 hb)); (try simp only [World.size_alloc, World.size_setCell] at HA)) | go_in)))
  obtain ⟨W0, hW0⟩ : ∃ W0, ((w1.alloc (.cells #[.int .i64 0] 3)).alloc (.cells #[.slice a xs.length cap] 22)) = W0 := ⟨_, rfl⟩
  have B0 : Below w.heap.size w W0 := by
    rw [← hW0]
    repeat' (first | exact Below.refl _ _ | refine Below.drew ?_ | refine below_drewN ?_ _ | refine Below.alloc ?_ (by first | omega | (simp <;> omega)) _ | refine Below.setCell ?_ (by first | omega | (simp <;> omega)) _ | refine Below.trans ?_ (Below.mono (by assumption) (by first | omega | (simp <;> omega))))
  have x0 : W0.cell? ⟨w1.heap.size, 0, none⟩ = some (.int .i64 ((0 : Nat) : Int)) := by rw [← hW0]; clear hW0; simp [go_sem]
  have f0 : W0.frozen? ⟨w1.heap.size, 0, none⟩ = false := by rw [← hW0]; clear hW0; simp [go_sem]
  have x1 : W0.cell? ⟨w1.heap.size + 1, 0, none⟩ = some (.slice a xs.length cap) := by rw [← hW0]; clear hW0; simp [go_sem]
  have S0 : w1.heap.size + 2 ≤ W0.heap.size := by rw [← hW0]; clear hW0; simp
  have hw1 : w.heap.size ≤ w1.heap.size := by omega
  rw [hW0]
  clear hW0 hcc hff HA hne hne' hsz hb
  refine wp_range_pure (gf := 51) (lb := #[.pointer (some ⟨w1.heap.size + 1, 0, none⟩)]) rfl (enters_of Try.func51 (by kernel_rfl) rfl) (occ 0 xs).length (occArgs xs) (fun _ => rfl)
    (fun i W => W.cell? ⟨w1.heap.size, 0, none⟩ = some (.int .i64 (i : Nat)) ∧ W.frozen? ⟨w1.heap.size, 0, none⟩ = false ∧ W.cell? ⟨w1.heap.size + 1, 0, none⟩ = some (.slice a xs.length cap) ∧ Below w.heap.size w W ∧ w1.heap.size + 2 ≤ W.heap.size)
    (fun _ _ => False) ?hI (fun _ _ _ _ h => h) ⟨x0, f0, x1, B0, S0⟩ ?hround ?hiter ?hdone (fun _ _ _ _ h => h.elim)
  case hI =>
    rintro i X Y hk ⟨h0, h1, h2, h3, h4⟩
    exact ⟨hk.cell h0, (hk.frozen h0).trans h1, hk.cell h2, hk.below h3 (by omega) (by omega), Nat.le_trans h4 hk.size⟩
  case hround =>
    rintro l i W hi hI hl1
    clear hI
    have hob := occ_bound hi
    have hol : (occ 0 xs).length ≤ xs.length := by rw [occ_len]; exact List.length_filter_le _ _
    have hi2 : (i : Int) < 9223372036854775807 := by omega
    clear hob
    unfold occArgs
    obtain ⟨q, hq⟩ : ∃ q, (occ 0 xs).getD i (0, 0) = q := ⟨_, rfl⟩
    simp only [hq]
    clear hq
    obtain ⟨s, n⟩ := q
    gi_wp2
    refine ⟨by first | rfl | trivial, ?_⟩
    rintro W2 hl2 ⟨h1, h2, h3, h4, h5⟩
    gi_wp2
    exact ⟨(KeepsOthers.setCell _ _ _).from _, by simp [go_sem, h1], by simp [go_sem, h2], by simp [go_sem, h3], h4.setCell (by simp; omega) _, by simp; omega⟩
  case hiter =>
    intro l J Jx W hb hst hJI _ hr hj
    refine occurring_iter xs a cap (w1.heap.size + 1) l hl J Jx W hst (fun i X h => ?_) hr hj
    obtain ⟨h0, h1, h2, h3, h4⟩ := hJI i X h
    exact ⟨h2, ha.later h3⟩
  case hdone =>
    rintro D W hD ⟨h0, h1, h2, h3, h4⟩ hdf
    all_goals go_wp2
    all_goals refine ⟨by simp, .inl ⟨_, _, rfl, run_takeDeferred (by repeat' (first | exact hdf | apply setCell_deferred)), ?_⟩⟩
    all_goals go_light
    exact ⟨_, results_tmp2 rfl _ _ _, rfl, below_putObj h3 (by omega) _⟩

theorem distinct_e (a : Option Addr) (xs : List Int) (cap : Nat) (w : World) (ha : Row .i64 w a xs) (hl : xs.length ≤ 9223372036854775807) (hc : (cchk xs != 0) = true) :
    Calls Try.prog 38 #[.slice a xs.length cap] w fun e w' => e = .returned (.tuple #[.int .i64 0, .int .i64 (cchk xs)]) ∧ Below w.heap.size w w' := by
  refine calls_of_marks Try.func38 rfl ?_
  simp only [Try.ntmps38, List.size_toArray, List.length_cons, List.length_nil, Nat.reduceAdd, Nat.reduceSub, Array.replicate_succ, Array.replicate_zero, List.push_toArray, List.append_toArray, List.nil_append, List.cons_append]
  go_wp2_with (first | (go_at_call 33; refine (check_c _ _ _ _ ha hl).mono ?_; rintro e w1 ⟨rfl, hb⟩; have hsz := hb.size; (try simp at hsz); (first | (have hbl := blater2 HA (by first | exact Nat.le_refl _ | (simp; done) | (simp; omega)) hb; obtain ⟨hcc, hff, HA, hne, hne'⟩ := hbl) | (obtain ⟨hcc, hff, HA, hne, hne'⟩ := blater1 hb)); (try simp only [World.size_alloc, World.size_setCell] at HA)) | go_in)
  repeat' (first | (go_region <;> go_wp2_with (first | (go_at_call 33; refine (check_c _ _ _ _ ha hl).mono ?_; rintro e w1 ⟨rfl, hb⟩; have hsz := hb.size; (try simp at hsz); (first | (have hbl := blater2 HA (by first | exact Nat.le_refl _ | (simp; done) | (simp; omega)) hb; obtain ⟨hcc, hff, HA, hne, hne'⟩ := hbl) | (obtain ⟨hcc, hff, HA, hne, hne'⟩ := blater1 hb)); (try simp only [World.size_alloc, World.size_setCell] at HA)) | go_in)))
  all_goals go_light
  exact ⟨_, results_tmp2 rfl _ _ _, rfl, by repeat' (first | exact Below.refl _ _ | refine Below.drew ?_ | refine below_drewN ?_ _ | refine Below.alloc ?_ (by first | omega | (simp <;> omega)) _ | refine Below.setCell ?_ (by first | omega | (simp <;> omega)) _ | refine Below.trans ?_ (Below.mono (by assumption) (by first | omega | (simp <;> omega))))⟩

theorem st_fn {P : Program} (w : World) (a : Addr) (fn : Fn) (r b : Array Value) (m : Mode) : (store a (.func fn r b) m).run P w = stored P w a (.func fn r b) m := run_store P w a _ m rfl
attribute [local go_sem] st_fn
/-! What these functions return, whole. -/
def rDist (xs : List Int) : Int × Int := if cchk xs = 0 then ((((occ 0 xs).length : Nat) : Int), 0) else (0, cchk xs)
def rLast (xs : List Int) : Int × Int := if cchk xs = 0 then (if lst xs < 0 then 0 else lst xs, if lst xs < 0 then 7 else 0) else (0, cchk xs)
def rGr (xs : List Int) : Int × Int × Int := if cchk xs = 0 then ((gr xs).1, (gr xs).2, gE xs) else (0, 0, cchk xs)
def rCov (xs : List Int) (bs : List Bool) : Bool × Int := if cchk xs = 0 then (cov xs bs, 0) else (false, cchk xs)
def rHlv (xs : List Int) : List Int × Int := if cchk xs = 0 then (hlv xs, 0) else ([], cchk xs)
def rTot (xs : List Int) : Int × Int := if cchk xs = 0 then (xs.sum, 0) else (0, cchk xs)
def rOnly (xs : List Int) : Int × Bool × Int := if cchk xs = 0 then (if (occ 0 xs).length = 1 then (lst xs, true, 0) else (0, false, 0)) else (0, false, cchk xs)
theorem distinct_p (a : Option Addr) (xs : List Int) (cap : Nat) (w : World) (ha : Row .i64 w a xs) (hl : xs.length ≤ 9223372036854775807) :
    Calls Try.prog 38 #[.slice a xs.length cap] w fun e w' => e = .returned (.tuple #[.int .i64 (rDist xs).1, .int .i64 (rDist xs).2]) ∧ Below w.heap.size w w' := by
  unfold rDist
  by_cases h : cchk xs = 0
  · simp only [h, if_true]; exact distinct_1 a xs cap w ha hl h
  · simp only [h, if_false]; exact distinct_e a xs cap w ha hl (by simpa using h)
/-- What hands back a list and an error: the slice leads to these numbers. -/
def ListPost (R : List Int × Int) (w : World) (e : Ending) (w' : World) : Prop :=
  ∃ pa ca, e = .returned (.tuple #[.slice pa R.1.length ca, .int .i64 R.2]) ∧ Row .i64 w' pa R.1 ∧ Below w.heap.size w w'
end Go.Proofs.Ytmfgkimbehkdeaa
