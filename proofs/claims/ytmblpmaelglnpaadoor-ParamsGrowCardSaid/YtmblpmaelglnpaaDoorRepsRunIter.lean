/-
  Slices of sequences that are read; the iterator of Run, walked.
-/
import Derived.Test.YtmblpmaelglnpaaDoorRows
import Derived.Test.YtmblpmaelglnpaaDoorRepsValues
import Derived.Test.YtmblpmaelglnpaaDoorRepsPlain4
import Derived.Test.YtmblpmaelglnpaaDoorGBase
import Derived.WalkMore
import Derived.Deep.Light
import Derived.Shelf.Abstract
import Derived.Shelf.RegionOpen
import Derived.OwnWalkIn
import Derived.TacticsInMore
import Derived.LoopNIn
import Derived.LoopIn
namespace Go.Proofs.YtmblpmaelglnpaaDoor
open Go.RowKit
set_option linter.unusedSimpArgs false
set_option linter.unusedVariables false
open Go.Shelf
attribute [local go_sem] eq23 idx23_0 idx23_1 idx23_2 tup Oper.semAt_some

/-- The slice's address leads to a row of sequences: literals, match, value. -/
def RowQ (w : World) (a : Option Addr) (qs : List (Int × Int × Int)) : Prop :=
  qs = [] ∨ ∃ b off, a = some ⟨b, off, none⟩ ∧ b < w.heap.size ∧ ∀ i, i < qs.length → w.cell? ⟨b, off + i * 3, none⟩ = some (.int .i64 (qs.getD i (0, 0, 0)).1) ∧ w.cell? ⟨b, off + i * 3 + 1, none⟩ = some (.int .i64 (qs.getD i (0, 0, 0)).2.1) ∧ w.cell? ⟨b, off + i * 3 + 2, none⟩ = some (.int .i64 (qs.getD i (0, 0, 0)).2.2)
theorem RowQ.later {w w' : World} {a : Option Addr} {qs : List (Int × Int × Int)} (h : RowQ w a qs) (hb : Below w.heap.size w w') : RowQ w' a qs := by
  rcases h with h | ⟨b, off, ha, hlt, hc⟩
  · exact .inl h
  · refine .inr ⟨b, off, ha, Nat.lt_of_lt_of_le hlt hb.size, fun i hi => ?_⟩
    obtain ⟨h1, h2, h3⟩ := hc i hi
    exact ⟨(hb.cell (p := ⟨b, off + i * 3, none⟩) hlt).trans h1, (hb.cell (p := ⟨b, off + i * 3 + 1, none⟩) hlt).trans h2, (hb.cell (p := ⟨b, off + i * 3 + 2, none⟩) hlt).trans h3⟩
theorem RowQ.at {w : World} {a : Option Addr} {qs : List (Int × Int × Int)} (h : RowQ w a qs) {i : Nat} (hi : i < qs.length) :
    ∃ b off, a = some ⟨b, off, none⟩ ∧ b < w.heap.size ∧ ∀ i, i < qs.length → w.cell? ⟨b, off + i * 3, none⟩ = some (.int .i64 (qs.getD i (0, 0, 0)).1) ∧ w.cell? ⟨b, off + i * 3 + 1, none⟩ = some (.int .i64 (qs.getD i (0, 0, 0)).2.1) ∧ w.cell? ⟨b, off + i * 3 + 2, none⟩ = some (.int .i64 (qs.getD i (0, 0, 0)).2.2) := by
  rcases h with h | h
  · subst h; simp at hi
  · exact h
/-- A history in a box. -/
def Hist (w : World) (b : Nat) (h : Int × Int × Int) : Prop :=
  w.cell? ⟨b, 0, none⟩ = some (.int .i64 h.1) ∧ w.cell? ⟨b, 1, none⟩ = some (.int .i64 h.2.1) ∧ w.cell? ⟨b, 2, none⟩ = some (.int .i64 h.2.2) ∧ ∀ j, w.frozen? ⟨b, j, none⟩ = false
theorem cell_lt {w : World} {a : Addr} {v : Value} (h : w.cell? a = some v) : a.block < w.heap.size := by
  unfold World.cell? at h
  cases ho : w.heap[a.block]? with
  | none => simp [ho] at h
  | some o => exact (Array.getElem?_eq_some_iff.1 ho).1
theorem Hist.later {w w' : World} {b : Nat} {h : Int × Int × Int} (hh : Hist w b h) (hb : Below w.heap.size w w') : Hist w' b h := by
  obtain ⟨h1, h2, h3, h4⟩ := hh
  have := cell_lt h1
  exact ⟨(hb.cell (p := ⟨b, 0, none⟩) this).trans h1, (hb.cell (p := ⟨b, 1, none⟩) this).trans h2, (hb.cell (p := ⟨b, 2, none⟩) this).trans h3, fun j => (hb.frozen (p := ⟨b, j, none⟩) this).trans (h4 j)⟩
theorem Stay.frozen_of {S : Nat → Prop} {X Y : World} (h : Stay S X Y) {b : Nat} (hs : S b) (hl : b < X.heap.size) (j : Nat) : Y.frozen? ⟨b, j, none⟩ = X.frozen? ⟨b, j, none⟩ := by
  unfold World.frozen?
  have ho : X.heap[b]? = some (X.heap[b]) := Array.getElem?_eq_getElem hl
  rw [h _ _ hs ho, ho]
theorem Hist.stay {S : Nat → Prop} {X Y : World} {b : Nat} {h : Int × Int × Int} (hh : Hist X b h) (hS : Stay S X Y) (hs : S b) : Hist Y b h := by
  obtain ⟨h1, h2, h3, h4⟩ := hh
  exact ⟨hS.cell (a := ⟨b, 0, none⟩) hs h1, hS.cell (a := ⟨b, 1, none⟩) hs h2, hS.cell (a := ⟨b, 2, none⟩) hs h3, fun j => (hS.frozen_of hs (cell_lt h1) j).trans (h4 j)⟩
theorem but_hist (X : World) (bn : Nat) (u v t : Value) : But (fun k => k = bn) X (((X.setCell ⟨bn, 0, none⟩ u).setCell ⟨bn, 1, none⟩ v).setCell ⟨bn, 2, none⟩ t) :=
  ((But.setCell (S := fun k => k = bn) X (a := ⟨bn, 0, none⟩) u rfl).trans (But.setCell (S := fun k => k = bn) _ (a := ⟨bn, 1, none⟩) v rfl)).trans (But.setCell (S := fun k => k = bn) _ (a := ⟨bn, 2, none⟩) t rfl)
end Go.Proofs.YtmblpmaelglnpaaDoor
