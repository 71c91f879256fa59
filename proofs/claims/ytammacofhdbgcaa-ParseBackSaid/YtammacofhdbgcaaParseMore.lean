/-
  Facts for the statements about parsing: a row of sequences over stores below it; right arguments.
-/
import Derived.Test.YtammacofhdbgcaaRows
import Derived.Test.YtammacofhdbgcaaParseBlindP
import Derived.Test.YtammacofhdbgcaaParseScore
import Derived.Test.YtammacofhdbgcaaGBase
import Derived.Deep.Light
import Derived.Shelf.Abstract
import Derived.Shelf.RegionOpen
import Derived.OwnWalkIn
import Derived.TacticsInMore
import Derived.LoopNIn
import Derived.LoopIn
namespace Go.Proofs.Ytammacofhdbgcaa
open Go.RowKit
set_option linter.unusedSimpArgs false
set_option linter.unusedVariables false

theorem RowQ.setLow {w : World} {pa : Option Addr} {qs : List (Int × Int × Int)} {B n ca : Nat} (h : RowQ w pa qs) (hg : ∀ g, (Value.slice pa n ca).ownBlock = some g → B ≤ g) {a : Addr} (ha : a.block < B) (v : Value) : RowQ (w.setCell a v) pa qs := by
  rcases h with h | ⟨b, off, rfl, hlt, hc⟩
  · exact .inl h
  · have hb : a.block ≠ b := by
      have := hg b rfl
      omega
    refine .inr ⟨b, off, rfl, by simpa using hlt, fun i hi => ?_⟩
    obtain ⟨h1, h2, h3⟩ := hc i hi
    have hbu : But (fun k => k = a.block) w (w.setCell a v) := But.setCell (S := fun k => k = a.block) w v rfl
    exact ⟨hbu.cell (fun h => hb h.symm) h1, hbu.cell (fun h => hb h.symm) h2, hbu.cell (fun h => hb h.symm) h3⟩
theorem pask_zero {n : Nat} {p e L W J O a b c : Int} (h : pOk L W J O) (h1 : n ≤ 1048576) (h2 : 0 ≤ p) (h3 : p ≤ e) (h4 : e ≤ n) (h5 : e - p ≤ 131072) (h6 : chkL true [a, b, c] = 0) : Pask n p e L W J O a b c = 0 := by
  have g1 : pchk L W J O = 0 := by unfold pchk; rw [if_pos h]
  have g2 : wchk n p e W = 0 := wchk_0 (by omega) (by unfold wOk; unfold pOk at h; omega)
  unfold Pask Pchk
  rw [g1, g2]
  simp only [ne_eq, not_true_eq_false, if_false]
  rw [if_neg (by omega)]
  exact h6
end Go.Proofs.Ytammacofhdbgcaa
