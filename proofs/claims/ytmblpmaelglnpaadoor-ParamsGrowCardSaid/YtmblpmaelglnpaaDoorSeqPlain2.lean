/-
  What sequences give: lengths and bounds. No program in sight.
-/
import Derived.Test.YtmblpmaelglnpaaDoorRows
import Derived.Test.YtmblpmaelglnpaaDoorSeqPlain
import Derived.Test.YtmblpmaelglnpaaDoorGBase
import Derived.Deep.Light
import Derived.Shelf.Abstract
import Derived.Shelf.RegionOpen
import Derived.OwnWalkIn
import Derived.TacticsInMore
import Derived.LoopNIn
import Derived.LoopIn
import Derived.Lib.AppendStr
namespace Go.Proofs.YtmblpmaelglnpaaDoor
open Go.RowKit
set_option linter.unusedSimpArgs false
set_option linter.unusedVariables false

theorem rask_pos {a b c v l : Int} (h : (Rask a b c v l).2.2 = 0) : 1 ≤ (Rask a b c v l).1 ∧ (Rask a b c v l).1 ≤ 2147483648 ∧ chkL true [(Rask a b c v l).2.1.1, (Rask a b c v l).2.1.2.1, (Rask a b c v l).2.1.2.2] = 0 := by
  by_cases h1 : chkL true [a, b, c] = 0
  · by_cases h2 : v < 1 ∨ 2147483651 < v ∨ l < 0
    · rw [rask_range h1 h2] at h; simp at h
    · by_cases h3 : (Rmean a b c v l).2.2 = 0
      · rw [rask_ok h1 h2 h3]
        obtain ⟨g1, g2, g3, g4, _⟩ := rmean_ok h1 (by omega) (by omega) (by omega) h3
        exact ⟨g2, g3, g4⟩
      · rw [rask_err h1 h2 h3] at h; exact absurd h h3
  · rw [rask_chk h1] at h; exact absurd h h1
theorem eOut_st {win : Int} {qs : List (Int × Int × Int)} {ls : List Int} {li th : Nat} {r : Int × Int × Int} (ds before : List Int) (hs : schk qs = 0) (hE : ∀ k, k < qs.length → eErr win qs li th r k = 0) (hb : before.length = th) :
    ∀ i, i ≤ qs.length → (eOut ls qs ds before i).2 ≤ li ∧ (eS qs li th r i).1 = (li : Int) - ((eOut ls qs ds before i).2 : Int) ∧ (((eOut ls qs ds before i).1.length : Nat) : Int) + (((ls.drop (eOut ls qs ds before i).2).length : Nat) : Int) ≤ (eS qs li th r i).2.1 + (((ls.drop (eOut ls qs ds before i).2).length : Nat) : Int) ∧ (ls.length = li → (((eOut ls qs ds before i).1.length : Nat) : Int) = (eS qs li th r i).2.1) := by
  intro i
  induction i with
  | zero => intro _; simp only [eOut, eS]; exact ⟨by omega, by omega, by omega, fun _ => by omega⟩
  | succ i ih =>
    intro hi
    obtain ⟨h1, h2, h3, h4⟩ := ih (by omega)
    obtain ⟨g1, g2, g3, g4⟩ := eErr_zero (hE i (by omega))
    obtain ⟨q1, q2, q3, q4, q5, q6⟩ := (schk_get hs).2 i (by omega) (qs.getD i (0, 0, 0)).1 (qs.getD i (0, 0, 0)).2.1 (qs.getD i (0, 0, 0)).2.2 rfl
    simp only [eOut, eS, repL_len, List.length_append, List.length_take, List.length_drop]
    refine ⟨by omega, by omega, by omega, fun hl => ?_⟩
    have := h4 hl
    omega
theorem eS_sum {win : Int} {qs : List (Int × Int × Int)} {li th : Int} {r : Int × Int × Int} (hs : schk qs = 0) (hE : ∀ k, k < qs.length → eErr win qs li th r k = 0) (hl : 0 ≤ li) : ∀ j i, i + j ≤ qs.length → (eS qs li th r i).2.1 + (eS qs li th r i).1 ≤ (eS qs li th r (i + j)).2.1 + (eS qs li th r (i + j)).1 ∧ (eS qs li th r i).2.1 ≤ (eS qs li th r (i + j)).2.1 := by
  intro j
  induction j with
  | zero => intro i _; rw [Nat.add_zero]; exact ⟨Int.le_refl _, Int.le_refl _⟩
  | succ j ih =>
    intro i hi
    obtain ⟨h1, h2⟩ := ih i (by omega)
    obtain ⟨q1, q2, q3, q4, q5, q6⟩ := (schk_get hs).2 (i + j) (by omega) (qs.getD (i + j) (0, 0, 0)).1 (qs.getD (i + j) (0, 0, 0)).2.1 (qs.getD (i + j) (0, 0, 0)).2.2 rfl
    rw [show i + (j + 1) = (i + j) + 1 by omega]
    simp only [eS]
    omega
/-- All that the walk wants of the bytes so far. -/
theorem eOut_all {win : Int} {qs : List (Int × Int × Int)} (lits before : ByteArray) {a b c : Int} (hs : schk qs = 0) (hw : eAll win qs lits.size before.size (a, b, c) = 0) :
    (∀ i, i ≤ qs.length → (eOut (bI lits) qs (eDs qs lits.size before.size (a, b, c) qs.length) (bI before) i).2 ≤ lits.size ∧ (eOut (bI lits) qs (eDs qs lits.size before.size (a, b, c) qs.length) (bI before) i).1.length + (lits.size - (eOut (bI lits) qs (eDs qs lits.size before.size (a, b, c) qs.length) (bI before) i).2) ≤ before.size + 131072 ∧ before.size ≤ (eOut (bI lits) qs (eDs qs lits.size before.size (a, b, c) qs.length) (bI before) i).1.length) ∧
    (∀ i, i < qs.length → ∃ (x m d : Nat) (v : Int), qs.getD i (0, 0, 0) = ((x : Int), (m : Int), v) ∧ (eDs qs lits.size before.size (a, b, c) qs.length).getD i 0 = (d : Int) ∧ 1 ≤ d ∧ d ≤ (eOut (bI lits) qs (eDs qs lits.size before.size (a, b, c) qs.length) (bI before) i).1.length + x ∧ (eOut (bI lits) qs (eDs qs lits.size before.size (a, b, c) qs.length) (bI before) i).2 + x ≤ lits.size ∧ x ≤ 131072 ∧ 3 ≤ m ∧ m ≤ 131074) := by
  have hb0 : eBad win qs lits.size before.size (a, b, c) qs.length = 0 := by
    unfold eAll at hw
    by_cases h : eBad win qs lits.size before.size (a, b, c) qs.length = 0
    · exact h
    · rw [if_pos h] at hw; exact absurd hw h
  have hE := eBad_all hb0
  have hsum : ¬ (131072 : Int) < (eS qs lits.size before.size (a, b, c) qs.length).2.1 + (eS qs lits.size before.size (a, b, c) qs.length).1 - (before.size : Int) := by
    unfold eAll at hw
    rw [if_neg (by simpa using hb0)] at hw
    intro h
    rw [if_pos h] at hw
    omega
  have h0 := fun i hi => eOut_st (ls := bI lits) (li := lits.size) (th := before.size) (r := (a, b, c)) (eDs qs lits.size before.size (a, b, c) qs.length) (bI before) hs hE (bI_len before) i hi
  have hm := fun j i hi => eS_sum hs hE (by omega : (0 : Int) ≤ (lits.size : Int)) j i hi
  refine ⟨fun i hi => ?_, fun i hi => ?_⟩
  · obtain ⟨h1, h2, h3, h4⟩ := h0 i hi
    have h5 := h4 (bI_len lits)
    have h6 := (hm (qs.length - i) i (by omega)).1
    have h7 := (hm i 0 (by omega)).2
    rw [show i + (qs.length - i) = qs.length by omega] at h6
    rw [Nat.zero_add] at h7
    have h8 : (eS qs lits.size before.size (a, b, c) 0).2.1 = (before.size : Int) := rfl
    generalize eOut (bI lits) qs (eDs qs lits.size before.size (a, b, c) qs.length) (bI before) i = O at *
    omega
  · obtain ⟨h1, h2, h3, h4⟩ := h0 i (by omega)
    have h5 := h4 (bI_len lits)
    obtain ⟨g1, g2, g3, g4⟩ := eErr_zero (hE i hi)
    obtain ⟨q1, q2, q3, q4, q5, q6⟩ := (schk_get hs).2 i hi (qs.getD i (0, 0, 0)).1 (qs.getD i (0, 0, 0)).2.1 (qs.getD i (0, 0, 0)).2.2 rfl
    obtain ⟨k1, k2, k3⟩ := rask_pos g2
    have k4 : (eDs qs lits.size before.size (a, b, c) qs.length).getD i 0 = (eK qs lits.size before.size (a, b, c) i).1 := eDs_get _ _ _ _ _ _ hi
    have k5 : 1 ≤ (eK qs lits.size before.size (a, b, c) i).1 := k1
    refine ⟨(qs.getD i (0, 0, 0)).1.toNat, (qs.getD i (0, 0, 0)).2.1.toNat, (eK qs lits.size before.size (a, b, c) i).1.toNat, (qs.getD i (0, 0, 0)).2.2, ?_, ?_, ?_, ?_, ?_, ?_, ?_, ?_⟩
    · rw [Int.toNat_of_nonneg q1, Int.toNat_of_nonneg (by omega)]
    · rw [k4, Int.toNat_of_nonneg (by omega)]
    · omega
    · generalize eOut (bI lits) qs (eDs qs lits.size before.size (a, b, c) qs.length) (bI before) i = O at *
      omega
    · generalize eOut (bI lits) qs (eDs qs lits.size before.size (a, b, c) qs.length) (bI before) i = O at *
      omega
    · omega
    · omega
    · omega
theorem strCells_bI (s : ByteArray) : Lib.strCells s = (bI s).map (Value.int .u8) := by
  unfold Lib.strCells bI
  rw [List.map_map]
  rfl
theorem rexec_ok {qs : List (Int × Int × Int)} {lits before : ByteArray} {a b c win : Int} (h1 : schk qs = 0) (h2 : chkL true [a, b, c] = 0) (h3 : 0 ≤ win) (h4 : lits.size ≤ 131072) (h5 : before.size ≤ 1048576) (h6 : eAll win qs lits.size before.size (a, b, c) = 0) :
    Rexec qs lits before a b c win = (strOfNums (((eOut (bI lits) qs (eDs qs lits.size before.size (a, b, c) qs.length) (bI before) qs.length).1 ++ (bI lits).drop (eOut (bI lits) qs (eDs qs lits.size before.size (a, b, c) qs.length) (bI before) qs.length).2).drop before.size), (eS qs lits.size before.size (a, b, c) qs.length).2.2, 0) := by
  unfold Rexec
  rw [if_neg (by simpa using h1), if_neg (by simpa using h2), if_neg (by omega), if_neg (by omega), if_neg (by simpa using h6)]
theorem rexec_e {qs : List (Int × Int × Int)} {lits before : ByteArray} {a b c win : Int} (h1 : schk qs = 0) (h2 : chkL true [a, b, c] = 0) (h3 : 0 ≤ win) (h4 : lits.size ≤ 131072) (h5 : before.size ≤ 1048576) (h6 : eAll win qs lits.size before.size (a, b, c) ≠ 0) :
    Rexec qs lits before a b c win = (⟨#[]⟩, (0, 0, 0), eAll win qs lits.size before.size (a, b, c)) := by
  unfold Rexec
  rw [if_neg (by simpa using h1), if_neg (by simpa using h2), if_neg (by omega), if_neg (by omega), if_pos h6]
end Go.Proofs.YtmblpmaelglnpaaDoor
