/-
  What sequences give, as plain functions. No program in sight.
-/
import Derived.Test.YtmblpmaelglnpaaDoorRows
import Derived.Test.YtmblpmaelglnpaaDoorGReps
import Derived.Test.YtmblpmaelglnpaaDoorSeqCheck
import Derived.Test.YtmblpmaelglnpaaDoorGWin
import Derived.Test.YtmblpmaelglnpaaDoorGBase
import Derived.Deep.Light
import Derived.Shelf.Abstract
import Derived.Shelf.RegionOpen
import Derived.OwnWalkIn
import Derived.TacticsInMore
import Derived.LoopNIn
import Derived.LoopIn
namespace Go.Proofs.YtmblpmaelglnpaaDoor
open Go.RowKit
set_option linter.unusedSimpArgs false
set_option linter.unusedVariables false

/-- The bytes of a string, as numbers. -/
def bI (s : ByteArray) : List Int := s.data.toList.map fun b => (b.toNat : Int)
theorem bI_len (s : ByteArray) : (bI s).length = s.size := by rw [bI, List.length_map, Array.length_toList]; rfl
theorem bI_append (a b : ByteArray) : bI (a ++ b) = bI a ++ bI b := by simp [bI]
theorem bI_extract (s : ByteArray) (i j : Nat) : bI (s.extract i j) = ((bI s).drop i).take (j - i) := by
  simp only [bI, ByteArray.data_extract, Array.toList_extract, List.extract, List.map_take, List.map_drop]
theorem bI_str (s : ByteArray) : strOfNums (bI s) = s := by
  apply ByteArray.ext
  apply Array.toList_inj.1
  rw [strOfNums_data]
  simp only [bI, List.map_map]
  conv => rhs; rw [← List.map_id s.data.toList]
  apply List.map_congr_left
  intro b _
  simp
theorem bI_get (s : ByteArray) (i : Nat) : (bI s).getD i 0 = (byt s i : Int) := by
  rw [byt_eq]
  simp only [bI, List.getD_eq_getElem?_getD, List.getElem?_map]
  cases s.data.toList[i]? <;> rfl
theorem bI_rng (s : ByteArray) : ∀ x ∈ bI s, 0 ≤ x ∧ x ≤ 255 := by
  intro x hx
  simp only [bI, List.mem_map] at hx
  obtain ⟨b, _, rfl⟩ := hx
  have := b.toNat_lt
  omega
/-- After some sequences: the literals left, the bytes there, the history. -/
def eS (qs : List (Int × Int × Int)) (li th : Int) (r : Int × Int × Int) : Nat → Int × Int × Int × Int × Int
  | 0 => (li, th, r)
  | i + 1 => ((eS qs li th r i).1 - (qs.getD i (0, 0, 0)).1, (eS qs li th r i).2.1 + (qs.getD i (0, 0, 0)).1 + (qs.getD i (0, 0, 0)).2.1,
      (Rask (eS qs li th r i).2.2.1 (eS qs li th r i).2.2.2.1 (eS qs li th r i).2.2.2.2 (qs.getD i (0, 0, 0)).2.2 (qs.getD i (0, 0, 0)).1).2.1)
/-- What the next one means. -/
def eK (qs : List (Int × Int × Int)) (li th : Int) (r : Int × Int × Int) (i : Nat) : Int × (Int × Int × Int) × Int :=
  Rask (eS qs li th r i).2.2.1 (eS qs li th r i).2.2.2.1 (eS qs li th r i).2.2.2.2 (qs.getD i (0, 0, 0)).2.2 (qs.getD i (0, 0, 0)).1
/-- Its error. -/
def eErr (win : Int) (qs : List (Int × Int × Int)) (li th : Int) (r : Int × Int × Int) (i : Nat) : Int :=
  if (eS qs li th r i).1 < (qs.getD i (0, 0, 0)).1 then 24 else if (eK qs li th r i).2.2 ≠ 0 ∨ win < (eK qs li th r i).1 ∨ (eS qs li th r i).2.1 + (qs.getD i (0, 0, 0)).1 < (eK qs li th r i).1 then 25 else 0
/-- The first error of some. -/
def eBad (win : Int) (qs : List (Int × Int × Int)) (li th : Int) (r : Int × Int × Int) : Nat → Int
  | 0 => 0
  | k + 1 => if eBad win qs li th r k ≠ 0 then eBad win qs li th r k else eErr win qs li th r k
/-- The error of all, and of the sum. -/
def eAll (win : Int) (qs : List (Int × Int × Int)) (li th : Int) (r : Int × Int × Int) : Int :=
  if eBad win qs li th r qs.length ≠ 0 then eBad win qs li th r qs.length else if 131072 < (eS qs li th r qs.length).2.1 + (eS qs li th r qs.length).1 - th then 19 else 0
def eDs (qs : List (Int × Int × Int)) (li th : Int) (r : Int × Int × Int) (n : Nat) : List Int := (List.range n).map fun i => (eK qs li th r i).1
theorem eDs_succ (qs : List (Int × Int × Int)) (li th : Int) (r : Int × Int × Int) (n : Nat) : eDs qs li th r (n + 1) = eDs qs li th r n ++ [(eK qs li th r n).1] := by
  unfold eDs; rw [List.range_succ, List.map_append]; rfl
theorem eDs_len (qs : List (Int × Int × Int)) (li th : Int) (r : Int × Int × Int) (n : Nat) : (eDs qs li th r n).length = n := by unfold eDs; simp
theorem eDs_get (qs : List (Int × Int × Int)) (li th : Int) (r : Int × Int × Int) (n i : Nat) (h : i < n) : (eDs qs li th r n).getD i 0 = (eK qs li th r i).1 := by
  unfold eDs; simp [List.getD_eq_getElem?_getD, h]
theorem eErr_cases (win : Int) (qs : List (Int × Int × Int)) (li th : Int) (r : Int × Int × Int) (i : Nat) : eErr win qs li th r i = 24 ∨ eErr win qs li th r i = 25 ∨ eErr win qs li th r i = 0 := by
  unfold eErr; split <;> (try split) <;> simp
theorem eBad_stop {win : Int} {qs : List (Int × Int × Int)} {li th : Int} {r : Int × Int × Int} : ∀ {n k : Nat}, k < n → eBad win qs li th r k = 0 → eErr win qs li th r k ≠ 0 → eBad win qs li th r n = eErr win qs li th r k := by
  intro n
  induction n with
  | zero => intro k h; omega
  | succ n ih =>
    intro k h h0 h1
    unfold eBad
    by_cases hk : k = n
    · subst hk
      rw [if_neg (by simpa using h0)]
    · have := ih (k := k) (by omega) h0 h1
      rw [if_pos (by rw [this]; exact h1), this]
theorem eBad_all {win : Int} {qs : List (Int × Int × Int)} {li th : Int} {r : Int × Int × Int} : ∀ {n : Nat}, eBad win qs li th r n = 0 → ∀ k, k < n → eErr win qs li th r k = 0 := by
  intro n
  induction n with
  | zero => intro _ k h; omega
  | succ n ih =>
    intro h k hk
    unfold eBad at h
    by_cases h1 : eBad win qs li th r n = 0
    · rw [if_neg (by simpa using h1)] at h
      by_cases hkn : k = n
      · rw [hkn]; exact h
      · exact ih h1 k (by omega)
    · rw [if_pos h1] at h
      exact absurd h h1
theorem eBad_zero {win : Int} {qs : List (Int × Int × Int)} {li th : Int} {r : Int × Int × Int} : ∀ {n : Nat}, (∀ k, k < n → eErr win qs li th r k = 0) → eBad win qs li th r n = 0 := by
  intro n
  induction n with
  | zero => intro _; rfl
  | succ n ih =>
    intro h
    unfold eBad
    rw [if_neg (by simpa using ih (fun k hk => h k (by omega)))]
    exact h n (by omega)
theorem eErr_zero {win : Int} {qs : List (Int × Int × Int)} {li th : Int} {r : Int × Int × Int} {i : Nat} (h : eErr win qs li th r i = 0) :
    (qs.getD i (0, 0, 0)).1 ≤ (eS qs li th r i).1 ∧ (eK qs li th r i).2.2 = 0 ∧ (eK qs li th r i).1 ≤ win ∧ (eK qs li th r i).1 ≤ (eS qs li th r i).2.1 + (qs.getD i (0, 0, 0)).1 := by
  unfold eErr at h
  by_cases h1 : (eS qs li th r i).1 < (qs.getD i (0, 0, 0)).1
  · rw [if_pos h1] at h; omega
  · rw [if_neg h1] at h
    by_cases h2 : (eK qs li th r i).2.2 ≠ 0 ∨ win < (eK qs li th r i).1 ∨ (eS qs li th r i).2.1 + (qs.getD i (0, 0, 0)).1 < (eK qs li th r i).1
    · rw [if_pos h2] at h; omega
    · refine ⟨by omega, ?_, by omega, by omega⟩
      apply Classical.byContradiction
      intro h3
      exact h2 (.inl h3)
theorem eS_bd {win : Int} {qs : List (Int × Int × Int)} {li th : Int} {r : Int × Int × Int} (h : schk qs = 0) (hl : 0 ≤ li) : ∀ k, k ≤ qs.length → eBad win qs li th r k = 0 → 0 ≤ (eS qs li th r k).1 ∧ (eS qs li th r k).1 ≤ li ∧ th ≤ (eS qs li th r k).2.1 ∧ (eS qs li th r k).2.1 ≤ th + 262146 * (k : Int) := by
  intro k
  induction k with
  | zero => intro _ _; simp only [eS]; omega
  | succ k ih =>
    intro hk hb
    have h0 : eBad win qs li th r k = 0 := eBad_zero (fun i hi => eBad_all hb i (by omega))
    obtain ⟨h1, h2, h3, h4⟩ := ih (by omega) h0
    obtain ⟨g1, g2, g3, g4⟩ := eErr_zero (eBad_all hb k (by omega))
    obtain ⟨q1, q2, q3, q4, q5, q6⟩ := (schk_get h).2 k (by omega) (qs.getD k (0, 0, 0)).1 (qs.getD k (0, 0, 0)).2.1 (qs.getD k (0, 0, 0)).2.2 rfl
    simp only [eS]
    omega
/-- Bytes repeated. -/
def repL (A : List Int) (d : Nat) : Nat → List Int
  | 0 => A
  | k + 1 => repL A d k ++ [(repL A d k).getD ((repL A d k).length - d) 0]
theorem repL_len (A : List Int) (d k : Nat) : (repL A d k).length = A.length + k := by
  induction k with
  | zero => rfl
  | succ k ih => rw [repL, List.length_append, ih]; simp; omega
/-- All bytes after some sequences, and how many literals are used. -/
def eOut (lits : List Int) (qs : List (Int × Int × Int)) (ds before : List Int) : Nat → List Int × Nat
  | 0 => (before, 0)
  | i + 1 => (repL ((eOut lits qs ds before i).1 ++ (lits.drop (eOut lits qs ds before i).2).take (qs.getD i (0, 0, 0)).1.toNat) (ds.getD i 0).toNat (qs.getD i (0, 0, 0)).2.1.toNat, (eOut lits qs ds before i).2 + (qs.getD i (0, 0, 0)).1.toNat)
/-- What sequences give: bytes, a history, an error. -/
def Rexec (qs : List (Int × Int × Int)) (lits before : ByteArray) (a b c win : Int) : ByteArray × (Int × Int × Int) × Int :=
  if schk qs ≠ 0 then (⟨#[]⟩, (0, 0, 0), schk qs)
  else if chkL true [a, b, c] ≠ 0 then (⟨#[]⟩, (0, 0, 0), chkL true [a, b, c])
  else if win < 0 then (⟨#[]⟩, (0, 0, 0), 2)
  else if 131072 < lits.size ∨ 1048576 < before.size then (⟨#[]⟩, (0, 0, 0), 4)
  else if eAll win qs lits.size before.size (a, b, c) ≠ 0 then (⟨#[]⟩, (0, 0, 0), eAll win qs lits.size before.size (a, b, c))
  else (strOfNums (((eOut (bI lits) qs (eDs qs lits.size before.size (a, b, c) qs.length) (bI before) qs.length).1 ++ (bI lits).drop (eOut (bI lits) qs (eDs qs lits.size before.size (a, b, c) qs.length) (bI before) qs.length).2).drop before.size), (eS qs lits.size before.size (a, b, c) qs.length).2.2, 0)
end Go.Proofs.YtmblpmaelglnpaaDoor
