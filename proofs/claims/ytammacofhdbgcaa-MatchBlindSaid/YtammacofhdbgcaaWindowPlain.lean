/-
  Plain laws of candidates: the places before a place that hold the same four bytes. No program in sight.
-/
import Derived.Test.YtammacofhdbgcaaWindow4
namespace Go.Proofs.Ytammacofhdbgcaa
open Go.RowKit
set_option linter.unusedSimpArgs false
set_option linter.unusedVariables false
/-- Four bytes at a place, as numbers. -/
def fours (s : ByteArray) (q : Nat) : List Nat := [byt s q, byt s (q + 1), byt s (q + 2), byt s (q + 3)]
/-- The places from a on, n of them, that hold the same four bytes as place p. -/
def plc (s : ByteArray) (p a n : Nat) : List Nat := (List.range' a n).filter fun q => fours s q == fours s p
theorem plc_zero (s : ByteArray) (p a : Nat) : plc s p a 0 = [] := rfl
theorem plc_front (s : ByteArray) (p a n : Nat) : plc s p a (n + 1) = (if fours s a = fours s p then [a] else []) ++ plc s p (a + 1) n := by
  unfold plc
  rw [List.range'_succ, List.filter_cons]
  by_cases h : fours s a = fours s p <;> simp [h]
theorem plc_back (s : ByteArray) (p a n : Nat) : plc s p a (n + 1) = plc s p a n ++ (if fours s (a + n) = fours s p then [a + n] else []) := by
  unfold plc
  rw [List.range'_concat, List.filter_append]
  by_cases h : fours s (a + n) = fours s p <;> simp [h]
/-- How far back candidates may lie. -/
def wback (p l : Nat) : Nat := min p (2 ^ l)
/-- The candidates of a place, the nearest one first, at most so many. -/
def cands (s : ByteArray) (p e l most : Nat) : List Nat := if e - p < 4 then [] else ((plc s p (p - wback p l) (wback p l)).reverse).take most
/-- The reference's way: one place further back. -/
theorem back_step (s : ByteArray) (p k : Nat) (h : k < p) : (plc s p (p - (k + 1)) (k + 1)).reverse = (plc s p (p - k) k).reverse ++ (if fours s (p - (k + 1)) = fours s p then [p - (k + 1)] else []) := by
  rw [plc_front, List.reverse_append, show p - (k + 1) + 1 = p - k by omega]
  congr 1
  split <;> rfl
theorem take_app_full {α : Type} (l r : List α) (m : Nat) (h : l.length = m) : (l ++ r).take m = l := by
  subst h
  simp
end Go.Proofs.Ytammacofhdbgcaa
