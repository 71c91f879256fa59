/-
  Parsing, as plain functions. No program in sight.
-/
import Derived.Test.YtammacofhdbgcaaRows
import Derived.Test.YtammacofhdbgcaaMatchPlain2
import Derived.Test.YtammacofhdbgcaaGBase
import Derived.Deep.Light
import Derived.Shelf.Abstract
import Derived.Shelf.RegionOpen
import Derived.OwnWalkIn
import Derived.TacticsInMore
import Derived.LoopNIn
import Derived.LoopIn
namespace Go.Proofs.Ytammacofhdbgcaa
open Go.RowKit
set_option linter.unusedSimpArgs false
set_option linter.unusedVariables false

/-- The match at a place, if there is one. -/
def pat (s : ByteArray) (e : Nat) (l dp a b c : Int) (p : Nat) (li : Int) : (Int × Int × Int × Int) × Bool :=
  ((Rat s p e l dp a b c li).1, (Rat s p e l dp a b c li).2.1 && ((Rat s p e l dp a b c li).2.2 == 0))
/-- Is the match so many places further on better by enough? -/
def pbet (s : ByteArray) (e : Nat) (l dp a b c : Int) (p : Nat) (li g : Int) (d : Nat) : Bool :=
  (pat s e l dp a b c (p + d) (li + d)).2 && decide (g + 4 * (d : Int) < (pat s e l dp a b c (p + d) (li + d)).1.2.2.2)
/-- The first of some places further on that is better by enough; 0: none. -/
def pgo (bt : Nat → Bool) (p e lz : Nat) : Nat → Nat → Nat
  | 0, _ => 0
  | f + 1, d => if d ≤ lz ∧ p + d < e then (if bt d then d else pgo bt p e lz f (d + 1)) else 0
theorem pgo_more (bt : Nat → Bool) (p e lz : Nat) : ∀ f d, lz + 1 ≤ f + d → ∀ f2, f ≤ f2 → pgo bt p e lz f2 d = pgo bt p e lz f d := by
  intro f
  induction f with
  | zero =>
    intro d hd f2 _
    cases f2 with
    | zero => rfl
    | succ f2 => unfold pgo; rw [if_neg (by omega)]
  | succ f ih =>
    intro d hd f2 hf
    obtain ⟨k, rfl⟩ : ∃ k, f2 = k + 1 := ⟨f2 - 1, by omega⟩
    unfold pgo
    rw [ih (d + 1) (by omega) k (by omega)]
theorem pgo_le (bt : Nat → Bool) (p e lz : Nat) : ∀ f d, pgo bt p e lz f d = 0 ∨ (d ≤ pgo bt p e lz f d ∧ pgo bt p e lz f d ≤ lz ∧ p + pgo bt p e lz f d < e) := by
  intro f
  induction f with
  | zero => intro d; exact .inl rfl
  | succ f ih =>
    intro d
    unfold pgo
    by_cases h : d ≤ lz ∧ p + d < e
    · rw [if_pos h]
      by_cases hb : bt d = true
      · rw [if_pos hb]
        exact .inr ⟨Nat.le_refl _, h.1, h.2⟩
      · rw [if_neg hb]
        rcases ih (d + 1) with h1 | ⟨h1, h2, h3⟩
        · exact .inl h1
        · exact .inr ⟨by omega, h2, h3⟩
    · rw [if_neg h]
      exact .inl rfl
/-- How far the match at a place is put off. -/
def plater (s : ByteArray) (e : Nat) (l dp a b c : Int) (lz p : Nat) (li g : Int) : Nat := pgo (pbet s e l dp a b c p li g) p e lz lz 1
/-- Where the next match begins, and which one it is. -/
def pstep (s : ByteArray) (e : Nat) (l dp a b c : Int) (lz : Nat) : Nat → Nat → Int → Nat × (Int × Int × Int × Int) × Bool
  | 0, _, _ => (e, (0, 0, 0, 0), false)
  | f + 1, p, li => if p < e then
      (if (pat s e l dp a b c p li).2 = false then pstep s e l dp a b c lz f (p + 1) (li + 1)
      else if plater s e l dp a b c lz p li (pat s e l dp a b c p li).1.2.2.2 = 0 then (p, (pat s e l dp a b c p li).1, true)
      else pstep s e l dp a b c lz f (p + plater s e l dp a b c lz p li (pat s e l dp a b c p li).1.2.2.2) (li + plater s e l dp a b c lz p li (pat s e l dp a b c p li).1.2.2.2))
    else (e, (0, 0, 0, 0), false)
theorem plater_le (s : ByteArray) (e : Nat) (l dp a b c : Int) (lz p : Nat) (li g : Int) (h : plater s e l dp a b c lz p li g ≠ 0) : 1 ≤ plater s e l dp a b c lz p li g ∧ plater s e l dp a b c lz p li g ≤ lz ∧ p + plater s e l dp a b c lz p li g < e := by
  rcases pgo_le (pbet s e l dp a b c p li g) p e lz lz 1 with h1 | h1
  · exact absurd h1 h
  · exact h1
theorem pstep_more (s : ByteArray) (e : Nat) (l dp a b c : Int) (lz : Nat) : ∀ f p li, e ≤ p + f → ∀ f2, f ≤ f2 → pstep s e l dp a b c lz f2 p li = pstep s e l dp a b c lz f p li := by
  intro f
  induction f with
  | zero =>
    intro p li hp f2 _
    cases f2 with
    | zero => rfl
    | succ f2 => unfold pstep; rw [if_neg (by omega)]
  | succ f ih =>
    intro p li hp f2 hf
    obtain ⟨k, rfl⟩ : ∃ k, f2 = k + 1 := ⟨f2 - 1, by omega⟩
    unfold pstep
    by_cases hpe : p < e
    · rw [if_pos hpe, if_pos hpe]
      by_cases h1 : (pat s e l dp a b c p li).2 = false
      · rw [if_pos h1, if_pos h1, ih (p + 1) _ (by omega) k (by omega)]
      · rw [if_neg h1, if_neg h1]
        by_cases h2 : plater s e l dp a b c lz p li (pat s e l dp a b c p li).1.2.2.2 = 0
        · rw [if_pos h2, if_pos h2]
        · rw [if_neg h2, if_neg h2]
          have := plater_le s e l dp a b c lz p li _ h2
          rw [ih _ _ (by omega) k (by omega)]
    · rw [if_neg hpe, if_neg hpe]
/-- The step with fuel enough. -/
def pnext (s : ByteArray) (e : Nat) (l dp a b c : Int) (lz p : Nat) (li : Int) : Nat × (Int × Int × Int × Int) × Bool := pstep s e l dp a b c lz (e - p) p li
theorem pnext_end (s : ByteArray) (e : Nat) (l dp a b c : Int) (lz p : Nat) (li : Int) (h : ¬ p < e) : pnext s e l dp a b c lz p li = (e, (0, 0, 0, 0), false) := by
  unfold pnext
  rw [show e - p = 0 by omega]
  rfl
theorem pnext_none (s : ByteArray) (e : Nat) (l dp a b c : Int) (lz p : Nat) (li : Int) (h : p < e) (h1 : (pat s e l dp a b c p li).2 = false) : pnext s e l dp a b c lz p li = pnext s e l dp a b c lz (p + 1) (li + 1) := by
  unfold pnext
  obtain ⟨f, hf⟩ : ∃ f, e - p = f + 1 := ⟨e - p - 1, by omega⟩
  rw [hf, show e - (p + 1) = f by omega]
  conv => lhs; unfold pstep
  rw [if_pos h, if_pos h1]
theorem pnext_here (s : ByteArray) (e : Nat) (l dp a b c : Int) (lz p : Nat) (li : Int) (h : p < e) (h1 : (pat s e l dp a b c p li).2 = true) (h2 : plater s e l dp a b c lz p li (pat s e l dp a b c p li).1.2.2.2 = 0) : pnext s e l dp a b c lz p li = (p, (pat s e l dp a b c p li).1, true) := by
  unfold pnext
  obtain ⟨f, hf⟩ : ∃ f, e - p = f + 1 := ⟨e - p - 1, by omega⟩
  rw [hf]
  unfold pstep
  rw [if_pos h, if_neg (by rw [h1]; simp), if_pos h2]
theorem pnext_later (s : ByteArray) (e : Nat) (l dp a b c : Int) (lz p : Nat) (li : Int) (h : p < e) (h1 : (pat s e l dp a b c p li).2 = true) (t : Nat) (ht : plater s e l dp a b c lz p li (pat s e l dp a b c p li).1.2.2.2 = t) (h2 : t ≠ 0) : pnext s e l dp a b c lz p li = pnext s e l dp a b c lz (p + t) (li + t) := by
  unfold pnext
  obtain ⟨f, hf⟩ : ∃ f, e - p = f + 1 := ⟨e - p - 1, by omega⟩
  rw [hf]
  conv => lhs; unfold pstep
  rw [if_pos h, if_neg (by rw [h1]; simp), ht, if_neg h2]
  exact pstep_more s e l dp a b c lz _ _ _ (by omega) f (by omega)
theorem pnext_shape (s : ByteArray) (e : Nat) (l dp a b c : Int) (lz : Nat) : ∀ f p li, p ≤ e → p ≤ (pstep s e l dp a b c lz f p li).1 ∧ (pstep s e l dp a b c lz f p li).1 ≤ e ∧ ((pstep s e l dp a b c lz f p li).2.2 = true → (pstep s e l dp a b c lz f p li).1 < e ∧ (pat s e l dp a b c (pstep s e l dp a b c lz f p li).1 (li + ((pstep s e l dp a b c lz f p li).1 - p : Nat))) = ((pstep s e l dp a b c lz f p li).2.1, true)) := by
  intro f
  induction f with
  | zero => intro p li hp; exact ⟨hp, Nat.le_refl _, fun h => by cases h⟩
  | succ f ih =>
    intro p li hp
    unfold pstep
    by_cases hpe : p < e
    · rw [if_pos hpe]
      by_cases h1 : (pat s e l dp a b c p li).2 = false
      · rw [if_pos h1]
        obtain ⟨g1, g2, g3⟩ := ih (p + 1) (li + 1) (by omega)
        refine ⟨by omega, g2, fun h => ?_⟩
        obtain ⟨g4, g5⟩ := g3 h
        refine ⟨g4, ?_⟩
        rw [← g5]
        congr 1
        omega
      · rw [if_neg h1]
        by_cases h2 : plater s e l dp a b c lz p li (pat s e l dp a b c p li).1.2.2.2 = 0
        · rw [if_pos h2]
          refine ⟨Nat.le_refl _, by omega, fun _ => ⟨hpe, ?_⟩⟩
          simp only [Nat.sub_self, Int.natCast_zero, Int.add_zero]
          exact Prod.ext rfl (by simpa using h1)
        · rw [if_neg h2]
          have hle := plater_le s e l dp a b c lz p li _ h2
          generalize plater s e l dp a b c lz p li (pat s e l dp a b c p li).1.2.2.2 = t at hle ⊢
          obtain ⟨g1, g2, g3⟩ := ih (p + t) (li + t) (by omega)
          refine ⟨by omega, g2, fun h => ?_⟩
          obtain ⟨g4, g5⟩ := g3 h
          refine ⟨g4, ?_⟩
          rw [← g5]
          congr 1
          omega
    · rw [if_neg hpe]
      exact ⟨hp, Nat.le_refl _, fun h => by cases h⟩
end Go.Proofs.Ytammacofhdbgcaa
