/-
  The best match, walked: of the program and of the reference.
-/
import Derived.Test.YtammacofhdbgcaaRows
import Derived.Test.YtammacofhdbgcaaMatch2
import Derived.Test.YtammacofhdbgcaaCommon
import Derived.Deep.Light
import Derived.Shelf.Abstract
import Derived.Shelf.RegionOpen
import Derived.OwnWalkIn
import Derived.TacticsInMore
import Derived.LoopNIn
import Derived.LoopIn
import Derived.Outline
namespace Go.Proofs.Ytammacofhdbgcaa
open Go.RowKit
set_option linter.unusedSimpArgs false
set_option linter.unusedVariables false
open Go.Shelf
attribute [local go_sem] Oper.semAt_some

theorem rbetter_0 (ad al av ag bd bl bv bg : Int) (w : World) : Calls Try.prog 33 #[.agg #[.int .i64 ad, .int .i64 al, .int .i64 av, .int .i64 ag], .agg #[.int .i64 bd, .int .i64 bl, .int .i64 bv, .int .i64 bg]] w fun e w' => e = .returned (.bool (mbet (ad, al, av, ag) (bd, bl, bv, bg))) ∧ Below w.heap.size w w' := by
  unfold mbet
  dsimp only
  by_cases h1 : ag = bg
  · rw [if_neg (show ¬ (ag ≠ bg) from fun h => h h1)]
    have g1 : (ag != bg) = false := by simpa using h1
    by_cases h2 : av = bv
    · rw [if_neg (show ¬ (av ≠ bv) from fun h => h h2)]
      have g2 : (av != bv) = false := by simpa using h2
      clear h1 h2
      go_enter Try.func33, Try.ntmps33
      go_wp2
      all_goals (try rw [Exit.noGoto_ret])
      all_goals go_light
      refine bodyPost_ret (v := .bool (decide (ad < bd))) (by simp [results, Try.results33, go_sem, *]) rfl ⟨rfl, ?_⟩
      repeat' (first | exact Below.refl _ _ | refine Below.drew ?_ | refine below_drewN ?_ _ | refine Below.alloc ?_ (by first | omega | (simp <;> omega)) _ | refine Below.setCell ?_ (by first | omega | (simp <;> omega)) _ | refine Below.trans ?_ (Below.mono (by assumption) (by first | omega | (simp <;> omega))))
    · rw [if_pos (show av ≠ bv from h2)]
      have g2 : (av != bv) = true := by simpa using h2
      clear h1 h2
      go_enter Try.func33, Try.ntmps33
      go_wp2
      all_goals (try rw [Exit.noGoto_ret])
      all_goals go_light
      refine bodyPost_ret (v := .bool (decide (av < bv))) (by simp [results, Try.results33, go_sem, *]) rfl ⟨rfl, ?_⟩
      repeat' (first | exact Below.refl _ _ | refine Below.drew ?_ | refine below_drewN ?_ _ | refine Below.alloc ?_ (by first | omega | (simp <;> omega)) _ | refine Below.setCell ?_ (by first | omega | (simp <;> omega)) _ | refine Below.trans ?_ (Below.mono (by assumption) (by first | omega | (simp <;> omega))))
  · rw [if_pos (show ag ≠ bg from h1)]
    have g1 : (ag != bg) = true := by simpa using h1
    clear h1
    go_enter Try.func33, Try.ntmps33
    go_wp2
    all_goals (try rw [Exit.noGoto_ret])
    all_goals go_light
    refine bodyPost_ret (v := .bool (decide (bg < ag))) (by simp [results, Try.results33, go_sem, *]) rfl ⟨rfl, ?_⟩
    repeat' (first | exact Below.refl _ _ | refine Below.drew ?_ | refine below_drewN ?_ _ | refine Below.alloc ?_ (by first | omega | (simp <;> omega)) _ | refine Below.setCell ?_ (by first | omega | (simp <;> omega)) _ | refine Below.trans ?_ (Below.mono (by assumption) (by first | omega | (simp <;> omega))))

theorem rbetter_p (a b : Int × Int × Int × Int) (w : World) : Calls Try.prog 33 #[.agg #[.int .i64 a.1, .int .i64 a.2.1, .int .i64 a.2.2.1, .int .i64 a.2.2.2], .agg #[.int .i64 b.1, .int .i64 b.2.1, .int .i64 b.2.2.1, .int .i64 b.2.2.2]] w fun e w' => e = .returned (.bool (mbet a b)) ∧ Below w.heap.size w w' := by
  obtain ⟨ad, al, av, ag⟩ := a
  obtain ⟨bd, bl, bv, bg⟩ := b
  exact rbetter_0 ad al av ag bd bl bv bg w
/-- The slice's address leads to a row of matches: distance, length, value, gain. -/
def RowM (w : World) (a : Option Addr) (ms : List (Int × Int × Int × Int)) : Prop :=
  ms = [] ∨ ∃ b off, a = some ⟨b, off, none⟩ ∧ b < w.heap.size ∧ ∀ i, i < ms.length → w.cell? ⟨b, off + i * 4, none⟩ = some (.int .i64 (ms.getD i (0, 0, 0, 0)).1) ∧ w.cell? ⟨b, off + i * 4 + 1, none⟩ = some (.int .i64 (ms.getD i (0, 0, 0, 0)).2.1) ∧ w.cell? ⟨b, off + i * 4 + 2, none⟩ = some (.int .i64 (ms.getD i (0, 0, 0, 0)).2.2.1) ∧ w.cell? ⟨b, off + i * 4 + 3, none⟩ = some (.int .i64 (ms.getD i (0, 0, 0, 0)).2.2.2)
theorem RowM.later {w w' : World} {a : Option Addr} {ms : List (Int × Int × Int × Int)} (h : RowM w a ms) (hb : Below w.heap.size w w') : RowM w' a ms := by
  rcases h with h | ⟨b, off, ha, hlt, hc⟩
  · exact .inl h
  · refine .inr ⟨b, off, ha, Nat.lt_of_lt_of_le hlt hb.size, fun i hi => ?_⟩
    obtain ⟨h1, h2, h3, h4⟩ := hc i hi
    exact ⟨(hb.cell (p := ⟨b, off + i * 4, none⟩) hlt).trans h1, (hb.cell (p := ⟨b, off + i * 4 + 1, none⟩) hlt).trans h2, (hb.cell (p := ⟨b, off + i * 4 + 2, none⟩) hlt).trans h3, (hb.cell (p := ⟨b, off + i * 4 + 3, none⟩) hlt).trans h4⟩
theorem RowM.at {w : World} {a : Option Addr} {ms : List (Int × Int × Int × Int)} (h : RowM w a ms) {i : Nat} (hi : i < ms.length) :
    ∃ b off, a = some ⟨b, off, none⟩ ∧ b < w.heap.size ∧ ∀ i, i < ms.length → w.cell? ⟨b, off + i * 4, none⟩ = some (.int .i64 (ms.getD i (0, 0, 0, 0)).1) ∧ w.cell? ⟨b, off + i * 4 + 1, none⟩ = some (.int .i64 (ms.getD i (0, 0, 0, 0)).2.1) ∧ w.cell? ⟨b, off + i * 4 + 2, none⟩ = some (.int .i64 (ms.getD i (0, 0, 0, 0)).2.2.1) ∧ w.cell? ⟨b, off + i * 4 + 3, none⟩ = some (.int .i64 (ms.getD i (0, 0, 0, 0)).2.2.2) := by
  rcases h with h | h
  · subst h; simp at hi
  · exact h
/-- The best of the first so many. -/
def mbF (ms : List (Int × Int × Int × Int)) : Nat → Int × Int × Int × Int
  | 0 => ms.getD 0 (0, 0, 0, 0)
  | k + 1 => if mbet (ms.getD k (0, 0, 0, 0)) (mbF ms k) then ms.getD k (0, 0, 0, 0) else mbF ms k
/-- The best of some. -/
def mbest (ms : List (Int × Int × Int × Int)) : Int × Int × Int × Int := mbF ms ms.length
theorem mbF_one (ms : List (Int × Int × Int × Int)) : mbF ms 1 = ms.getD 0 (0, 0, 0, 0) := by
  unfold mbF
  unfold mbF
  split <;> rfl

theorem rbest_0 (a : Option Addr) (cap : Nat) (w : World) : Calls Try.prog 31 #[.slice a 0 cap] w fun e w' => e = .returned (.tuple #[.agg #[.int .i64 0, .int .i64 0, .int .i64 0, .int .i64 0], .bool false]) ∧ Below w.heap.size w w' := by
  go_enter Try.func31, Try.ntmps31
  go_wp2
  go_light
  refine bodyPost_ret (v := .tuple #[.agg #[.int .i64 0, .int .i64 0, .int .i64 0, .int .i64 0], .bool false]) (by simp [results, Try.results31, go_sem, *]) rfl ⟨rfl, ?_⟩
  repeat' (first | exact Below.refl _ _ | refine Below.drew ?_ | refine below_drewN ?_ _ | refine Below.alloc ?_ (by first | omega | (simp <;> omega)) _ | refine Below.setCell ?_ (by first | omega | (simp <;> omega)) _ | refine Below.trans ?_ (Below.mono (by assumption) (by first | omega | (simp <;> omega))))
end Go.Proofs.Ytammacofhdbgcaa
