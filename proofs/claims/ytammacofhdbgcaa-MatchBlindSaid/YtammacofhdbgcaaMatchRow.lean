/-
  Rows of matches that a call owns. No program in sight.
-/
import Derived.Test.YtammacofhdbgcaaRows
import Derived.Test.YtammacofhdbgcaaMatchPlain
import Derived.Test.YtammacofhdbgcaaOwnMore
import Derived.Test.YtammacofhdbgcaaAppendG
import Derived.Test.YtammacofhdbgcaaCommon
import Derived.Deep.Light
import Derived.Shelf.Abstract
import Derived.Shelf.RegionOpen
import Derived.OwnWalkIn
import Derived.TacticsInMore
import Derived.LoopNIn
import Derived.LoopIn
namespace Go.Proofs.Ytammacofhdbgcaa
open Go.RowKit
set_option linter.unusedSimpArgs false
set_option linter.unusedVariables false

/-- The cells of matches. -/
def flatM (ms : List (Int × Int × Int × Int)) : List Value := ms.flatMap fun q => [.int .i64 q.1, .int .i64 q.2.1, .int .i64 q.2.2.1, .int .i64 q.2.2.2]
theorem flatM_len (ms : List (Int × Int × Int × Int)) : (flatM ms).length = ms.length * 4 := by
  induction ms with
  | nil => rfl
  | cons q ms ih =>
    unfold flatM at ih ⊢
    simp only [List.flatMap_cons, List.length_append, ih, List.length_cons, List.length_nil]
    omega
theorem flatM_append (ms rs : List (Int × Int × Int × Int)) : flatM (ms ++ rs) = flatM ms ++ flatM rs := by simp [flatM]
theorem flatM_get : ∀ (ms : List (Int × Int × Int × Int)) (i : Nat), i < ms.length → (flatM ms)[i * 4]? = some (.int .i64 (ms.getD i (0, 0, 0, 0)).1) ∧ (flatM ms)[i * 4 + 1]? = some (.int .i64 (ms.getD i (0, 0, 0, 0)).2.1) ∧ (flatM ms)[i * 4 + 2]? = some (.int .i64 (ms.getD i (0, 0, 0, 0)).2.2.1) ∧ (flatM ms)[i * 4 + 3]? = some (.int .i64 (ms.getD i (0, 0, 0, 0)).2.2.2)
  | [], i, h => by simp at h
  | q :: ms, 0, _ => by simp [flatM]
  | q :: ms, i + 1, h => by
    obtain ⟨h1, h2, h3, h4⟩ := flatM_get ms i (by simpa using h)
    have e : ∀ j, (flatM (q :: ms))[j + 4]? = (flatM ms)[j]? := fun j => by simp [flatM]
    rw [show (i + 1) * 4 = i * 4 + 4 by omega, show i * 4 + 4 + 1 = (i * 4 + 1) + 4 by omega, show i * 4 + 4 + 2 = (i * 4 + 2) + 4 by omega, show i * 4 + 4 + 3 = (i * 4 + 3) + 4 by omega, e, e, e, e]
    simpa using ⟨h1, h2, h3, h4⟩
theorem RowM.of_own {w : World} {base : Nat} {e : TypeId} {a : Option Addr} {n m cap : Nat} {ms : List (Int × Int × Int × Int)} (h : w.ownsRow base e 4 (.slice a m cap) n (flatM ms)) (hn : n = ms.length) : RowM w a ms := by
  obtain ⟨hl, h⟩ := h
  rcases h with ⟨h1, rfl⟩ | ⟨g, cap, cur, hv, hg, hh, hn2, hm, hs, ht⟩
  · exact .inl (List.length_eq_zero_iff.1 hn.symm)
  · cases hv
    refine .inr ⟨g, 0, rfl, (Array.getElem?_eq_some_iff.1 hh).1, fun i hi => ?_⟩
    obtain ⟨f1, f2, f3, f4⟩ := flatM_get ms i hi
    have key : ∀ j, j < n * 4 → w.cell? ⟨g, 0 + j, none⟩ = (flatM ms)[j]? := fun j hj => by
      have h1 : w.cell? ⟨g, 0 + j, none⟩ = cur[j]? := by simp [World.cell?, hh]
      have h2 : (cur.toList.take (n * 4))[j]? = cur.toList[j]? := by rw [List.getElem?_take]; rw [if_pos hj]
      rw [h1, ← Array.getElem?_toList, ← h2, ht]
    refine ⟨(key (i * 4) (by omega)).trans f1, ?_, ?_, ?_⟩
    · rw [Nat.add_assoc]; exact (key (i * 4 + 1) (by omega)).trans f2
    · rw [Nat.add_assoc]; exact (key (i * 4 + 2) (by omega)).trans f3
    · rw [Nat.add_assoc]; exact (key (i * 4 + 3) (by omega)).trans f4
theorem infoMatch : (Try.prog.info? 32).map (fun i => (i.zero, i.size, i.bytes)) = some (some (.agg #[.int .i64 0, .int .i64 0, .int .i64 0, .int .i64 0]), 4, 32) := by kernel_rfl
end Go.Proofs.Ytammacofhdbgcaa
