/-
  Sequences as the cells of a list of one's own.
-/
import Derived.Test.YtmblpmaelglnpaaDoorRows
import Derived.Test.YtmblpmaelglnpaaDoorRepsRunIter
import Derived.Test.YtmblpmaelglnpaaDoorGBase
import Derived.Deep.Light
import Derived.Shelf.Abstract
import Derived.Shelf.RegionOpen
import Derived.OwnWalkIn
import Derived.TacticsInMore
import Derived.LoopNIn
import Derived.LoopIn
namespace Go.Proofs.YtmblpmaelglnpaaDoor
open Go.RowKit
set_option linter.unusedSimpArgs false
set_option linter.unusedVariables false
open Go.Shelf
attribute [local go_sem] Oper.semAt_some
/-- The cells of sequences. -/
def flat (qs : List (Int × Int × Int)) : List Value := qs.flatMap fun q => [.int .i64 q.1, .int .i64 q.2.1, .int .i64 q.2.2]
theorem flat_len (qs : List (Int × Int × Int)) : (flat qs).length = qs.length * 3 := by
  induction qs with
  | nil => rfl
  | cons q qs ih =>
    unfold flat at ih ⊢
    simp only [List.flatMap_cons, List.length_append, ih, List.length_cons, List.length_nil]
    omega
theorem flat_append (qs rs : List (Int × Int × Int)) : flat (qs ++ rs) = flat qs ++ flat rs := by simp [flat]
theorem flat_get : ∀ (qs : List (Int × Int × Int)) (i : Nat), i < qs.length → (flat qs)[i * 3]? = some (.int .i64 (qs.getD i (0, 0, 0)).1) ∧ (flat qs)[i * 3 + 1]? = some (.int .i64 (qs.getD i (0, 0, 0)).2.1) ∧ (flat qs)[i * 3 + 2]? = some (.int .i64 (qs.getD i (0, 0, 0)).2.2)
  | [], i, h => by simp at h
  | q :: qs, 0, _ => by simp [flat]
  | q :: qs, i + 1, h => by
    obtain ⟨h1, h2, h3⟩ := flat_get qs i (by simpa using h)
    have e : ∀ j, (flat (q :: qs))[j + 3]? = (flat qs)[j]? := fun j => by simp [flat]
    rw [show (i + 1) * 3 = i * 3 + 3 by omega, show i * 3 + 3 + 1 = (i * 3 + 1) + 3 by omega, show i * 3 + 3 + 2 = (i * 3 + 2) + 3 by omega, e, e, e]
    simpa using ⟨h1, h2, h3⟩
theorem RowQ.of_own {w : World} {base : Nat} {e : TypeId} {a : Option Addr} {n m cap : Nat} {qs : List (Int × Int × Int)} (h : w.ownsRow base e 3 (.slice a m cap) n (flat qs)) (hn : n = qs.length) : RowQ w a qs := by
  obtain ⟨hl, h⟩ := h
  rcases h with ⟨h1, rfl⟩ | ⟨g, cap, cur, hv, hg, hh, hn2, hm, hs, ht⟩
  · exact .inl (List.length_eq_zero_iff.1 hn.symm)
  · cases hv
    refine .inr ⟨g, 0, rfl, (Array.getElem?_eq_some_iff.1 hh).1, fun i hi => ?_⟩
    obtain ⟨f1, f2, f3⟩ := flat_get qs i hi
    have key : ∀ j, j < n * 3 → w.cell? ⟨g, 0 + j, none⟩ = (flat qs)[j]? := fun j hj => by
      have h1 : w.cell? ⟨g, 0 + j, none⟩ = cur[j]? := by simp [World.cell?, hh]
      have h2 : (cur.toList.take (n * 3))[j]? = cur.toList[j]? := by rw [List.getElem?_take]; rw [if_pos hj]
      rw [h1, ← Array.getElem?_toList, ← h2, ht]
    refine ⟨(key (i * 3) (by omega)).trans f1, ?_, ?_⟩
    · rw [Nat.add_assoc]; exact (key (i * 3 + 1) (by omega)).trans f2
    · rw [Nat.add_assoc]; exact (key (i * 3 + 2) (by omega)).trans f3
theorem own_base3 {w : World} {base s : Nat} {e : TypeId} {v : Value} {n : Nat} {xs : List Value} (h : w.ownsRow base e s v n xs) : ∀ g, v.ownBlock = some g → base ≤ g := by
  intro g hg
  obtain ⟨hl, h⟩ := h
  rcases h with ⟨rfl, rfl⟩ | ⟨g', cap, cur, rfl, hg', hh, _⟩
  · cases hg
  · cases hg; exact hg'
theorem own_cap3 {w : World} {base s : Nat} {e : TypeId} {a : Option Addr} {n m cap : Nat} {xs : List Value} (h : w.ownsRow base e s (.slice a m cap) n xs) : m ≤ cap := by
  rcases h.2 with ⟨h1, rfl⟩ | ⟨g, cap', cur, h1, _, _, h2, _⟩
  · simp at h1; omega
  · simp at h1; omega
theorem infoSeq : (Tryd.prog.info? 35).map (fun i => (i.zero, i.size, i.bytes)) = some (some (.agg #[.int .i64 0, .int .i64 0, .int .i64 0]), 3, 24) := by kernel_rfl
theorem RowQ.keep {B : Nat} {w w' : World} {a : Option Addr} {qs : List (Int × Int × Int)} (h : RowQ w a qs) (hk : Keep B w w') : RowQ w' a qs := by
  rcases h with h | ⟨b, off, ha, hlt, hc⟩
  · exact .inl h
  · refine .inr ⟨b, off, ha, Nat.lt_of_lt_of_le hlt hk.size, fun i hi => ?_⟩
    obtain ⟨h1, h2, h3⟩ := hc i hi
    exact ⟨hk.cell h1, hk.cell h2, hk.cell h3⟩
theorem own_sliceG {w : World} {base z : Nat} {e : TypeId} {v : Value} {n : Nat} {xs : List Value} (h : w.ownsRow base e z v n xs) : ∃ a cap, v = .slice a n cap := by
  rcases h.2 with ⟨rfl, rfl⟩ | ⟨g, cap, cur, rfl, _⟩
  · exact ⟨none, 0, rfl⟩
  · exact ⟨_, cap, rfl⟩
theorem own_cellsG {w : World} {base z : Nat} {e : TypeId} {v : Value} {n : Nat} {xs : List Value} (h : w.ownsRow base e z v n xs) : ∀ g, v.ownBlock = some g → ∃ c t q, w.heap[g]? = some (.cells c t q) := by
  intro g hg
  rcases h.2 with ⟨rfl, rfl⟩ | ⟨g', cap, cur, rfl, _, hh, _⟩
  · cases hg
  · cases hg; exact ⟨_, _, _, hh⟩
theorem own_ltG {w : World} {base z : Nat} {e : TypeId} {v : Value} {n : Nat} {xs : List Value} (h : w.ownsRow base e z v n xs) {g : Nat} (hg : v.ownBlock = some g) : g < w.heap.size := by
  obtain ⟨c, t, q, h⟩ := own_cellsG h g hg
  exact (Array.getElem?_eq_some_iff.1 h).1
end Go.Proofs.YtmblpmaelglnpaaDoor
