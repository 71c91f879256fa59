/-
  Slices of integers that are read: what a walk is told of them, and that it lasts. And the comparison of two lists, walked.
-/
import Derived.Test.YtammacofhdbgcaaRows
import Derived.Test.YtammacofhdbgcaaCommon
import Derived.Deep.Light
namespace Go.Proofs.Ytammacofhdbgcaa
open Go.RowKit
set_option linter.unusedSimpArgs false
set_option linter.unusedVariables false
/-- The slice's address leads to a row whose first cells are these integers (nothing is said of the address of an empty list). -/
def Row (k : IntKind) (w : World) (a : Option Addr) (xs : List Int) : Prop :=
  xs = [] ∨ ∃ b off, a = some ⟨b, off, none⟩ ∧ b < w.heap.size ∧ ∀ i, i < xs.length → w.cell? ⟨b, off + i, none⟩ = some (.int k (xs.getD i 0))
theorem Row.nil (k : IntKind) (w : World) (a : Option Addr) : Row k w a [] := .inl rfl
theorem Row.later {k : IntKind} {w w' : World} {a : Option Addr} {xs : List Int} (h : Row k w a xs) (hb : Below w.heap.size w w') : Row k w' a xs := by
  rcases h with h | ⟨b, off, ha, hlt, hc⟩
  · exact .inl h
  · exact .inr ⟨b, off, ha, Nat.lt_of_lt_of_le hlt hb.size, fun i hi => (hb.cell (p := ⟨b, off + i, none⟩) hlt).trans (hc i hi)⟩
theorem Row.drewN {k : IntKind} {w : World} {a : Option Addr} {xs : List Int} (h : Row k w a xs) (n : Nat) : Row k (w.drewN n) a xs := h.later (below_drewN (Below.refl _ _) n)
theorem Row.at {k : IntKind} {w : World} {a : Option Addr} {xs : List Int} (h : Row k w a xs) {i : Nat} (hi : i < xs.length) :
    ∃ b off, a = some ⟨b, off, none⟩ ∧ b < w.heap.size ∧ ∀ i, i < xs.length → w.cell? ⟨b, off + i, none⟩ = some (.int k (xs.getD i 0)) := by
  rcases h with h | h
  · subst h; simp at hi
  · exact h
/-- What is owned stays owned where nothing below has turned. -/
theorem ownsRow_later {w w' : World} {base : Nat} {e : TypeId} {size : Nat} {v : Value} {n : Nat} {xs : List Value} (h : w.ownsRow base e size v n xs) (hb : Below w.heap.size w w') : w'.ownsRow base e size v n xs := by
  obtain ⟨h1, h2⟩ := h
  refine ⟨h1, ?_⟩
  rcases h2 with h2 | ⟨g, cap, cur, hv, hg, hh, r⟩
  · exact .inl h2
  · exact .inr ⟨g, cap, cur, hv, hg, by rw [hb.block g (Array.getElem?_eq_some_iff.1 hh).1]; exact hh, r⟩
/-- What an owned row is, as a row that is read. -/
theorem Row.of_own {k : IntKind} {w : World} {base : Nat} {e : TypeId} {v : Value} {n : Nat} {xs : List Int} (h : w.ownsRow base e 1 v n (xs.map (Value.int k))) :
    ∃ a cap, v = .slice a xs.length cap ∧ n = xs.length ∧ Row k w a xs := by
  obtain ⟨hl, h⟩ := h
  simp at hl
  rcases h with ⟨rfl, rfl⟩ | ⟨g, cap, cur, rfl, hg, hh, hn, hm, hs, ht⟩
  · have : xs = [] := by simpa using hl
    subst this
    exact ⟨none, 0, rfl, rfl, .inl rfl⟩
  · refine ⟨_, cap, by rw [hl], hl.symm, .inr ⟨g, 0, rfl, (Array.getElem?_eq_some_iff.1 hh).1, fun i hi => ?_⟩⟩
    have h1 : w.cell? ⟨g, 0 + i, none⟩ = cur[i]? := by simp [World.cell?, hh]
    rw [h1, ← Array.getElem?_toList]
    have h2 : (cur.toList.take (n * 1))[i]? = cur.toList[i]? := by rw [List.getElem?_take]; rw [if_pos (by omega)]
    rw [← h2, ht]
    simp [hi]
theorem Row.of_own_slice {k : IntKind} {w : World} {base : Nat} {e : TypeId} {a : Option Addr} {n m cap : Nat} {xs : List Int} (h : w.ownsRow base e 1 (.slice a m cap) n (xs.map (Value.int k))) : Row k w a xs := by
  obtain ⟨a', cap', hv, _, hr⟩ := Row.of_own h
  cases hv
  exact hr
/-- Equal so far. -/
theorem take_succ_eq {xs ys : List Int} {k : Nat} (h : xs.take k = ys.take k) (hx : k < xs.length) (hy : k < ys.length) (he : xs.getD k 0 = ys.getD k 0) : xs.take (k + 1) = ys.take (k + 1) := by
  rw [List.take_succ_eq_append_getElem hx, List.take_succ_eq_append_getElem hy, h]
  simp [hx, hy] at he
  rw [he]
end Go.Proofs.Ytammacofhdbgcaa
