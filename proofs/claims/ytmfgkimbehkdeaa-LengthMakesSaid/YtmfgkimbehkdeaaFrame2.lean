/-
  What opens the arguments of a statement: slices of integers and of truth values, strings; as a walk is told of them. No walk.
-/
import Derived.Test.YtmfgkimbehkdeaaRows
import Derived.Test.YtmfgkimbehkdeaaFrame
import Derived.Test.YtmfgkimbehkdeaaGBase
import Derived.Deep.Grids
import Derived.ProofKit
import Derived.OpenShut
namespace Go.Proofs.Ytmfgkimbehkdeaa
open Go.ChangeShapes Go.WideShapes Go.ChangeAt Go.RowKit Go.Deep
set_option linter.unusedSimpArgs false
set_option linter.unusedVariables false
theorem cell_spot {w : World} {a : Addr} {v : Value} (h : w.cell? a = some v) : a.spot = none ∧ a.block < w.heap.size := by
  unfold World.cell? at h
  cases ho : w.heap[a.block]? with
  | none => simp [ho] at h
  | some o =>
    refine ⟨?_, (Array.getElem?_eq_some_iff.1 ho).1⟩
    cases o <;> simp [ho] at h
    exact h.1
section
variable {H : Type} {enc : TypeId × Value → H} {P : Program} {w : World} {base : Nat} {spare : Nat → Bool} {held : Bool}
theorem open_row {r : Reach} {b0 : Nat} {t e : TypeId} {k : IntKind} {v : Value} {d : DataW H} {p : List MemPlace} (ht : P.underlying t = some (.slice e)) (he : P.underlying e = some (.int k)) (hc : P.cellsOf e = 1)
    (hv : Value.okWide P w r b0 t v) (h : DataW.Trod enc P w base (fun _ => true) held t v d p) :
    ∃ (a : Option Addr) (xs : List Int) (cap : Nat), v = .slice a xs.length cap ∧ Row k w a xs ∧ (∀ n ∈ xs, (Lit.int k n).wf = true) ∧ xs.length ≤ maxLen := by
  obtain ⟨a, len, cap, rfl⟩ := okWide_slice ht hv
  obtain ⟨fuel, hf⟩ := h
  rcases open_ints ht he hc hf with ⟨hcs, _⟩ | ⟨x, l, c, zs, hcs, _, hl, hm, hz, _, hcell, hwz⟩
  · simp [Value.cells] at hcs
    obtain ⟨rfl, rfl, rfl⟩ := hcs
    exact ⟨none, [], 0, rfl, .inl rfl, by simp, by simp⟩
  · simp [Value.cells] at hcs
    obtain ⟨rfl, rfl, rfl⟩ := hcs
    simp at hz
    have hlen : (zs.take len).length = len := by simp; omega
    refine ⟨some x, zs.take len, cap, by rw [hlen], ?_, fun n hn => hwz n (List.mem_of_mem_take hn), by rw [hlen]; exact Nat.le_trans hl hm⟩
    by_cases h0 : len = 0
    · left; subst h0; rfl
    · right
      have hs := cell_spot (hcell 0 (by omega))
      obtain ⟨b, off, sp⟩ := x
      have hsp : sp = none := hs.1
      subst hsp
      refine ⟨b, off, rfl, hs.2, fun i hi => ?_⟩
      rw [hlen] at hi
      have := hcell i (by omega)
      simp only [Addr.add_lit] at this
      rw [this, List.getD_eq_getElem?_getD, List.getD_eq_getElem?_getD, List.getElem?_take, if_pos hi]
theorem open_rowB {r : Reach} {b0 : Nat} {t e : TypeId} {v : Value} {d : DataW H} {p : List MemPlace} (ht : P.underlying t = some (.slice e)) (he : P.underlying e = some .bool) (hc : P.cellsOf e = 1)
    (hv : Value.okWide P w r b0 t v) (h : DataW.Trod enc P w base (fun _ => true) held t v d p) :
    ∃ (a : Option Addr) (xs : List Bool) (cap : Nat), v = .slice a xs.length cap ∧ RowB w a xs ∧ xs.length ≤ maxLen := by
  obtain ⟨a, len, cap, rfl⟩ := okWide_slice ht hv
  obtain ⟨fuel, hf⟩ := h
  rcases open_bools ht he hc hf with ⟨hcs, _⟩ | ⟨x, l, c, B, hcs, _, hl, hm, _, hcell⟩
  · simp [Value.cells] at hcs
    obtain ⟨rfl, rfl, rfl⟩ := hcs
    exact ⟨none, [], 0, rfl, .inl rfl, by simp⟩
  · simp [Value.cells] at hcs
    obtain ⟨rfl, rfl, rfl⟩ := hcs
    have hlen : ((List.range len).map B).length = len := by simp
    refine ⟨some x, (List.range len).map B, cap, by rw [hlen], ?_, by rw [hlen]; exact Nat.le_trans hl hm⟩
    by_cases h0 : len = 0
    · left; subst h0; rfl
    · right
      have hs := cell_spot (hcell 0 (by omega))
      obtain ⟨b, off, sp⟩ := x
      have hsp : sp = none := hs.1
      subst hsp
      refine ⟨b, off, rfl, hs.2, fun i hi => ?_⟩
      rw [hlen] at hi
      have := hcell i (by omega)
      simp only [Addr.add_lit] at this
      rw [this]
      simp [hi]
end
end Go.Proofs.Ytmfgkimbehkdeaa
