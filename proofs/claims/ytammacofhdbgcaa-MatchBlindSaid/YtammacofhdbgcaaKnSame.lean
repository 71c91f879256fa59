/-
  Rows of blocks that are known; the comparison of two equal lists; fields of a struct that came in. No walk.
-/
import Derived.Test.YtammacofhdbgcaaSlice
import Derived.Test.YtammacofhdbgcaaBlk
import Derived.Deep.Slices
import Derived.Deep.Fields
namespace Go.Proofs.Ytammacofhdbgcaa
open Go.RowKit
set_option linter.unusedSimpArgs false
set_option linter.unusedVariables false
theorem Row.of_block {k : IntKind} {w : World} {b : Nat} {cs : Array Value} {e : TypeId} {fr : Nat × Nat} {xs : List Int} (h : w.heap[b]? = some (.cells cs e fr)) (hx : cs = (xs.map (Value.int k)).toArray) : Row k w (some ⟨b, 0, none⟩) xs := by
  refine .inr ⟨b, 0, rfl, (Array.getElem?_eq_some_iff.1 h).1, fun i hi => ?_⟩
  simp [World.cell?, h, hx, hi]
theorem RowB.of_block {w : World} {b : Nat} {cs : Array Value} {e : TypeId} {fr : Nat × Nat} {xs : List Bool} (h : w.heap[b]? = some (.cells cs e fr)) (hx : cs = (xs.map Value.bool).toArray) : RowB w (some ⟨b, 0, none⟩) xs := by
  refine .inr ⟨b, 0, rfl, (Array.getElem?_eq_some_iff.1 h).1, fun i hi => ?_⟩
  simp [World.cell?, h, hx, hi]
theorem add_zero' (a : Addr) : a.add 0 = a := by
  cases a with
  | mk b o s => simp [Addr.add]
/-- s[:m] keeps the address. -/
theorem run_slice_to {P : Program} (w : World) (t e : TypeId) (ht : P.underlying t = some (.slice e)) (sz : Nat) (hsz : (sizeOf e).run P w = .ok sz w) (a : Option Addr) (n c m : Nat) (h : m ≤ c) :
    (Instr.slice t (.slice a n c) none (some (.int .i64 (m : Int))) none).run P w = .ok (.slice a m c) w := by
  have h1 : ((0 : Int) ≤ (m : Int) ∧ (m : Int) ≤ (c : Int)) := by omega
  have h2 : (if c = 0 then a else a.map (·.add (0 * sz))) = a := by
    split
    · rfl
    · cases a <;> simp [add_zero']
  simp [Instr.slice, Instr.sliceBounds, Instr.sliceBound, asIntOf, run_underlying ht, Result.andThen, hsz, h]
  simpa using h2
theorem Row.laterOf {W : World} {x : Later W} {k : IntKind} {a : Option Addr} {xs : List Int} (h : Row k W a xs) : Row k x.w a xs := h.later x.2
section
open Go.ChangeShapes Go.WideShapes Go.Deep
variable {H : Type} {enc : TypeId × Value → H} {P : Program} {w : World} {base : Nat} {spare : Nat → Bool} {held : Bool}
/-- The fields, one cell each, of a struct that came in. -/
theorem open_fields {r : Reach} {b0 : Nat} {t : TypeId} {fs : Array Field} {v : Value} {d : DataW H} {p : List MemPlace} (hs : P.underlying t = some (.struct fs)) (hone : oneCellFields P fs = true) (hC : P.cellsOf t = fs.size)
    (hv : Value.okWide P w r b0 t v) (h : DataW.Trod enc P w base spare held t v d p) :
    ∃ (cs : Array Value) (n : Nat), v = .agg cs ∧ cs.size = fs.size ∧ ∀ (j : Nat) (f : Field) (c : Value), fs[j]? = some f → cs[j]? = some c → ∃ y, DataW.trod enc P w base spare held n f.type [c] = some y := by
  obtain ⟨cs, rfl, hsz⟩ := okWide_struct hs hv
  obtain ⟨fuel, hf⟩ := h
  obtain ⟨xs, n, _, _, _, _, hg⟩ := DataW.trod_struct hs hf
  refine ⟨cs, n, rfl, by rw [hsz, hC], fun j f c hj hc => ?_⟩
  obtain ⟨o, k⟩ := hone_of hone j f hj
  have h1 := hg j f hj
  rw [o, k] at h1
  obtain ⟨hjl, hce⟩ := Array.getElem?_eq_some_iff.1 hc
  have h2 : ((Value.agg cs).cells.toList.drop j).take 1 = [c] := by
    simp only [Value.cells]
    rw [List.drop_eq_getElem_cons (by simpa using hjl)]
    simp [hce]
  rw [h2] at h1
  have hjx : j < xs.length := by
    have := (Array.getElem?_eq_some_iff.1 hj).1
    omega
  exact ⟨xs[j], by rw [h1]; exact List.getElem?_eq_getElem hjx⟩
end
end Go.Proofs.Ytammacofhdbgcaa
