/-
  What opens an argument that is a match, or a slice of matches.
-/
import Derived.Test.YtammacofhdbgcaaRows
import Derived.Test.YtammacofhdbgcaaCommon
import Derived.Test.YtammacofhdbgcaaFrame
import Derived.Test.YtammacofhdbgcaaMatch3
import Derived.Test.YtammacofhdbgcaaKnSame
import Derived.Test.YtammacofhdbgcaaFrame2
import Derived.ProofKit
import Derived.Deep.Slices
import Derived.Deep.Fields
import Derived.OpenShut
namespace Go.Proofs.Ytammacofhdbgcaa
open Go.ChangeShapes Go.WideShapes Go.ChangeAt Go.RowKit Go.Deep
set_option linter.unusedSimpArgs false
set_option linter.unusedVariables false

section
variable {H : Type} {enc : TypeId × Value → H} {P : Program} {w : World} {base : Nat} {spare : Nat → Bool} {held : Bool}
def numAtM (w : World) (a : Addr) : Int := match w.cell? a with | some (.int _ n) => n | _ => 0
theorem open_one4 {e k : TypeId} {fs : Array Field} {fuel : Nat} {a : Addr} {cs : List Value} {x : DataW H × List MemPlace} (he : P.underlying e = some (.struct fs)) (hone : oneCellFields P fs = true) (hn : fs.size = 4) (hk : ∀ (j : Nat) (f : Field), fs[j]? = some f → f.type = k) (hi : P.underlying k = some (.int .i64))
    (hc : w.cells? base a 4 = some cs) (h : DataW.trod enc P w base spare held fuel e cs = some x) : ∀ j, j < 4 → w.cell? (a.add j) = some (.int .i64 (numAtM w (a.add j))) := by
  intro j hj
  obtain ⟨_, hl, hat⟩ := World.cells?_some hc
  obtain ⟨ys, m, _, _, _, hyl, hf⟩ := DataW.trod_struct he h
  have hfj : fs[j]? = some (fs[j]'(by omega)) := Array.getElem?_eq_getElem _
  obtain ⟨ho, h1⟩ := hone_of hone j _ hfj
  have h2 := hf j _ hfj
  have hcj : cs[j]? = some (cs[j]'(by omega)) := List.getElem?_eq_getElem _
  have hyj : ys[j]? = some (ys[j]'(by omega)) := List.getElem?_eq_getElem _
  have h3 : (cs.drop j).take 1 = [cs[j]'(by omega)] := by
    rw [List.drop_eq_getElem_cons (by omega)]
    rfl
  rw [ho, h1, h3, hyj, hk j _ hfj] at h2
  obtain ⟨n, h4, _⟩ := DataW.trod_int hi h2
  have h5 := hat j hj
  rw [hcj] at h5
  simp only [List.cons.injEq, and_true] at h4
  rw [h4] at h5
  unfold numAtM
  rw [h5]
def quadAt (w : World) (x : Addr) (i : Nat) : Int × Int × Int × Int := (numAtM w ((x.add (i * 4)).add 0), numAtM w ((x.add (i * 4)).add 1), numAtM w ((x.add (i * 4)).add 2), numAtM w ((x.add (i * 4)).add 3))
theorem open_quads {r : Reach} {b0 : Nat} {t e k : TypeId} {fs : Array Field} {v : Value} {d : DataW H} {p : List MemPlace} (ht : P.underlying t = some (.slice e)) (he : P.underlying e = some (.struct fs)) (hone : oneCellFields P fs = true) (hn : fs.size = 4) (hk : ∀ (j : Nat) (f : Field), fs[j]? = some f → f.type = k) (hi : P.underlying k = some (.int .i64)) (hC : P.cellsOf e = 4)
    (hv : Value.okWide P w r b0 t v) (h : DataW.Trod enc P w base (fun _ => true) held t v d p) :
    ∃ (a : Option Addr) (qs : List (Int × Int × Int × Int)) (cap : Nat), v = .slice a qs.length cap ∧ RowM w a qs ∧ qs.length ≤ maxLen := by
  obtain ⟨a, len, cap, rfl⟩ := okWide_slice ht hv
  obtain ⟨fuel, hf⟩ := h
  rcases open_slice ht hf with ⟨hcs, _⟩ | ⟨x, l, c, m, n, D, Pl, hcs, _, hl, hm, hmm, _, hel⟩
  · simp [Value.cells] at hcs
    obtain ⟨rfl, rfl, rfl⟩ := hcs
    exact ⟨none, [], 0, rfl, .inl rfl, by simp⟩
  · simp [Value.cells] at hcs
    obtain ⟨rfl, rfl, rfl⟩ := hcs
    simp at hmm
    have hlen : ((List.range len).map (quadAt w x)).length = len := by simp
    have each : ∀ i, i < len → ∀ j, j < 4 → w.cell? ((x.add (i * 4)).add j) = some (.int .i64 (numAtM w ((x.add (i * 4)).add j))) := by
      intro i hil
      obtain ⟨cs', hc, ht'⟩ := hel i (by omega)
      rw [hC] at hc
      exact open_one4 he hone hn hk hi hc ht'
    refine ⟨some x, (List.range len).map (quadAt w x), cap, by rw [hlen], ?_, by rw [hlen]; exact Nat.le_trans hl hm⟩
    by_cases h0 : len = 0
    · left; subst h0; rfl
    · right
      have hs := cell_spot (each 0 (by omega) 0 (by omega))
      obtain ⟨b, off, sp⟩ := x
      have hsp : sp = none := by
        have := hs.1
        cases sp <;> simp_all [Addr.add]
      subst hsp
      refine ⟨b, off, rfl, by simpa [Addr.add_lit] using hs.2, fun i hi2 => ?_⟩
      rw [hlen] at hi2
      have h1 := each i hi2 0 (by omega)
      have h2 := each i hi2 1 (by omega)
      have h3 := each i hi2 2 (by omega)
      have h4 := each i hi2 3 (by omega)
      simp only [Addr.add_lit] at h1 h2 h3 h4
      simp only [Nat.add_zero] at h1
      have hg : ((List.range len).map (quadAt w ⟨b, off, none⟩)).getD i (0, 0, 0, 0) = (numAtM w ⟨b, off + i * 4, none⟩, numAtM w ⟨b, off + i * 4 + 1, none⟩, numAtM w ⟨b, off + i * 4 + 2, none⟩, numAtM w ⟨b, off + i * 4 + 3, none⟩) := by
        simp [List.getD_eq_getElem?_getD, hi2, Addr.add_lit, quadAt]
      rw [hg]
      exact ⟨h1, h2, h3, h4⟩
end
theorem match_fields : ∃ fs : Array Field, Try.prog.underlying 32 = some (.struct fs) ∧ oneCellFields Try.prog fs = true ∧ fs.size = 4 ∧ ∀ (j : Nat) (f : Field), fs[j]? = some f → f.type = 3 := by
  refine ⟨_, Try.underlying32, by kernel_rfl, rfl, ?_⟩
  intro j f h
  rcases j with _ | _ | _ | _ | j
  · simp at h; rw [← h]
  · simp at h; rw [← h]
  · simp at h; rw [← h]
  · simp at h; rw [← h]
  · simp at h
set_option maxRecDepth 100000 in
theorem open_ms {H : Type} {enc : TypeId × Value → H} {w : World} {base : Nat} {held : Bool} {r : Reach} {b0 : Nat} {v : Value} {d : DataW H} {p : List MemPlace}
    (hv : Value.okWide Try.prog w r b0 27 v) (h : DataW.Trod enc Try.prog w base (fun _ => true) held 27 v d p) :
    ∃ (a : Option Addr) (qs : List (Int × Int × Int × Int)) (cap : Nat), v = .slice a qs.length cap ∧ RowM w a qs ∧ qs.length ≤ maxLen := by
  obtain ⟨fs, h1, h2, h3, h4⟩ := match_fields
  exact open_quads Try.underlying27 h1 h2 h3 h4 Try.underlying3 (by kernel_rfl) hv h
set_option maxRecDepth 100000 in
theorem open_m {H : Type} {enc : TypeId × Value → H} {w : World} {base : Nat} {spare : Nat → Bool} {held : Bool} {r : Reach} {b0 : Nat} {v : Value} {d : DataW H} {p : List MemPlace}
    (hv : Value.okWide Try.prog w r b0 32 v) (h : DataW.Trod enc Try.prog w base spare held 32 v d p) :
    ∃ (x y z u : Int), v = .agg #[.int .i64 x, .int .i64 y, .int .i64 z, .int .i64 u] ∧ True := by
  obtain ⟨fs, h1, h2, h3, h4⟩ := match_fields
  obtain ⟨cs, n, rfl, hsz, hf⟩ := open_fields h1 h2 (by rw [h3]; kernel_rfl) hv h
  rw [h3] at hsz
  obtain ⟨c0, c1, c2, c3, rfl⟩ : ∃ c0 c1 c2 c3, cs = #[c0, c1, c2, c3] := by
    obtain ⟨l⟩ := cs
    match l, hsz with
    | [c0, c1, c2, c3], _ => exact ⟨c0, c1, c2, c3, rfl⟩
  have key : ∀ (j : Nat) (c : Value), j < 4 → (#[c0, c1, c2, c3] : Array Value)[j]? = some c → ∃ m, c = .int .i64 m := by
    intro j c hj hc
    have hfj : fs[j]? = some (fs[j]'(by omega)) := Array.getElem?_eq_getElem _
    obtain ⟨y, hy⟩ := hf j _ c hfj hc
    rw [h4 j _ hfj] at hy
    obtain ⟨m, h5, _⟩ := DataW.trod_int Try.underlying3 hy
    simp only [List.cons.injEq, and_true] at h5
    exact ⟨m, h5⟩
  obtain ⟨x, rfl⟩ := key 0 c0 (by omega) rfl
  obtain ⟨y, rfl⟩ := key 1 c1 (by omega) rfl
  obtain ⟨z, rfl⟩ := key 2 c2 (by omega) rfl
  obtain ⟨u, rfl⟩ := key 3 c3 (by omega) rfl
  exact ⟨x, y, z, u, rfl, trivial⟩
end Go.Proofs.Ytammacofhdbgcaa
