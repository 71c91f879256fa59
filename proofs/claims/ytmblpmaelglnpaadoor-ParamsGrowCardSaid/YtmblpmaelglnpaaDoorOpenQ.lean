/-
  What opens an argument that is a slice of sequences, or parameters.
-/
import Derived.Test.YtmblpmaelglnpaaDoorRows
import Derived.Test.YtmblpmaelglnpaaDoorGBase
import Derived.Test.YtmblpmaelglnpaaDoorFrame
import Derived.Test.YtmblpmaelglnpaaDoorFlat
import Derived.Test.YtmblpmaelglnpaaDoorFrame2
import Derived.ProofKit
import Derived.Deep.Slices
import Derived.Deep.Fields
import Derived.OpenShut
namespace Go.Proofs.YtmblpmaelglnpaaDoor
open Go.ChangeShapes Go.WideShapes Go.ChangeAt Go.RowKit Go.Deep
set_option linter.unusedSimpArgs false
set_option linter.unusedVariables false
section
variable {H : Type} {enc : TypeId × Value → H} {P : Program} {w : World} {base : Nat} {spare : Nat → Bool} {held : Bool}
/-- The number that lies in a cell. -/
def numAt (w : World) (a : Addr) : Int := match w.cell? a with | some (.int _ n) => n | _ => 0
/-- One sequence, three cells. -/
theorem open_seq {e k : TypeId} {fs : Array Field} {fuel : Nat} {a : Addr} {cs : List Value} {x : DataW H × List MemPlace} (he : P.underlying e = some (.struct fs)) (hone : oneCellFields P fs = true) (hn : fs.size = 3) (hk : ∀ (j : Nat) (f : Field), fs[j]? = some f → f.type = k) (hi : P.underlying k = some (.int .i64))
    (hc : w.cells? base a 3 = some cs) (h : DataW.trod enc P w base spare held fuel e cs = some x) : ∀ j, j < 3 → w.cell? (a.add j) = some (.int .i64 (numAt w (a.add j))) := by
  intro j hj
  obtain ⟨_, hl, hat⟩ := World.cells?_some hc
  obtain ⟨ys, m, _, _, _, hyl, hf⟩ := DataW.trod_struct he h
  have hfj : fs[j]? = some (fs[j]'(by omega)) := Array.getElem?_eq_getElem _
  obtain ⟨ho, h1⟩ := hone_of hone j _ hfj
  have h2 := hf j _ hfj
  have hcj : cs[j]? = some (cs[j]'(by omega)) := List.getElem?_eq_getElem _
  have hyj : ys[j]? = some (ys[j]'(by omega)) := List.getElem?_eq_getElem _
  have h3 : (cs.drop j).take 1 = [cs[j]'(by omega)] := by
    rw [List.drop_eq_getElem_cons (by omega)]
    rfl
  rw [ho, h1, h3, hyj, hk j _ hfj] at h2
  obtain ⟨n, h4, _⟩ := DataW.trod_int hi h2
  have h5 := hat j hj
  rw [hcj] at h5
  simp only [List.cons.injEq, and_true] at h4
  rw [h4] at h5
  unfold numAt
  rw [h5]
theorem open_seqs {r : Reach} {b0 : Nat} {t e k : TypeId} {fs : Array Field} {v : Value} {d : DataW H} {p : List MemPlace} (ht : P.underlying t = some (.slice e)) (he : P.underlying e = some (.struct fs)) (hone : oneCellFields P fs = true) (hn : fs.size = 3) (hk : ∀ (j : Nat) (f : Field), fs[j]? = some f → f.type = k) (hi : P.underlying k = some (.int .i64)) (hC : P.cellsOf e = 3)
    (hv : Value.okWide P w r b0 t v) (h : DataW.Trod enc P w base (fun _ => true) held t v d p) :
    ∃ (a : Option Addr) (qs : List (Int × Int × Int)) (cap : Nat), v = .slice a qs.length cap ∧ RowQ w a qs ∧ qs.length ≤ maxLen := by
  obtain ⟨a, len, cap, rfl⟩ := okWide_slice ht hv
  obtain ⟨fuel, hf⟩ := h
  rcases open_slice ht hf with ⟨hcs, _⟩ | ⟨x, l, c, m, n, D, Pl, hcs, _, hl, hm, hmm, _, hel⟩
  · simp [Value.cells] at hcs
    obtain ⟨rfl, rfl, rfl⟩ := hcs
    exact ⟨none, [], 0, rfl, .inl rfl, by simp⟩
  · simp [Value.cells] at hcs
    obtain ⟨rfl, rfl, rfl⟩ := hcs
    simp at hmm
    have hlen : ((List.range len).map fun i => (numAt w ((x.add (i * 3)).add 0), numAt w ((x.add (i * 3)).add 1), numAt w ((x.add (i * 3)).add 2))).length = len := by simp
    have each : ∀ i, i < len → ∀ j, j < 3 → w.cell? ((x.add (i * 3)).add j) = some (.int .i64 (numAt w ((x.add (i * 3)).add j))) := by
      intro i hil
      obtain ⟨cs', hc, ht'⟩ := hel i (by omega)
      rw [hC] at hc
      exact open_seq he hone hn hk hi hc ht'
    refine ⟨some x, (List.range len).map fun i => (numAt w ((x.add (i * 3)).add 0), numAt w ((x.add (i * 3)).add 1), numAt w ((x.add (i * 3)).add 2)), cap, by rw [hlen], ?_, by rw [hlen]; exact Nat.le_trans hl hm⟩
    by_cases h0 : len = 0
    · left; subst h0; rfl
    · right
      have hs := cell_spot (each 0 (by omega) 0 (by omega))
      obtain ⟨b, off, sp⟩ := x
      have hsp : sp = none := by
        have := hs.1
        cases sp <;> simp_all [Addr.add]
      subst hsp
      refine ⟨b, off, rfl, by simpa [Addr.add_lit] using hs.2, fun i hi2 => ?_⟩
      rw [hlen] at hi2
      have h1 := each i hi2 0 (by omega)
      have h2 := each i hi2 1 (by omega)
      have h3 := each i hi2 2 (by omega)
      simp only [Addr.add_lit] at h1 h2 h3
      simp only [Nat.add_zero] at h1
      have hg : ((List.range len).map fun i => (numAt w ((⟨b, off, none⟩ : Addr).add (i * 3) |>.add 0), numAt w ((⟨b, off, none⟩ : Addr).add (i * 3) |>.add 1), numAt w ((⟨b, off, none⟩ : Addr).add (i * 3) |>.add 2))).getD i (0, 0, 0) = (numAt w ⟨b, off + i * 3, none⟩, numAt w ⟨b, off + i * 3 + 1, none⟩, numAt w ⟨b, off + i * 3 + 2, none⟩) := by
        simp [List.getD_eq_getElem?_getD, hi2, Addr.add_lit]
      rw [hg]
      exact ⟨h1, h2, h3⟩
end

theorem seq_fields : ∃ fs : Array Field, Tryd.prog.underlying 35 = some (.struct fs) ∧ oneCellFields Tryd.prog fs = true ∧ fs.size = 3 ∧ ∀ (j : Nat) (f : Field), fs[j]? = some f → f.type = 3 := by
  refine ⟨_, Tryd.underlying35, by kernel_rfl, rfl, ?_⟩
  intro j f h
  rcases j with _ | _ | _ | j
  · simp at h; rw [← h]
  · simp at h; rw [← h]
  · simp at h; rw [← h]
  · simp at h
set_option maxRecDepth 100000 in
theorem open_qs {H : Type} {enc : TypeId × Value → H} {w : World} {base : Nat} {held : Bool} {r : Reach} {b0 : Nat} {v : Value} {d : DataW H} {p : List MemPlace}
    (hv : Value.okWide Tryd.prog w r b0 22 v) (h : DataW.Trod enc Tryd.prog w base (fun _ => true) held 22 v d p) :
    ∃ (a : Option Addr) (qs : List (Int × Int × Int)) (cap : Nat), v = .slice a qs.length cap ∧ RowQ w a qs ∧ qs.length ≤ maxLen := by
  obtain ⟨fs, h1, h2, h3, h4⟩ := seq_fields
  exact open_seqs Tryd.underlying22 h1 h2 h3 h4 Tryd.underlying3 (by kernel_rfl) hv h
set_option maxRecDepth 100000 in
theorem prm_fields : ∃ fs : Array Field, Tryd.prog.underlying 58 = some (.struct fs) ∧ oneCellFields Tryd.prog fs = true ∧ fs.size = 6 ∧ fs.map (fun f => f.type) = #[3, 3, 3, 3, 4, 4] :=
  ⟨_, Tryd.underlying58, by kernel_rfl, rfl, by kernel_rfl⟩
set_option maxRecDepth 100000 in
theorem open_params {H : Type} {enc : TypeId × Value → H} {w : World} {base : Nat} {spare : Nat → Bool} {held : Bool} {r : Reach} {b0 : Nat} {v : Value} {d : DataW H} {p : List MemPlace}
    (hv : Value.okWide Tryd.prog w r b0 58 v) (h : DataW.Trod enc Tryd.prog w base spare held 58 v d p) :
    ∃ (L W J O : Int) (sy ch : Bool), v = .agg #[.int .i64 L, .int .i64 W, .int .i64 J, .int .i64 O, .bool sy, .bool ch] ∧ ((Lit.int .i64 L).wf = true ∧ (Lit.int .i64 W).wf = true ∧ (Lit.int .i64 J).wf = true ∧ (Lit.int .i64 O).wf = true) := by
  obtain ⟨fs, h1, h2, h3, h4⟩ := prm_fields
  obtain ⟨cs, n, rfl, hsz, hf⟩ := open_fields h1 h2 (by rw [h3]; kernel_rfl) hv h
  rw [h3] at hsz
  obtain ⟨c0, c1, c2, c3, c4, c5, rfl⟩ : ∃ c0 c1 c2 c3 c4 c5, cs = #[c0, c1, c2, c3, c4, c5] := by
    obtain ⟨l⟩ := cs
    match l, hsz with
    | [c0, c1, c2, c3, c4, c5], _ => exact ⟨c0, c1, c2, c3, c4, c5, rfl⟩
  have tys : ∀ (j : Nat) (t : TypeId), (#[3, 3, 3, 3, 4, 4] : Array TypeId)[j]? = some t → ∃ f, fs[j]? = some f ∧ f.type = t := by
    intro j t ht
    rw [← h4] at ht
    simp at ht
    obtain ⟨f, g1, g2⟩ := ht
    exact ⟨f, g1, g2⟩
  have key : ∀ (j : Nat) (c : Value), (#[3, 3, 3, 3, 4, 4] : Array TypeId)[j]? = some 3 → (#[c0, c1, c2, c3, c4, c5] : Array Value)[j]? = some c → ∃ m, c = .int .i64 m ∧ (Lit.int .i64 m).wf = true := by
    intro j c hj hc
    obtain ⟨f, hfj, hft⟩ := tys j _ hj
    obtain ⟨y, hy⟩ := hf j f c hfj hc
    rw [hft] at hy
    obtain ⟨m, h5, h6, h7⟩ := DataW.trod_int Tryd.underlying3 hy
    simp only [List.cons.injEq, and_true] at h5
    exact ⟨m, h5, h7⟩
  have keyb : ∀ (j : Nat) (c : Value), (#[3, 3, 3, 3, 4, 4] : Array TypeId)[j]? = some 4 → (#[c0, c1, c2, c3, c4, c5] : Array Value)[j]? = some c → ∃ m, c = .bool m := by
    intro j c hj hc
    obtain ⟨f, hfj, hft⟩ := tys j _ hj
    obtain ⟨y, hy⟩ := hf j f c hfj hc
    rw [hft] at hy
    obtain ⟨m, h5, h6⟩ := DataW.trod_bool Tryd.underlying4 hy
    simp only [List.cons.injEq, and_true] at h5
    exact ⟨m, h5⟩
  obtain ⟨L, rfl, hL⟩ := key 0 c0 rfl rfl
  obtain ⟨W, rfl, hW⟩ := key 1 c1 rfl rfl
  obtain ⟨J, rfl, hJ⟩ := key 2 c2 rfl rfl
  obtain ⟨O, rfl, hO⟩ := key 3 c3 rfl rfl
  obtain ⟨sy, rfl⟩ := keyb 4 c4 rfl rfl
  obtain ⟨ch, rfl⟩ := keyb 5 c5 rfl rfl
  exact ⟨L, W, J, O, sy, ch, rfl, hL, hW, hJ, hO⟩
end Go.Proofs.YtmblpmaelglnpaaDoor
