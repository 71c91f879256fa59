/-
  MatchChecks: for every view, every match and every list of matches the statement's function returns true, in every memory, and changes nothing. No conditions.
-/
import Derived.Test.YtammacofhdbgcaaRows
import Derived.Test.YtammacofhdbgcaaCommon
import Derived.Test.YtammacofhdbgcaaFrame
import Derived.Test.YtammacofhdbgcaaMatchChecksW
import Derived.Test.YtammacofhdbgcaaFrame2
import Derived.Test.YtammacofhdbgcaaOpenM
import Derived.ProofKit
import Derived.Deep.Fields
import Derived.Laws.IdiomArrays
import Derived.OpenShut
namespace Go.Proofs.Ytammacofhdbgcaa
open Go.ChangeShapes Go.WideShapes Go.ChangeAt Go.RowKit Go.Deep
set_option linter.unusedSimpArgs false
set_option linter.unusedVariables false
namespace lawMatchChecks
theorem view_cells : Try.prog.cellsOf 25 = 9 := by kernel_rfl

theorem view_fields : ∃ fs : Array Field, Try.prog.underlying 25 = some (.struct fs) ∧ fs.map (fun f => (f.offset, f.type)) = #[(0, 9), (1, 3), (2, 3), (3, 3), (4, 3), (5, 23), (8, 3)] :=
  ⟨_, Try.underlying25, by kernel_rfl⟩
theorem field_of {fs : Array Field} {l : Array (Nat × TypeId)} (h : fs.map (fun f => (f.offset, f.type)) = l) (i : Nat) (o t : Nat) (hi : l[i]? = some (o, t)) : ∃ f, fs[i]? = some f ∧ f.offset = o ∧ f.type = t := by
  rw [← h] at hi
  simp at hi
  obtain ⟨f, h1, h2, h3⟩ := hi
  exact ⟨f, h1, h2, h3⟩
set_option maxRecDepth 100000 in
theorem open_view {H : Type} {enc : TypeId × Value → H} {w : World} {base : Nat} {spare : Nat → Bool} {held : Bool} {r : Reach} {b0 : Nat} {v : Value} {d : DataW H} {q : List MemPlace}
    (hv : Value.okWide Try.prog w r b0 25 v) (h : DataW.Trod enc Try.prog w base spare held 25 v d q) :
    ∃ (s : ByteArray) (p e l d a b c li : Int), v = .agg #[.string s, .int .i64 p, .int .i64 e, .int .i64 l, .int .i64 d, .int .i64 a, .int .i64 b, .int .i64 c, .int .i64 li] ∧ s.size ≤ maxLen := by
  obtain ⟨fs, hu, hm⟩ := view_fields
  obtain ⟨cs, rfl, hsz⟩ := okWide_struct hu hv
  rw [view_cells] at hsz
  obtain ⟨c0, c1, c2, c3, c4, c5, c6, c7, c8, rfl⟩ : ∃ c0 c1 c2 c3 c4 c5 c6 c7 c8, cs = #[c0, c1, c2, c3, c4, c5, c6, c7, c8] := by
    obtain ⟨l⟩ := cs
    match l, hsz with
    | [c0, c1, c2, c3, c4, c5, c6, c7, c8], _ => exact ⟨c0, c1, c2, c3, c4, c5, c6, c7, c8, rfl⟩
  obtain ⟨fuel, hf⟩ := h
  obtain ⟨xs, n, _, _, _, hxl, hg⟩ := DataW.trod_struct hu hf
  have hfs : fs.size = 7 := by have := congrArg Array.size hm; simpa using this
  rw [hfs] at hxl
  have key : ∀ (i o t : Nat), i < 7 → (#[(0, 9), (1, 3), (2, 3), (3, 3), (4, 3), (5, 23), (8, 3)] : Array (Nat × TypeId))[i]? = some (o, t) → ∃ y, DataW.trod enc Try.prog w base spare held n t (([c0, c1, c2, c3, c4, c5, c6, c7, c8].drop o).take (Try.prog.cellsOf t)) = some y := by
    intro i o t hi hl
    obtain ⟨f, h1, h2, h3⟩ := field_of hm i o t hl
    have := hg i f h1
    rw [h2, h3] at this
    exact ⟨xs[i], by rw [← List.getElem?_eq_getElem (by omega)]; exact this⟩
  have ci : Try.prog.cellsOf 3 = 1 := by kernel_rfl
  have cst : Try.prog.cellsOf 9 = 1 := by kernel_rfl
  have cr : Try.prog.cellsOf 23 = 3 := by kernel_rfl
  obtain ⟨y0, h0⟩ := key 0 0 9 (by omega) rfl
  obtain ⟨y1, h1⟩ := key 1 1 3 (by omega) rfl
  obtain ⟨y2, h2⟩ := key 2 2 3 (by omega) rfl
  obtain ⟨y3, h3⟩ := key 3 3 3 (by omega) rfl
  obtain ⟨y4, h4⟩ := key 4 4 3 (by omega) rfl
  obtain ⟨y5, h5⟩ := key 5 5 23 (by omega) rfl
  obtain ⟨y6, h6⟩ := key 6 8 3 (by omega) rfl
  rw [cst] at h0
  rw [ci] at h1 h2 h3 h4 h6
  rw [cr] at h5
  simp only [List.drop_zero, List.drop_succ_cons, List.take_succ_cons, List.take_zero] at h0 h1 h2 h3 h4 h5 h6
  obtain ⟨s, e0, _, hs⟩ := DataW.trod_string Try.underlying9 h0
  obtain ⟨p, e1, _, _⟩ := DataW.trod_int Try.underlying3 h1
  obtain ⟨e, e2, _, _⟩ := DataW.trod_int Try.underlying3 h2
  obtain ⟨l, e3, _, _⟩ := DataW.trod_int Try.underlying3 h3
  obtain ⟨d, e4, _, _⟩ := DataW.trod_int Try.underlying3 h4
  obtain ⟨li, e6, _, _⟩ := DataW.trod_int Try.underlying3 h6
  obtain ⟨z0, z1, z2, m, _, g0, g1, g2⟩ := trod_array3 Try.underlying23 ci h5
  obtain ⟨a, f0, _, _⟩ := DataW.trod_int Try.underlying3 g0
  obtain ⟨b, f1, _, _⟩ := DataW.trod_int Try.underlying3 g1
  obtain ⟨c, f2, _, _⟩ := DataW.trod_int Try.underlying3 g2
  simp only [List.cons.injEq, and_true] at e0 e1 e2 e3 e4 e6 f0 f1 f2
  subst e0 e1 e2 e3 e4 e6 f0 f1 f2
  exact ⟨s, p, e, l, d, a, b, c, li, rfl, hs⟩
theorem matchChecks_w' (s : ByteArray) (p e l d a b c li : Int) (x y z u : Int) (pl : Option Addr) (ms : List (Int × Int × Int × Int)) (cl : Nat) (w : World) (hs : s.size ≤ maxLen) (ht : True) (ha : RowM w pl ms) (hm : ms.length ≤ maxLen) :
    Calls Try.prog 7 #[.agg #[.string s, .int .i64 p, .int .i64 e, .int .i64 l, .int .i64 d, .int .i64 a, .int .i64 b, .int .i64 c, .int .i64 li], .agg #[.int .i64 x, .int .i64 y, .int .i64 z, .int .i64 u], .slice pl ms.length cl] w fun e' w' => e' = .returned (.bool true) ∧ Below w.heap.size w w' :=
  matchChecks_t s p e l d a b c li x y z u pl ms cl w (by unfold maxLen at hs; omega) ha
set_option maxRecDepth 100000 in
theorem lifted (os : Os) (started : os.Started) (H : Type) (enc : TypeId × Value → H) :
    ReturnsInHanded {} Try.checked os 7 .any (Rows.matchChecksSpec.pre6 enc Try.prog Try.f7 Rows.matchChecksRow.domain false) (Rows.matchChecksSpec.post enc Try.prog Try.f7 false true false false) := by
  refine returnsInHanded_of_change (C := Try.checked) Try.own started (by kernel_rfl) Try.func7
    (ChangeSpec.witness6 (enc := enc) (C := Try.checked) false ⟨#[], #[.agg #[.string ⟨#[]⟩, .int .i64 0, .int .i64 0, .int .i64 0, .int .i64 0, .int .i64 0, .int .i64 0, .int .i64 0, .int .i64 0], .agg #[.int .i64 0, .int .i64 0, .int .i64 0, .int .i64 0], .slice none 0 0], []⟩ 8 (by kernel_rfl) (by kernel_rfl) (by kernel_rfl) (by kernel_rfl)) ?_
  intro W base args ds gs before hval0 hW hcnd hreach
  have hval : ∀ (j : Nat) t v, Try.f7.params[j]? = some t → args[j]? = some v → Value.okWide Try.prog W .any base t v := hval0
  have hW' := hW
  obtain ⟨p, q, hA0, hV, rfl, hfz, hnd⟩ := hW
  have hA : DataW.TrodAll enc Try.prog W 0 (fun _ => true) true Try.f7.params.toList args.toList ds p := hA0
  rw [Try.params7] at hA hval
  obtain ⟨v0, vs0, d0, ds0, p0, q0, hargs, rfl, rfl, h0, r0⟩ := trodAll_cons hA
  obtain ⟨v1, vs1, d1, ds1, p1, q1, rfl, rfl, rfl, h1, r1⟩ := trodAll_cons r0
  obtain ⟨v2, vs2, d2, ds2, p2, q2, rfl, rfl, rfl, h2, r2⟩ := trodAll_cons r1
  obtain ⟨rfl, rfl, rfl⟩ := trodAll_nil r2
  obtain rfl : args = #[v0, v1, v2] := by cases args; simp_all
  obtain ⟨rfl, rfl⟩ := trodVars_none hV
  have k0 := h0
  have lt0 : ∀ x ∈ p0, x.block < W.heap.size := by obtain ⟨m, hm⟩ := k0; exact DataW.trod_lt m _ _ _ hm
  obtain ⟨s0, p0, e0, l0, d0, a0, b0, c0, li0, rfl, hs0⟩ := open_view (hval 0 25 v0 rfl rfl) h0
  have k1 := h1
  have lt1 : ∀ x ∈ p1, x.block < W.heap.size := by obtain ⟨m, hm⟩ := k1; exact DataW.trod_lt m _ _ _ hm
  obtain ⟨x1, y1, z1, u1, rfl, ht1⟩ := open_m (hval 1 32 v1 rfl rfl) h1
  have k2 := h2
  have lt2 : ∀ x ∈ p2, x.block < W.heap.size := by obtain ⟨m, hm⟩ := k2; exact DataW.trod_lt m _ _ _ hm
  obtain ⟨pl2, ms2, cl2, rfl, ha2, hm2⟩ := open_ms (hval 2 27 v2 rfl rfl) h2
  clear hA0 hval0
  refine (matchChecks_w' s0 p0 e0 l0 d0 a0 b0 c0 li0 x1 y1 z1 u1 pl2 ms2 cl2 W hs0 ht1 ha2 hm2).mono fun e W' ⟨he, bel⟩ => ?_
  subst he
  exact ⟨_, rfl, _, _, _, [], _, [], hW', trodAll_mk1 (shut_bool Try.underlying4 _), (trodAll_cons_mk (Below.trod Try.laidOut (by kernel_rfl) (of_decide_eq_true (by kernel_rfl)) k0 bel lt0) (trodAll_cons_mk (Below.trod Try.laidOut (by kernel_rfl) (of_decide_eq_true (by kernel_rfl)) k1 bel lt1) (trodAll_cons_mk (Below.trod Try.laidOut (by kernel_rfl) (of_decide_eq_true (by kernel_rfl)) k2 bel lt2) trodAll_mk0))), rfl, bel.frame _, fun h => by cases h⟩

theorem over : Rows.matchChecksRow.holds Try.pinned (OpenSpec.ofChange Rows.matchChecksSpec) :=
  OpenClaim.holds_of_wide 7 Try.f7 rfl rfl rfl rfl rfl rfl rfl ⟨rfl, rfl, rfl, rfl, rfl⟩ rfl rfl rfl rfl rfl (by kernel_rfl) Try.func7 (by kernel_rfl)
    (of_decide_eq_true (by kernel_rfl)) (by unfold Func.isWrapper; first | (rw [if_pos (by decide +kernel)]; kernel_rfl) | (rw [if_neg (by decide +kernel)]; exact ⟨rfl, rfl⟩))
    (fun os started H enc _ => lifted os started H enc)

theorem proved : Rows.MatchChecksSaid := over
#print axioms proved
end lawMatchChecks
end Go.Proofs.Ytammacofhdbgcaa
