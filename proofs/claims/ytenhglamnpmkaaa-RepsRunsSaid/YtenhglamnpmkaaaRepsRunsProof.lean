/-
  RepsRuns: for every history, every list of sequences and every two lists of numbers the statement's function returns true, in every memory, and changes nothing. No conditions.
-/
import Derived.Test.YtenhglamnpmkaaaRows
import Derived.Test.YtenhglamnpmkaaaCommon
import Derived.Test.YtenhglamnpmkaaaFrame
import Derived.Test.YtenhglamnpmkaaaRepsRunsW
import Derived.Test.YtenhglamnpmkaaaFrame2
import Derived.ProofKit
import Derived.Deep.Fields
import Derived.OpenShut
namespace Go.Proofs.Ytenhglamnpmkaaa
open Go.ChangeShapes Go.WideShapes Go.ChangeAt Go.RowKit Go.Deep
set_option linter.unusedSimpArgs false
set_option linter.unusedVariables false
namespace lawRepsRuns
theorem seq_fields : ∃ fs : Array Field, Try.prog.underlying 79 = some (.struct fs) ∧ oneCellFields Try.prog fs = true ∧ fs.size = 3 ∧ ∀ (j : Nat) (f : Field), fs[j]? = some f → f.type = 3 := by
  refine ⟨_, Try.underlying79, by kernel_rfl, rfl, ?_⟩
  intro j f h
  rcases j with _ | _ | _ | j
  · simp at h; rw [← h]
  · simp at h; rw [← h]
  · simp at h; rw [← h]
  · simp at h
theorem open_qs {H : Type} {enc : TypeId × Value → H} {w : World} {base : Nat} {held : Bool} {r : Reach} {b0 : Nat} {v : Value} {d : DataW H} {p : List MemPlace}
    (hv : Value.okWide Try.prog w r b0 42 v) (h : DataW.Trod enc Try.prog w base (fun _ => true) held 42 v d p) :
    ∃ (a : Option Addr) (qs : List (Int × Int × Int)) (cap : Nat), v = .slice a qs.length cap ∧ RowQ w a qs ∧ qs.length ≤ maxLen := by
  obtain ⟨fs, h1, h2, h3, h4⟩ := seq_fields
  exact open_seqs Try.underlying42 h1 h2 h3 h4 Try.underlying3 (by kernel_rfl) hv h
theorem repsRuns_w' (x y z : Int) (a : Option Addr) (qs : List (Int × Int × Int)) (cap : Nat) (b : Option Addr) (ds : List Int) (cb : Nat) (c : Option Addr) (ls : List Int) (cc : Nat) (w : World) (hx : (Lit.int .i64 x).wf = true) (hy : (Lit.int .i64 y).wf = true) (hz : (Lit.int .i64 z).wf = true)
    (ha : RowQ w a qs) (hl : qs.length ≤ maxLen) (hb : Row .i64 w b ds) (hw : ∀ n ∈ ds, (Lit.int .i64 n).wf = true) (hl2 : ds.length ≤ maxLen) (hc : Row .i64 w c ls) (hw2 : ∀ n ∈ ls, (Lit.int .i64 n).wf = true) (hl3 : ls.length ≤ maxLen) :
    Calls Try.prog 6 #[.agg #[.int .i64 x, .int .i64 y, .int .i64 z], .slice a qs.length cap, .slice b ds.length cb, .slice c ls.length cc] w fun e w' => e = .returned (.bool true) ∧ Below w.heap.size w w' :=
  repsRuns_w x y z a b c qs ds ls cap cb cc w ha hb hc
set_option maxRecDepth 100000 in
theorem lifted (os : Os) (started : os.Started) (H : Type) (enc : TypeId × Value → H) :
    ReturnsInHanded {} Try.checked os 6 .any (Rows.repsRunsSpec.pre6 enc Try.prog Try.f6 Rows.repsRunsRow.domain false) (Rows.repsRunsSpec.post enc Try.prog Try.f6 false true false false) := by
  refine returnsInHanded_of_change (C := Try.checked) Try.own started (by kernel_rfl) Try.func6
    (ChangeSpec.witness6 (enc := enc) (C := Try.checked) false ⟨#[], #[.agg #[.int .i64 0, .int .i64 0, .int .i64 0], .slice none 0 0, .slice none 0 0, .slice none 0 0], []⟩ 8 (by kernel_rfl) (by kernel_rfl) (by kernel_rfl) (by kernel_rfl)) ?_
  intro W base args ds gs before hval0 hW hcnd hreach
  have hval : ∀ (j : Nat) t v, Try.f6.params[j]? = some t → args[j]? = some v → Value.okWide Try.prog W .any base t v := hval0
  have hW' := hW
  obtain ⟨p, q, hA0, hV, rfl, hfz, hnd⟩ := hW
  have hA : DataW.TrodAll enc Try.prog W 0 (fun _ => true) true Try.f6.params.toList args.toList ds p := hA0
  rw [Try.params6] at hA hval
  obtain ⟨v0, vs0, d0, ds0, p0, q0, hargs, rfl, rfl, h0, r0⟩ := trodAll_cons hA
  obtain ⟨v1, vs1, d1, ds1, p1, q1, rfl, rfl, rfl, h1, r1⟩ := trodAll_cons r0
  obtain ⟨v2, vs2, d2, ds2, p2, q2, rfl, rfl, rfl, h2, r2⟩ := trodAll_cons r1
  obtain ⟨v3, vs3, d3, ds3, p3, q3, rfl, rfl, rfl, h3, r3⟩ := trodAll_cons r2
  obtain ⟨rfl, rfl, rfl⟩ := trodAll_nil r3
  obtain rfl : args = #[v0, v1, v2, v3] := by cases args; simp_all
  obtain ⟨rfl, rfl⟩ := trodVars_none hV
  have k0 := h0
  have lt0 : ∀ x ∈ p0, x.block < W.heap.size := by obtain ⟨m, hm⟩ := k0; exact DataW.trod_lt m _ _ _ hm
  obtain ⟨a0, b0, c0, rfl, wa0, wb0, wc0⟩ := open_arr3 Try.underlying23 Try.underlying3 (by kernel_rfl) (by kernel_rfl) (hval 0 23 v0 rfl rfl) h0
  have k1 := h1
  have lt1 : ∀ x ∈ p1, x.block < W.heap.size := by obtain ⟨m, hm⟩ := k1; exact DataW.trod_lt m _ _ _ hm
  obtain ⟨a1, x1, c1, rfl, r_1, m1⟩ := open_qs (hval 1 42 v1 rfl rfl) h1
  have k2 := h2
  have lt2 : ∀ x ∈ p2, x.block < W.heap.size := by obtain ⟨m, hm⟩ := k2; exact DataW.trod_lt m _ _ _ hm
  obtain ⟨a2, x2, c2, rfl, r_2, w2, m2⟩ := open_row Try.underlying38 Try.underlying3 (by kernel_rfl) (hval 2 38 v2 rfl rfl) h2
  have k3 := h3
  have lt3 : ∀ x ∈ p3, x.block < W.heap.size := by obtain ⟨m, hm⟩ := k3; exact DataW.trod_lt m _ _ _ hm
  obtain ⟨a3, x3, c3, rfl, r_3, w3, m3⟩ := open_row Try.underlying38 Try.underlying3 (by kernel_rfl) (hval 3 38 v3 rfl rfl) h3
  clear hA0 hval0
  refine (repsRuns_w' a0 b0 c0 a1 x1 c1 a2 x2 c2 a3 x3 c3 W wa0 wb0 wc0 r_1 m1 r_2 w2 m2 r_3 w3 m3).mono fun e W' ⟨he, bel⟩ => ?_
  subst he
  exact ⟨_, rfl, _, _, _, [], _, [], hW', trodAll_mk1 (shut_bool Try.underlying4 _), (trodAll_cons_mk (Below.trod Try.laidOut (by kernel_rfl) (of_decide_eq_true (by kernel_rfl)) k0 bel lt0) (trodAll_cons_mk (Below.trod Try.laidOut (by kernel_rfl) (of_decide_eq_true (by kernel_rfl)) k1 bel lt1) (trodAll_cons_mk (Below.trod Try.laidOut (by kernel_rfl) (of_decide_eq_true (by kernel_rfl)) k2 bel lt2) (trodAll_cons_mk (Below.trod Try.laidOut (by kernel_rfl) (of_decide_eq_true (by kernel_rfl)) k3 bel lt3) trodAll_mk0)))), rfl, bel.frame _, fun h => by cases h⟩

theorem over : Rows.repsRunsRow.holds Try.pinned (OpenSpec.ofChange Rows.repsRunsSpec) :=
  OpenClaim.holds_of_wide 6 Try.f6 rfl rfl rfl rfl rfl rfl rfl ⟨rfl, rfl, rfl, rfl, rfl⟩ rfl rfl rfl rfl rfl (by kernel_rfl) Try.func6 (by kernel_rfl)
    (of_decide_eq_true (by kernel_rfl)) (by unfold Func.isWrapper; first | (rw [if_pos (by decide +kernel)]; kernel_rfl) | (rw [if_neg (by decide +kernel)]; exact ⟨rfl, rfl⟩))
    (fun os started H enc _ => lifted os started H enc)

theorem proved : Rows.RepsRunsSaid := over
#print axioms proved
end lawRepsRuns
end Go.Proofs.Ytenhglamnpmkaaa
