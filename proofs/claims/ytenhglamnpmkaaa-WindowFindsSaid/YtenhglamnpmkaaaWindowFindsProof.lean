/-
  WindowFinds: for every view the statement's function returns true, in every memory, and changes nothing. No conditions.
-/
import Derived.Test.YtenhglamnpmkaaaRows
import Derived.Test.YtenhglamnpmkaaaCommon
import Derived.Test.YtenhglamnpmkaaaFrame
import Derived.Test.YtenhglamnpmkaaaWindow10
import Derived.Test.YtenhglamnpmkaaaFrame2
import Derived.Test.YtenhglamnpmkaaaKnSame
import Derived.ProofKit
import Derived.OpenShut
namespace Go.Proofs.Ytenhglamnpmkaaa
open Go.ChangeShapes Go.WideShapes Go.ChangeAt Go.RowKit
set_option linter.unusedSimpArgs false
set_option linter.unusedVariables false
namespace lawWindowFinds
theorem open_view {H : Type} {enc : TypeId × Value → H} {w : World} {base : Nat} {spare : Nat → Bool} {held : Bool} {r : Reach} {b0 : Nat} {v : Value} {d : DataW H} {p : List MemPlace}
    (hv : Value.okWide Try.prog w r b0 53 v) (h : DataW.Trod enc Try.prog w base spare held 53 v d p) :
    ∃ (s : ByteArray) (a b c d : Int), v = .agg #[.string s, .int .i64 a, .int .i64 b, .int .i64 c, .int .i64 d] ∧ s.size ≤ maxLen := by
  obtain ⟨cs, n, rfl, hsz, hf⟩ := open_fields Try.underlying53 (by kernel_rfl) (by kernel_rfl) hv h
  obtain ⟨l⟩ := cs
  match l, hsz with
  | [c0, c1, c2, c3, c4], _ =>
    obtain ⟨y0, g0⟩ := hf 0 _ c0 rfl rfl
    obtain ⟨y1, g1⟩ := hf 1 _ c1 rfl rfl
    obtain ⟨y2, g2⟩ := hf 2 _ c2 rfl rfl
    obtain ⟨y3, g3⟩ := hf 3 _ c3 rfl rfl
    obtain ⟨y4, g4⟩ := hf 4 _ c4 rfl rfl
    obtain ⟨s, e0, _, hs⟩ := DataW.trod_string Try.underlying9 g0
    obtain ⟨a, e1, _, _⟩ := DataW.trod_int Try.underlying3 g1
    obtain ⟨b, e2, _, _⟩ := DataW.trod_int Try.underlying3 g2
    obtain ⟨c, e3, _, _⟩ := DataW.trod_int Try.underlying3 g3
    obtain ⟨d, e4, _, _⟩ := DataW.trod_int Try.underlying3 g4
    simp only [List.cons.injEq, and_true] at e0 e1 e2 e3 e4
    subst e0 e1 e2 e3 e4
    exact ⟨s, a, b, c, d, rfl, hs⟩
theorem windowFinds_w' (s : ByteArray) (a b c d : Int) (w : World) (hs : s.size ≤ maxLen) :
    Calls Try.prog 9 #[.agg #[.string s, .int .i64 a, .int .i64 b, .int .i64 c, .int .i64 d]] w fun e w' => e = .returned (.bool true) ∧ Below w.heap.size w w' :=
  windowFinds_w s a b c d w (by unfold maxLen at hs; omega)
set_option maxRecDepth 100000 in
theorem lifted (os : Os) (started : os.Started) (H : Type) (enc : TypeId × Value → H) :
    ReturnsInHanded {} Try.checked os 9 .any (Rows.windowFindsSpec.pre6 enc Try.prog Try.f9 Rows.windowFindsRow.domain false) (Rows.windowFindsSpec.post enc Try.prog Try.f9 false true false false) := by
  refine returnsInHanded_of_change (C := Try.checked) Try.own started (by kernel_rfl) Try.func9
    (ChangeSpec.witness6 (enc := enc) (C := Try.checked) false ⟨#[], #[.agg #[.string ByteArray.empty, .int .i64 0, .int .i64 0, .int .i64 0, .int .i64 0]], []⟩ 8 (by kernel_rfl) (by kernel_rfl) (by kernel_rfl) (by kernel_rfl)) ?_
  intro W base args ds gs before hval0 hW hcnd hreach
  have hval : ∀ (j : Nat) t v, Try.f9.params[j]? = some t → args[j]? = some v → Value.okWide Try.prog W .any base t v := hval0
  have hW' := hW
  obtain ⟨p, q, hA0, hV, rfl, hfz, hnd⟩ := hW
  have hA : DataW.TrodAll enc Try.prog W 0 (fun _ => true) true Try.f9.params.toList args.toList ds p := hA0
  rw [Try.params9] at hA hval
  obtain ⟨v0, vs0, d0, ds0, p0, q0, hargs, rfl, rfl, h0, r0⟩ := trodAll_cons hA
  obtain ⟨rfl, rfl, rfl⟩ := trodAll_nil r0
  obtain rfl : args = #[v0] := by cases args; simp_all
  obtain ⟨rfl, rfl⟩ := trodVars_none hV
  have k0 := h0
  have lt0 : ∀ x ∈ p0, x.block < W.heap.size := by obtain ⟨m, hm⟩ := k0; exact DataW.trod_lt m _ _ _ hm
  obtain ⟨s0, a0, b0, c0, d0, rfl, w0⟩ := open_view (hval 0 53 v0 rfl rfl) h0
  clear hA0 hval0
  refine (windowFinds_w' s0 a0 b0 c0 d0 W w0).mono fun e W' ⟨he, bel⟩ => ?_
  subst he
  exact ⟨_, rfl, _, _, _, [], _, [], hW', trodAll_mk1 (shut_bool Try.underlying4 _), (trodAll_cons_mk (Below.trod Try.laidOut (by kernel_rfl) (of_decide_eq_true (by kernel_rfl)) k0 bel lt0) trodAll_mk0), rfl, bel.frame _, fun h => by cases h⟩

theorem over : Rows.windowFindsRow.holds Try.pinned (OpenSpec.ofChange Rows.windowFindsSpec) :=
  OpenClaim.holds_of_wide 9 Try.f9 rfl rfl rfl rfl rfl rfl rfl ⟨rfl, rfl, rfl, rfl, rfl⟩ rfl rfl rfl rfl rfl (by kernel_rfl) Try.func9 (by kernel_rfl)
    (of_decide_eq_true (by kernel_rfl)) (by unfold Func.isWrapper; first | (rw [if_pos (by decide +kernel)]; kernel_rfl) | (rw [if_neg (by decide +kernel)]; exact ⟨rfl, rfl⟩))
    (fun os started H enc _ => lifted os started H enc)

theorem proved : Rows.WindowFindsSaid := over
#print axioms proved
end lawWindowFinds
end Go.Proofs.Ytenhglamnpmkaaa
