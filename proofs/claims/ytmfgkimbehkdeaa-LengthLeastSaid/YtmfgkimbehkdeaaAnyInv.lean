/-
  A region that draws its order, by an invariant over the operations that are through: each operation is looked at once, whatever has come before it. No program in sight.
-/
import Derived.Test.YtmfgkimbehkdeaaGBase
import Derived.RegionTactic
namespace Go.Proofs.Ytmfgkimbehkdeaa
set_option linter.unusedSimpArgs false
set_option linter.unusedVariables false
/-- How many operations are still to come. -/
def unl (listed : Array Bool) : Nat := listed.toList.countP (fun b => !b)
theorem countP_set_true : ∀ (l : List Bool) (i : Nat), l[i]? = some false → (l.set i true).countP (fun b => !b) + 1 = l.countP (fun b => !b) := by
  intro l
  induction l with
  | nil => intro i h; simp at h
  | cons b l ih =>
    intro i h
    cases i with
    | zero =>
      simp at h
      subst h
      simp [List.countP_cons]
    | succ i =>
      have := ih i (by simpa using h)
      simp only [List.set_cons_succ, List.countP_cons]
      omega
theorem unl_set {listed : Array Bool} {i : Nat} (h : listed.getD i true = false) : unl (listed.setIfInBounds i true) + 1 = unl listed := by
  unfold unl
  rw [Array.toList_setIfInBounds]
  refine countP_set_true _ _ ?_
  rw [Array.getD_eq_getD_getElem?] at h
  rw [Array.getElem?_toList]
  cases hg : listed[i]? with
  | none => rw [hg] at h; cases h
  | some b => rw [hg] at h; cases h; rfl
theorem ready_unlisted {md : Region.Mode} {ops : Array Oper} {listed : Array Bool} {i : Nat} (h : i ∈ Region.ready md ops listed) : listed.getD i true = false := by
  unfold Region.ready at h
  have h2 := (List.mem_filter.1 h).2
  simp only [Bool.and_eq_true] at h2
  have := h2.1
  cases hx : listed.getD i true with
  | false => rfl
  | true => rw [hx] at this; cases this
/-- What an operation owes: whatever holds behind it (K) when the invariant holds again, or the rest is walked. -/
def Step (P : Program) (md : Region.Mode) (ops : Array Oper) (Q : Exit → Act → World → Prop) (I : Array Bool → Act → World → Prop) (listed : Array Bool) (a : Act) (w : World) (i : Nat) : Prop :=
  wpOp P ops Q i (fun a' w' => I (listed.setIfInBounds i true) a' w' ∨ wpAny P md ops Q (unl (listed.setIfInBounds i true)) (listed.setIfInBounds i true) a' w') a w
theorem step_of {P : Program} {md : Region.Mode} {ops : Array Oper} {Q : Exit → Act → World → Prop} {I : Array Bool → Act → World → Prop} {listed : Array Bool} {a : Act} {w : World} {i : Nat} {o : Oper} (ho : ops[i]? = some o)
    (h : ∀ K : Act → World → Prop, (∀ a' w', I (listed.setIfInBounds i true) a' w' ∨ wpAny P md ops Q (unl (listed.setIfInBounds i true)) (listed.setIfInBounds i true) a' w' → K a' w') → if Region.wanted o (yielded ops a.tmps) = true then Oper.wp P o a w K Q else K (a.put o.dst undef) w) :
    Step P md ops Q I listed a w i := wpOp_step ho h
theorem wpAny_inv {P : Program} {md : Region.Mode} {ops : Array Oper} {Q : Exit → Act → World → Prop} (I : Array Bool → Act → World → Prop)
    (h : ∀ listed a w, I listed a w → Region.ready md ops listed ≠ [] ∧ ∀ i ∈ Region.ready md ops listed, Step P md ops Q I listed a w i) :
    ∀ n listed a w, unl listed = n → I listed a w → wpAny P md ops Q n listed a w := by
  intro n
  induction n with
  | zero =>
    intro listed a w hn hi
    obtain ⟨h1, _⟩ := h listed a w hi
    exfalso
    cases hr : Region.ready md ops listed with
    | nil => exact h1 hr
    | cons i r =>
      have := unl_set (ready_unlisted (md := md) (ops := ops) (listed := listed) (i := i) (by rw [hr]; simp))
      omega
  | succ n ih =>
    intro listed a w hn hi
    obtain ⟨h1, h2⟩ := h listed a w hi
    refine ⟨fun e => absurd e h1, fun i hm => ?_⟩
    have hu := unl_set (ready_unlisted hm)
    refine wpOp_mono ?_ (h2 i hm)
    rintro a' w' (h3 | h3)
    · exact ih _ _ _ (by omega) h3
    · have e : unl (listed.setIfInBounds i true) = n := by omega
      rw [e] at h3
      exact h3
/-- The same, at the frame where it starts: the invariant may speak of it. -/
theorem wpAny_inv0 {P : Program} {md : Region.Mode} {ops : Array Oper} {Q : Exit → Act → World → Prop} (I : Act → Array Bool → Act → World → Prop) {n : Nat} {listed0 : Array Bool} {A0 : Act} {w0 : World}
    (hn : unl listed0 = n) (h0 : I A0 listed0 A0 w0)
    (h : ∀ listed a w, I A0 listed a w → Region.ready md ops listed ≠ [] ∧ ∀ i ∈ Region.ready md ops listed, Step P md ops Q (I A0) listed a w i) :
    wpAny P md ops Q n listed0 A0 w0 := wpAny_inv (I A0) h n listed0 A0 w0 hn h0
end Go.Proofs.Ytmfgkimbehkdeaa
