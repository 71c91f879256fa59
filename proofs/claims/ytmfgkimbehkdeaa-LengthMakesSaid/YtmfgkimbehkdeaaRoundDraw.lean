/-
  A region that draws its order, inside a round of a range over a function: it holds there what holds outside (no operation of it defers). And pieces of code that have one way to end. No program in sight.
-/
import Derived.Test.YtmfgkimbehkdeaaGBase
import Derived.OwnWalkIn
import Derived.RangeFuncCalls
import Derived.OrdersIn
import Derived.RegionIn
import Derived.Lib.Hide
namespace Go.Proofs.Ytmfgkimbehkdeaa
set_option linter.unusedSimpArgs false
set_option linter.unusedVariables false
/-- No operation defers. -/
def noDefer (ops : Array Oper) : Bool := ops.all fun o => match o.op with | .defer _ => false | _ => true
theorem noDefer_at {ops : Array Oper} (h : noDefer ops = true) {i : Nat} {o : Oper} (hi : ops[i]? = some o) : ∀ c, o.op ≠ .defer c := by
  intro c hc
  unfold noDefer at h
  rw [Array.all_eq_true] at h
  obtain ⟨hl, he⟩ := Array.getElem?_eq_some_iff.1 hi
  have := h i hl
  rw [he, hc] at this
  cases this
theorem oper_round {F : Fence} {n : Nat} {P : Program} {Q : Exit → Act → World → Prop} {o : Oper} {a : Act} {w : World} {K K' : Act → World → Prop} (l : Nat) (hd : ∀ c, o.op ≠ .defer c) (hK : ∀ a w, K a w → K' a w) (h : o.wpIn F n P a w K Q) : o.wpIn (F.inRound l) n P a w K' Q := by
  have h2 := Oper.wpIn_mono hK h
  unfold Oper.wpIn at h2 ⊢
  rw [Oper.semAt_eq _ _ _ hd] at h2
  rw [Oper.semAt_eq _ _ _ hd]
  exact h2
theorem wpAnyIn_round {F : Fence} {n : Nat} {P : Program} {md : Region.Mode} {ops : Array Oper} {Q : Exit → Act → World → Prop} (l : Nat) (hd : noDefer ops = true) : ∀ fuel listed a w, wpAnyIn F n P md ops Q fuel listed a w → wpAnyIn (F.inRound l) n P md ops Q fuel listed a w := by
  intro fuel
  induction fuel with
  | zero => intro listed a w h; exact h
  | succ fuel ih =>
    intro listed a w h
    unfold wpAnyIn at h ⊢
    refine ⟨h.1, fun i hi => ?_⟩
    have h2 := h.2 i hi
    unfold wpOpIn at h2 ⊢
    cases ho : ops[i]? with
    | none => rw [ho] at h2; exact ih _ _ _ h2
    | some o =>
      rw [ho] at h2
      dsimp only at h2 ⊢
      by_cases hw : Region.wanted o (yielded ops a.tmps) = true
      · rw [if_pos hw] at h2 ⊢
        exact oper_round l (noDefer_at hd ho) (fun a w => ih _ a w) h2
      · rw [if_neg hw] at h2 ⊢
        exact ⟨h2.1, ih _ _ _ h2.2⟩
theorem wpIn_round_any {F : Fence} {n : Nat} {P : Program} {id : Nat} {ops : Array Oper} {Q : Exit → Act → World → Prop} {a : Act} {w : World} (l : Nat) (hd : noDefer ops = true) (hm : P.follows .mixedOrders = true)
    (h : wpAnyIn F n P .any ops Q ops.size (Array.replicate ops.size false) a (World.drew w)) : (Code.region id ops true).wpIn (F.inRound l) n P Q a w :=
  wpIn_region_any hm (wpAnyIn_round l hd _ _ _ _ h)
/-- A post that asks for an ordinary end alone. -/
def NormPost (K : Act → World → Prop) : Exit → Act → World → Prop
  | .normal, a, w => K a w
  | _, _, _ => False
/-- A piece of code that has one way to end: the frame and the world at its end are found by the walk (apply, then 'exact ⟨rfl, rfl⟩' at each end). -/
theorem wpIn_det {F : Fence} {n : Nat} {P : Program} {c : Code} {Q : Exit → Act → World → Prop} {a : Act} {w : World} {a1 : Act} {w1 : World} (det : c.wpIn F n P (NormPost fun a' w' => a' = a1 ∧ w' = w1) a w) (go : Q .normal a1 w1) : c.wpIn F n P Q a w :=
  wpIn_mono det (fun e a' w'' h => by
    cases e with
    | normal => obtain ⟨h2, h3⟩ := h; subst h2 h3; exact go
    | _ => exact (h : False).elim)
theorem wp_det {P : Program} {c : Code} {Q : Exit → Act → World → Prop} {a : Act} {w : World} {a1 : Act} {w1 : World} (det : c.wp P (NormPost fun a' w' => a' = a1 ∧ w' = w1) a w) (go : Q .normal a1 w1) : c.wp P Q a w :=
  Code.wp_mono (fun e a' w'' h => by
    cases e with
    | normal => obtain ⟨h2, h3⟩ := h; subst h2 h3; exact go
    | _ => exact (h : False).elim) det
end Go.Proofs.Ytmfgkimbehkdeaa
