/-
  At, and a copy whose memory is known, walked.
-/
import Derived.Test.YtmfgkimbehkdeaaRows
import Derived.Test.YtmfgkimbehkdeaaHufLeastP
import Derived.Test.YtmfgkimbehkdeaaRoundDraw
import Derived.Test.YtmfgkimbehkdeaaOwnInts
import Derived.Test.YtmfgkimbehkdeaaGBase
import Derived.Deep.Light
import Derived.Shelf.Abstract
import Derived.Shelf.RegionOpen
import Derived.OwnWalkIn
import Derived.TacticsInMore
import Derived.LoopNIn
import Derived.LoopIn
import Derived.IntWalk
namespace Go.Proofs.Ytmfgkimbehkdeaa
open Go.RowKit
set_option linter.unusedSimpArgs false
set_option linter.unusedVariables false
attribute [local go_sem] Oper.semAt_some

theorem at_w (a : Option Addr) (xs : List Int) (cap k : Nat) (w : World) (ha : Row .i64 w a xs) (hl : xs.length ≤ 9223372036854775807) (hk : k < 1000) : Calls Try.prog 27 #[.slice a xs.length cap, .int .i64 (k : Int)] w fun e w' => e = .returned (.int .i64 (xs.getD k 0)) ∧ Below w.heap.size w w' := by
  have k0 : (0 : Int) ≤ (k : Int) := by omega
  have k1 : ¬ (k : Int) < 0 := by omega
  by_cases hlt : k < xs.length
  · obtain ⟨b1, o1, rfl, hb1, hc1⟩ := ha.at hlt
    have c1 := hc1 k hlt
    obtain ⟨x, hx⟩ : ∃ x, xs.getD k 0 = x := ⟨_, rfl⟩
    rw [hx] at c1 ⊢
    have i1 : (k : Int) < (xs.length : Int) := by omega
    have i2 : ¬ (xs.length : Int) ≤ (k : Int) := by omega
    have i3 : ¬ xs.length ≤ k := by omega
    clear hc1 hx
    go_enter Try.func27, Try.ntmps27
    go_wp2
    go_ret
    exact ⟨rfl, Below.refl _ _⟩
  · have i2 : (xs.length : Int) ≤ (k : Int) := by omega
    have i3 : xs.length ≤ k := by omega
    have e : xs.getD k 0 = 0 := by rw [List.getD_eq_getElem?_getD, List.getElem?_eq_none i3]; rfl
    rw [e]
    clear e
    go_enter Try.func27, Try.ntmps27
    go_wp2
    go_ret
    exact ⟨rfl, Below.refl _ _⟩

/-- A copy in new memory. -/
def OwnPost (xs : List Int) (w : World) (e : Ending) (w' : World) : Prop := ∃ v, e = .returned v ∧ w'.ownsRow w.heap.size 3 1 v xs.length (xs.map (Value.int .i64)) ∧ Below w.heap.size w w'
set_option maxHeartbeats 1000000 in
theorem ownInts_own (a : Option Addr) (xs : List Int) (cap : Nat) (w : World) (ha : Row .i64 w a xs) (hl : xs.length ≤ 1099511627776) :
    Calls Try.prog 9 #[.slice a xs.length cap] w (OwnPost xs w) := by
  obtain ⟨i0, hi, hz0, hz1, hz2⟩ := info_parts infoInt
  have hr0 := (ha.later ((Below.refl _ w).alloc (Nat.le_refl _) (.cells #[] 3))).vals
  go_enter Try.func9, Try.ntmps9
  go_wp2_with (at_builtin; refine wpList_append_any _ rfl _ _ 22 rfl w.heap.size 3 i0 (.int .i64 0) 8 Try.underlying22 hi hz0 hz1 hz2 rfl (.slice (some ⟨w.heap.size, 0, none⟩) 0 0) 0 [] rfl (ownsRow_made w 3) a xs.length cap (xs.map (Value.int .i64)) rfl (by simp) hr0 (ints_one _ _) (by unfold maxLen; omega) (by omega) (by simp) (by simp) ?_; intro v1 w1 hown1 hgrow1)
  rw [List.nil_append, Nat.zero_add] at hown1
  have B1 : Below w.heap.size w w1 := ((Below.refl _ w).alloc (Nat.le_refl _) _).grown hgrow1 (by simp) (fun k hk => by simp [Value.ownBlock] at hk; omega)
  go_wp2
  go_ret
  exact ⟨_, rfl, hown1, B1⟩
/-- A piece of code with one frame at its end, whose world is told by R. -/
theorem wp_detR {P : Program} {c : Code} {Q : Exit → Act → World → Prop} {a : Act} {w : World} {a1 : Act} (R : World → Prop) (det : c.wp P (NormPost fun a' w' => a' = a1 ∧ R w') a w) (go : ∀ w', R w' → Q .normal a1 w') : c.wp P Q a w :=
  Code.wp_mono (fun e a' w'' h => by
    cases e with
    | normal => obtain ⟨h2, h3⟩ := h; subst h2; exact go _ h3
    | _ => exact (h : False).elim) det
end Go.Proofs.Ytmfgkimbehkdeaa
