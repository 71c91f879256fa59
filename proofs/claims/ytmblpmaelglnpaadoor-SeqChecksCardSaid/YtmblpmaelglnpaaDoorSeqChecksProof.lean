/-
  SeqChecks: for any two lists of sequences the statement's function returns true, in every memory in which the listed variable is as the program's text lays it, and changes nothing; and that is tied. No other conditions.
-/
import Derived.Test.YtmblpmaelglnpaaDoorRows
import Derived.Test.YtmblpmaelglnpaaDoorGBase
import Derived.Test.YtmblpmaelglnpaaDoorFrame
import Derived.Test.YtmblpmaelglnpaaDoorSeqLaw2
import Derived.Test.YtmblpmaelglnpaaDoorFrame2
import Derived.Test.YtmblpmaelglnpaaDoorLaidD
import Derived.Test.YtmblpmaelglnpaaDoorTie
import Derived.Test.YtmblpmaelglnpaaDoorCards
import Derived.Test.YtmblpmaelglnpaaDoorOpenQ
import Derived.ProofKit
import Derived.Deep.Fields
import Derived.Laws.IdiomArrays
import Derived.ChangeSame
import Derived.ChangeVars
import Derived.JoinedOf
import Derived.LaidLaws
import Derived.LaidHandle
import Derived.Stop.Joined
import Derived.SevenTiedAt
import Derived.OpenShut
namespace Go.Proofs.YtmblpmaelglnpaaDoor
open Go.ChangeShapes Go.WideShapes Go.ChangeAt Go.RowKit Go.Deep
set_option linter.unusedSimpArgs false
set_option linter.unusedVariables false
namespace lawSeqChecks
theorem seqChecks_w' (al : Option Addr) (ql : List (Int × Int × Int)) (cl : Nat) (bl : Option Addr) (rl : List (Int × Int × Int)) (dl : Nat) (w : World) (hq : RowQ w al ql) (hm : ql.length ≤ maxLen) (hr : RowQ w bl rl) (hn : rl.length ≤ maxLen) (hg : w.cell? ⟨0, 0, none⟩ = some (.iface 165 (.agg #[.pointer (some ⟨9, 74, none⟩)]))) :
    Calls Tryd.prog 6 #[.slice al ql.length cl, .slice bl rl.length dl] w fun e' w' => e' = .returned (.bool true) ∧ Below w.heap.size w w' :=
  seqChecks_t al ql cl bl rl dl w hq (by unfold maxLen at hm; omega) hr (by unfold maxLen at hn; omega) hg
set_option maxRecDepth 100000 in
theorem lifted (os : Os) (started : os.Started) (H : Type) (enc : TypeId × Value → H) :
    ReturnsInHanded {} Tryd.checked os 6 .any (fun w args => (Rows.seqChecksSpec.pre enc Tryd.prog Tryd.f6 [] false w args ∧ laidMetH Tryd.prog [("errors.errorType", Rows.laid_errors_errorType)] w) ∧ sizedMet enc Tryd.prog Tryd.f6 (OpenSpec.ofChange Rows.seqChecksSpec) false w args) (Rows.seqChecksSpec.post enc Tryd.prog Tryd.f6 false true false false) := by
  refine returnsInHanded_of_change_and (C := Tryd.checked) (X := fun w _ => laidMetH Tryd.prog [("errors.errorType", Rows.laid_errors_errorType)] w) (fun _ _ _ hh h => h.of_heap hh) Tryd.own started (by kernel_rfl) Tryd.func6
    (ChangeSpec.witness_at (enc := enc) (C := Tryd.checked) (os := os) (X := fun w _ => laidMetH Tryd.prog [("errors.errorType", Rows.laid_errors_errorType)] w) false (laidWorld os) #[.slice none 0 0, .slice none 0 0] 8 rfl (by kernel_rfl) (by kernel_rfl) (by kernel_rfl) (by kernel_rfl) (by kernel_rfl) (laidWorld_met os _)) ?_
  intro W base args ds gs before hval0 hW _ _ hL _
  have hval : ∀ (j : Nat) t v, Tryd.f6.params[j]? = some t → args[j]? = some v → Value.okWide Tryd.prog W .any base t v := hval0
  have hW' := hW
  obtain ⟨p, q, hA0, hV, rfl, hfz, hnd⟩ := hW
  have hA : DataW.TrodAll enc Tryd.prog W 0 (fun _ => true) true Tryd.f6.params.toList args.toList ds p := hA0
  rw [Tryd.params6] at hA hval
  obtain ⟨v0, vs0, d0, ds0, p0, q0, hargs, rfl, rfl, h0, r0⟩ := trodAll_cons hA
  obtain ⟨v1, vs1, d1, ds1, p1, q1, rfl, rfl, rfl, h1, r1⟩ := trodAll_cons r0
  obtain ⟨rfl, rfl, rfl⟩ := trodAll_nil r1
  obtain rfl : args = #[v0, v1] := by cases args; simp_all
  obtain ⟨rfl, rfl⟩ := trodVars_none hV
  have k0 := h0
  have lt0 : ∀ x ∈ p0, x.block < W.heap.size := by obtain ⟨m, hm⟩ := k0; exact DataW.trod_lt m _ _ _ hm
  obtain ⟨al0, ql0, cl0, rfl, hq0, hm0⟩ := open_qs (hval 0 22 v0 rfl rfl) h0
  have k1 := h1
  have lt1 : ∀ x ∈ p1, x.block < W.heap.size := by obtain ⟨m, hm⟩ := k1; exact DataW.trod_lt m _ _ _ hm
  obtain ⟨bl1, rl1, dl1, rfl, hr1, hn1⟩ := open_qs (hval 1 22 v1 rfl rfl) h1
  clear hA0 hval0
  have hg := handle_of_laid hL
  refine (seqChecks_w' al0 ql0 cl0 bl1 rl1 dl1 W hq0 hm0 hr1 hn1 hg).mono fun e W' ⟨he, bel⟩ => ?_
  subst he
  exact ⟨_, rfl, _, _, _, [], _, [], hW', trodAll_mk1 (shut_bool Tryd.underlying4 _), (trodAll_cons_mk (Below.trod Tryd.laidOut (by kernel_rfl) (of_decide_eq_true (by kernel_rfl)) k0 bel lt0) (trodAll_cons_mk (Below.trod Tryd.laidOut (by kernel_rfl) (of_decide_eq_true (by kernel_rfl)) k1 bel lt1) trodAll_mk0)), rfl, bel.frame _, fun h => by cases h⟩

theorem over : Rows.seqChecksRow.holds Tryd.pinned (OpenSpec.ofChange Rows.seqChecksSpec) :=
  OpenClaim.holds_of_wide 6 Tryd.f6 rfl rfl rfl rfl rfl rfl rfl ⟨rfl, rfl, rfl, rfl, rfl⟩ rfl rfl rfl rfl rfl (by kernel_rfl) Tryd.func6 (by kernel_rfl)
    (of_decide_eq_true (by kernel_rfl)) (by unfold Func.isWrapper; first | (rw [if_pos (by decide +kernel)]; kernel_rfl) | (rw [if_neg (by decide +kernel)]; exact ⟨rfl, rfl⟩))
    (fun os started H enc _ => lifted os started H enc)

theorem stands (j : Nat) (t : TypeId) (ht : Tryd.f6.params[j]? = some t) : Tryd.prog.wantsStandIn t = false := by
  rw [Tryd.params6] at ht
  have hm := List.mem_of_getElem? (l := [22, 22]) (i := j) (by simpa using ht)
  simp only [List.mem_cons, List.mem_nil_iff, or_false] at hm
  rcases hm with rfl | rfl
  · exact (show Tryd.prog.wantsStandIn 22 = false by kernel_rfl)
  · exact (show Tryd.prog.wantsStandIn 22 = false by kernel_rfl)
theorem proved : Rows.SeqChecksCardSaid :=
  Claim7.holds_tied_plain_at .later [] [.handle] true (true, "cb37553061920402bdd055af3009b9a8cb29df3de4f6bee80ff080aa395d4ff6") true
    over (fun _ h => by cases h) (by kernel_rfl) (fun _ h => by cases h) seqChecks_row_tie rfl ⟨rfl, rfl⟩ (by kernel_rfl) rfl
    (fun f fn hf hfn => by
      obtain rfl : f = 6 := Option.some.inj ((show Tryd.prog.funcNamed "cheesepress/cheesepresslaw20.SeqChecks" = some 6 by kernel_rfl).symm.trans hf) |>.symm
      obtain rfl : fn = Tryd.f6 := (Option.some.inj (Tryd.func6.symm.trans hfn)).symm
      exact ⟨by kernel_rfl, stands⟩)
    (by kernel_rfl)
#print axioms proved
end lawSeqChecks
end Go.Proofs.YtmblpmaelglnpaaDoor
