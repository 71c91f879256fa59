/-
  seq.Of, walked: the errors of the arguments.
-/
import Derived.Test.YtmblpmaelglnpaaDoorRows
import Derived.Test.YtmblpmaelglnpaaDoorSeqOf1
import Derived.Test.YtmblpmaelglnpaaDoorSeqOfPlain
import Derived.Test.YtmblpmaelglnpaaDoorSeqOut
import Derived.Test.YtmblpmaelglnpaaDoorGBase
import Derived.Deep.Light
import Derived.Shelf.Abstract
import Derived.Shelf.RegionOpen
import Derived.OwnWalkIn
import Derived.TacticsInMore
import Derived.LoopNIn
import Derived.LoopIn
import Derived.Deep.RegionHeld3
import Derived.Deep.CutBlock
import Derived.Deep.AppendLies
import Derived.Maps.OwnIn
import Derived.Outline
import Derived.IntWalk
import Derived.WalkMore
namespace Go.Proofs.YtmblpmaelglnpaaDoor
open Go.RowKit
set_option linter.unusedSimpArgs false
set_option linter.unusedVariables false
open Go.Shelf
attribute [local go_sem] eq23 Oper.semAt_some

/-- The error of the arguments. -/
def oE1 (before out : ByteArray) (ls ds ms : List Int) (a b c : Int) : Int :=
  if oR ls ds ms = false then 2 else if 98303 < ls.length then 6 else if chkL true [a, b, c] ≠ 0 then 10 else if 1048576 < before.size ∨ 131072 < out.size then 4 else 0
theorem rof_e1 {before out : ByteArray} {ls ds ms : List Int} {a b c : Int} (h : oE1 before out ls ds ms a b c ≠ 0) : Rof before out ls ds ms a b c = ([], ⟨#[]⟩, (0, 0, 0), oE1 before out ls ds ms a b c) := by
  unfold oE1 at h ⊢
  unfold Rof
  split
  · rfl
  · split
    · rfl
    · split
      · rfl
      · split
        · rfl
        · rename_i h1 h2 h3 h4
          rw [if_neg h1, if_neg h2, if_neg h3, if_neg h4] at h
          exact absurd rfl h
theorem oE1_zero {before out : ByteArray} {ls ds ms : List Int} {a b c : Int} (h : oE1 before out ls ds ms a b c = 0) : oR ls ds ms = true ∧ ls.length ≤ 98303 ∧ chkL true [a, b, c] = 0 ∧ before.size ≤ 1048576 ∧ out.size ≤ 131072 := by
  unfold oE1 at h
  split at h
  · simp at h
  · split at h
    · simp at h
    · split at h
      · simp at h
      · split at h
        · simp at h
        · rename_i h1 h2 h3 h4
          exact ⟨by simpa using h1, by omega, Classical.byContradiction h3, by omega, by omega⟩
theorem oR_parts (ls ds ms : List Int) : oR ls ds ms = ((decide (ds.length = ls.length) && decide (ms.length = ls.length)) && ls.all (wiB 0 131072) && ds.all (wiB 1 2147483648) && ms.all (wiB 3 131074)) := rfl
/-- What is handed back. -/
def OfPost (R : List (Int × Int × Int) × ByteArray × (Int × Int × Int) × Int) (w : World) (e : Ending) (w' : World) : Prop :=
  ∃ pq cq, e = .returned (.tuple #[.slice pq R.1.length cq, .string R.2.1, .agg #[.int .i64 R.2.2.1.1, .int .i64 R.2.2.1.2.1, .int .i64 R.2.2.1.2.2], .int .i64 R.2.2.2]) ∧ RowQ w' pq R.1 ∧ Below w.heap.size w w'
theorem ofPost_err (E : Int) {w w' : World} (hb : Below w.heap.size w w') : OfPost ([], ⟨#[]⟩, (0, 0, 0), E) w (.returned (.tuple #[.slice none 0 0, .string ⟨#[]⟩, .agg #[.int .i64 0, .int .i64 0, .int .i64 0], .int .i64 E])) w' :=
  ⟨none, 0, rfl, .inl rfl, hb⟩
/-- Where the walk stands behind the tests of the arguments. -/
def OSw (w : World) (a b c E : Int) (wx : World) : Prop := Blk wx w.heap.size 24 [.int .i64 a, .int .i64 b, .int .i64 c] ∧ Blk wx (w.heap.size + 1) 24 [.int .i64 0, .int .i64 0, .int .i64 0] ∧ Below w.heap.size w wx
set_option maxRecDepth 100000 in
set_option maxHeartbeats 4000000 in
theorem pof_e (before out : ByteArray) (pl : Option Addr) (ls : List Int) (cl : Nat) (pd : Option Addr) (ds : List Int) (cd : Nat) (pm : Option Addr) (ms : List Int) (cm : Nat) (a b c : Int) (w : World) (hl : Row .i64 w pl ls) (hd : Row .i64 w pd ds) (hm : Row .i64 w pm ms) (nl : ls.length ≤ 140737488355328) (nd : ds.length ≤ 140737488355328) (nm : ms.length ≤ 140737488355328) (nb : before.size ≤ 9223372036854775807) (no : out.size ≤ 9223372036854775807) (h0 : oE1 before out ls ds ms a b c ≠ 0) :
    Calls Tryd.prog 31 #[.string before, .string out, .slice pl ls.length cl, .slice pd ds.length cd, .slice pm ms.length cm, .agg #[.int .i64 a, .int .i64 b, .int .i64 c]] w (OfPost (Rof before out ls ds ms a b c) w) := by
  obtain ⟨RR, hRR⟩ : ∃ R, (Rof before out ls ds ms a b c) = R := ⟨_, rfl⟩
  rw [hRR]
  have HRR := Lib.hid hRR
  clear hRR
  go_enter Tryd.func31, Tryd.ntmps31
  go_upto_block 0 with (fail)
  have bA : Blk ((w.alloc (.cells #[.int .i64 a, .int .i64 b, .int .i64 c] 24)).alloc (.cells #[.int .i64 0, .int .i64 0, .int .i64 0] 24)) w.heap.size 24 [.int .i64 a, .int .i64 b, .int .i64 c] := (Blk.new w 24 #[.int .i64 a, .int .i64 b, .int .i64 c]).alloc _
  have bZ : Blk ((w.alloc (.cells #[.int .i64 a, .int .i64 b, .int .i64 c] 24)).alloc (.cells #[.int .i64 0, .int .i64 0, .int .i64 0] 24)) (w.heap.size + 1) 24 [.int .i64 0, .int .i64 0, .int .i64 0] := by simpa using Blk.new (w.alloc (.cells #[.int .i64 a, .int .i64 b, .int .i64 c] 24)) 24 #[.int .i64 0, .int .i64 0, .int .i64 0]
  have B0 : Below w.heap.size w ((w.alloc (.cells #[.int .i64 a, .int .i64 b, .int .i64 c] 24)).alloc (.cells #[.int .i64 0, .int .i64 0, .int .i64 0] 24)) := by repeat' (first | with_reducible exact Below.refl _ _ | with_reducible refine Below.drew ?_ | with_reducible refine below_drewN ?_ _ | with_reducible refine Below.alloc ?_ (by first | omega | (simp <;> omega)) _ | with_reducible refine Below.setCell ?_ (by first | omega | (dsimp only; omega) | (simp <;> omega)) _ | with_reducible refine Below.trans ?_ (Below.mono (by assumption) (by first | omega | (simp <;> omega))))
  obtain ⟨W0, hW0⟩ : ∃ W0, (w.alloc (.cells #[.int .i64 a, .int .i64 b, .int .i64 c] 24)).alloc (.cells #[.int .i64 0, .int .i64 0, .int .i64 0] 24) = W0 := ⟨_, rfl⟩
  have hs0 : w.heap.size + 2 ≤ W0.heap.size := by rw [← hW0]; simp
  rw [hW0] at bA bZ B0 ⊢
  clear hW0
  have hl0 := hl.later B0
  have hd0 := hd.later B0
  have hm0 := hm.later B0
  obtain ⟨E, hE⟩ : ∃ E, oE1 before out ls ds ms a b c = E := ⟨_, rfl⟩
  have hE0 : E ≠ 0 := by rw [← hE]; exact h0
  clear h0
  go_cut [15] from 24 to 62 (fun s15 wx => s15 = .int .i64 E ∧ Below W0.heap.size W0 wx)
  case first =>
    have qC := fun w => check_p a b c w
    have qA := fun (w : World) B h0 h1 h2 => alike_p B pl pd pm ls.length ds.length ms.length cl cd cm w h0 h1 h2
    have qL := fun w h => within_p pl ls cl 0 131072 w h (by omega)
    have qD := fun w h => within_p pd ds cd 1 2147483648 w h (by omega)
    have qM := fun w h => within_p pm ms cm 3 131074 w h (by omega)
    unfold oE1 at hE
    rw [oR_parts] at hE
    generalize ls.all (wiB 0 131072) = dL at qL hE
    generalize ds.all (wiB 1 2147483648) = dD at qD hE
    generalize ms.all (wiB 3 131074) = dM at qM hE
    generalize (decide (ds.length = ls.length) && decide (ms.length = ls.length)) = dA at qA hE
    generalize chkL true [a, b, c] = dC at qC hE
    have c1 := bA.cell 0
    have c2 := bA.cell 1
    have c3 := bA.cell 2
    have lA := bA.lt
    clear bZ hl hd hm
    have HA := Lib.hid bA
    clear bA
    have HE := Lib.hid hE
    clear hE
    cases dA
    · go_wp2_with (first | (go_at_call 72; go_loud (refine (qA _ _ (by simp [go_sem]) (by simp [go_sem]) (by simp [go_sem])).mono ?_; rintro en wA ⟨rfl, hbA⟩; have hsA := hbA.size; (simp at hsA))))
      go_meet
      go_light
      refine ⟨congrArg (Value.int .i64) ((if_pos (by simp)).symm.trans HE.out), ?_⟩
      repeat' (first | with_reducible exact Below.refl _ _ | with_reducible refine Below.drew ?_ | with_reducible refine below_drewN ?_ _ | with_reducible refine Below.alloc ?_ (by first | omega | (simp <;> omega)) _ | with_reducible refine Below.setCell ?_ (by first | omega | (dsimp only; omega) | (simp <;> omega)) _ | with_reducible refine Below.trans ?_ (Below.mono (by assumption) (by first | omega | (simp <;> omega))))
    cases dL
    · go_wp2_with (first | (go_at_call 72; go_loud (refine (qA _ _ (by simp [go_sem]) (by simp [go_sem]) (by simp [go_sem])).mono ?_; rintro en wA ⟨rfl, hbA⟩; have hsA := hbA.size; (simp at hsA))) | (go_at_call 73; (with_reducible refine (qL _ (hl0.later ?_)).mono ?_); (case refine_1 => (repeat' (first | with_reducible exact Below.refl _ _ | with_reducible refine Below.drew ?_ | with_reducible refine below_drewN ?_ _ | with_reducible refine Below.alloc ?_ (by first | omega | (simp <;> omega)) _ | with_reducible refine Below.setCell ?_ (by first | omega | (dsimp only; omega) | (simp <;> omega)) _ | with_reducible refine Below.trans ?_ (Below.mono (by assumption) (by first | omega | (simp <;> omega)))))); rintro en wL ⟨rfl, hbL⟩; have hsL := hbL.size))
      go_meet
      go_light
      refine ⟨congrArg (Value.int .i64) ((if_pos (by simp)).symm.trans HE.out), ?_⟩
      repeat' (first | with_reducible exact Below.refl _ _ | with_reducible refine Below.drew ?_ | with_reducible refine below_drewN ?_ _ | with_reducible refine Below.alloc ?_ (by first | omega | (simp <;> omega)) _ | with_reducible refine Below.setCell ?_ (by first | omega | (dsimp only; omega) | (simp <;> omega)) _ | with_reducible refine Below.trans ?_ (Below.mono (by assumption) (by first | omega | (simp <;> omega))))
    cases dD
    · go_wp2_with (first | (go_at_call 72; go_loud (refine (qA _ _ (by simp [go_sem]) (by simp [go_sem]) (by simp [go_sem])).mono ?_; rintro en wA ⟨rfl, hbA⟩; have hsA := hbA.size; (simp at hsA))) | (go_at_call 73; (with_reducible refine (qL _ (hl0.later ?_)).mono ?_); (case refine_1 => (repeat' (first | with_reducible exact Below.refl _ _ | with_reducible refine Below.drew ?_ | with_reducible refine below_drewN ?_ _ | with_reducible refine Below.alloc ?_ (by first | omega | (simp <;> omega)) _ | with_reducible refine Below.setCell ?_ (by first | omega | (dsimp only; omega) | (simp <;> omega)) _ | with_reducible refine Below.trans ?_ (Below.mono (by assumption) (by first | omega | (simp <;> omega)))))); rintro en wL ⟨rfl, hbL⟩; have hsL := hbL.size) | (go_at_call 73; (with_reducible refine (qD _ (hd0.later ?_)).mono ?_); (case refine_1 => (repeat' (first | with_reducible exact Below.refl _ _ | with_reducible refine Below.drew ?_ | with_reducible refine below_drewN ?_ _ | with_reducible refine Below.alloc ?_ (by first | omega | (simp <;> omega)) _ | with_reducible refine Below.setCell ?_ (by first | omega | (dsimp only; omega) | (simp <;> omega)) _ | with_reducible refine Below.trans ?_ (Below.mono (by assumption) (by first | omega | (simp <;> omega)))))); rintro en wD ⟨rfl, hbD⟩; have hsD := hbD.size))
      go_meet
      go_light
      refine ⟨congrArg (Value.int .i64) ((if_pos (by simp)).symm.trans HE.out), ?_⟩
      repeat' (first | with_reducible exact Below.refl _ _ | with_reducible refine Below.drew ?_ | with_reducible refine below_drewN ?_ _ | with_reducible refine Below.alloc ?_ (by first | omega | (simp <;> omega)) _ | with_reducible refine Below.setCell ?_ (by first | omega | (dsimp only; omega) | (simp <;> omega)) _ | with_reducible refine Below.trans ?_ (Below.mono (by assumption) (by first | omega | (simp <;> omega))))
    cases dM
    · go_wp2_with (first | (go_at_call 72; go_loud (refine (qA _ _ (by simp [go_sem]) (by simp [go_sem]) (by simp [go_sem])).mono ?_; rintro en wA ⟨rfl, hbA⟩; have hsA := hbA.size; (simp at hsA))) | (go_at_call 73; (with_reducible refine (qL _ (hl0.later ?_)).mono ?_); (case refine_1 => (repeat' (first | with_reducible exact Below.refl _ _ | with_reducible refine Below.drew ?_ | with_reducible refine below_drewN ?_ _ | with_reducible refine Below.alloc ?_ (by first | omega | (simp <;> omega)) _ | with_reducible refine Below.setCell ?_ (by first | omega | (dsimp only; omega) | (simp <;> omega)) _ | with_reducible refine Below.trans ?_ (Below.mono (by assumption) (by first | omega | (simp <;> omega)))))); rintro en wL ⟨rfl, hbL⟩; have hsL := hbL.size) | (go_at_call 73; (with_reducible refine (qD _ (hd0.later ?_)).mono ?_); (case refine_1 => (repeat' (first | with_reducible exact Below.refl _ _ | with_reducible refine Below.drew ?_ | with_reducible refine below_drewN ?_ _ | with_reducible refine Below.alloc ?_ (by first | omega | (simp <;> omega)) _ | with_reducible refine Below.setCell ?_ (by first | omega | (dsimp only; omega) | (simp <;> omega)) _ | with_reducible refine Below.trans ?_ (Below.mono (by assumption) (by first | omega | (simp <;> omega)))))); rintro en wD ⟨rfl, hbD⟩; have hsD := hbD.size) | (go_at_call 73; (with_reducible refine (qM _ (hm0.later ?_)).mono ?_); (case refine_1 => (repeat' (first | with_reducible exact Below.refl _ _ | with_reducible refine Below.drew ?_ | with_reducible refine below_drewN ?_ _ | with_reducible refine Below.alloc ?_ (by first | omega | (simp <;> omega)) _ | with_reducible refine Below.setCell ?_ (by first | omega | (dsimp only; omega) | (simp <;> omega)) _ | with_reducible refine Below.trans ?_ (Below.mono (by assumption) (by first | omega | (simp <;> omega)))))); rintro en wM ⟨rfl, hbM⟩; have hsM := hbM.size))
      go_meet
      go_light
      refine ⟨congrArg (Value.int .i64) ((if_pos (by simp)).symm.trans HE.out), ?_⟩
      repeat' (first | with_reducible exact Below.refl _ _ | with_reducible refine Below.drew ?_ | with_reducible refine below_drewN ?_ _ | with_reducible refine Below.alloc ?_ (by first | omega | (simp <;> omega)) _ | with_reducible refine Below.setCell ?_ (by first | omega | (dsimp only; omega) | (simp <;> omega)) _ | with_reducible refine Below.trans ?_ (Below.mono (by assumption) (by first | omega | (simp <;> omega))))
    have N1 : ¬ ((true && true && true && true) = false) := by simp
    by_cases h6 : 98303 < ls.length
    · have g6 : decide ((98303 : Int) < (ls.length : Int)) = true := by simp; omega
      have H6 := Lib.hid h6
      clear h6
      go_wp2_with (first | (go_at_call 72; go_loud (refine (qA _ _ (by simp [go_sem]) (by simp [go_sem]) (by simp [go_sem])).mono ?_; rintro en wA ⟨rfl, hbA⟩; have hsA := hbA.size; (simp at hsA))) | (go_at_call 73; (with_reducible refine (qL _ (hl0.later ?_)).mono ?_); (case refine_1 => (repeat' (first | with_reducible exact Below.refl _ _ | with_reducible refine Below.drew ?_ | with_reducible refine below_drewN ?_ _ | with_reducible refine Below.alloc ?_ (by first | omega | (simp <;> omega)) _ | with_reducible refine Below.setCell ?_ (by first | omega | (dsimp only; omega) | (simp <;> omega)) _ | with_reducible refine Below.trans ?_ (Below.mono (by assumption) (by first | omega | (simp <;> omega)))))); rintro en wL ⟨rfl, hbL⟩; have hsL := hbL.size) | (go_at_call 73; (with_reducible refine (qD _ (hd0.later ?_)).mono ?_); (case refine_1 => (repeat' (first | with_reducible exact Below.refl _ _ | with_reducible refine Below.drew ?_ | with_reducible refine below_drewN ?_ _ | with_reducible refine Below.alloc ?_ (by first | omega | (simp <;> omega)) _ | with_reducible refine Below.setCell ?_ (by first | omega | (dsimp only; omega) | (simp <;> omega)) _ | with_reducible refine Below.trans ?_ (Below.mono (by assumption) (by first | omega | (simp <;> omega)))))); rintro en wD ⟨rfl, hbD⟩; have hsD := hbD.size) | (go_at_call 73; (with_reducible refine (qM _ (hm0.later ?_)).mono ?_); (case refine_1 => (repeat' (first | with_reducible exact Below.refl _ _ | with_reducible refine Below.drew ?_ | with_reducible refine below_drewN ?_ _ | with_reducible refine Below.alloc ?_ (by first | omega | (simp <;> omega)) _ | with_reducible refine Below.setCell ?_ (by first | omega | (dsimp only; omega) | (simp <;> omega)) _ | with_reducible refine Below.trans ?_ (Below.mono (by assumption) (by first | omega | (simp <;> omega)))))); rintro en wM ⟨rfl, hbM⟩; have hsM := hbM.size))
      go_meet
      go_light
      refine ⟨congrArg (Value.int .i64) (((if_neg N1).trans (if_pos H6.out)).symm.trans HE.out), ?_⟩
      repeat' (first | with_reducible exact Below.refl _ _ | with_reducible refine Below.drew ?_ | with_reducible refine below_drewN ?_ _ | with_reducible refine Below.alloc ?_ (by first | omega | (simp <;> omega)) _ | with_reducible refine Below.setCell ?_ (by first | omega | (dsimp only; omega) | (simp <;> omega)) _ | with_reducible refine Below.trans ?_ (Below.mono (by assumption) (by first | omega | (simp <;> omega))))
    have g6 : decide ((98303 : Int) < (ls.length : Int)) = false := by simp; omega
    have H6 := Lib.hid h6
    clear h6
    by_cases h10 : dC ≠ 0
    · have g10 : (dC != 0) = true := by simpa using h10
      have H10 := Lib.hid h10
      clear h10
      go_wp2_with (first | (go_at_call 72; go_loud (refine (qA _ _ (by simp [go_sem]) (by simp [go_sem]) (by simp [go_sem])).mono ?_; rintro en wA ⟨rfl, hbA⟩; have hsA := hbA.size; (simp at hsA))) | (go_at_call 73; (with_reducible refine (qL _ (hl0.later ?_)).mono ?_); (case refine_1 => (repeat' (first | with_reducible exact Below.refl _ _ | with_reducible refine Below.drew ?_ | with_reducible refine below_drewN ?_ _ | with_reducible refine Below.alloc ?_ (by first | omega | (simp <;> omega)) _ | with_reducible refine Below.setCell ?_ (by first | omega | (dsimp only; omega) | (simp <;> omega)) _ | with_reducible refine Below.trans ?_ (Below.mono (by assumption) (by first | omega | (simp <;> omega)))))); rintro en wL ⟨rfl, hbL⟩; have hsL := hbL.size) | (go_at_call 73; (with_reducible refine (qD _ (hd0.later ?_)).mono ?_); (case refine_1 => (repeat' (first | with_reducible exact Below.refl _ _ | with_reducible refine Below.drew ?_ | with_reducible refine below_drewN ?_ _ | with_reducible refine Below.alloc ?_ (by first | omega | (simp <;> omega)) _ | with_reducible refine Below.setCell ?_ (by first | omega | (dsimp only; omega) | (simp <;> omega)) _ | with_reducible refine Below.trans ?_ (Below.mono (by assumption) (by first | omega | (simp <;> omega)))))); rintro en wD ⟨rfl, hbD⟩; have hsD := hbD.size) | (go_at_call 73; (with_reducible refine (qM _ (hm0.later ?_)).mono ?_); (case refine_1 => (repeat' (first | with_reducible exact Below.refl _ _ | with_reducible refine Below.drew ?_ | with_reducible refine below_drewN ?_ _ | with_reducible refine Below.alloc ?_ (by first | omega | (simp <;> omega)) _ | with_reducible refine Below.setCell ?_ (by first | omega | (dsimp only; omega) | (simp <;> omega)) _ | with_reducible refine Below.trans ?_ (Below.mono (by assumption) (by first | omega | (simp <;> omega)))))); rintro en wM ⟨rfl, hbM⟩; have hsM := hbM.size; have kA := ((((HA.out.alloc _).later hbA).later hbL).later hbD).later hbM; have x1 := kA.cell 0; have x2 := kA.cell 1; have x3 := kA.cell 2) | (go_at_call 59; refine (qC _).mono ?_; rintro en wC ⟨rfl, hbC⟩; have hsC := hbC.size))
      go_meet
      go_light
      refine ⟨congrArg (Value.int .i64) (((if_neg N1).trans ((if_neg H6.out).trans (if_pos H10.out))).symm.trans HE.out), ?_⟩
      repeat' (first | with_reducible exact Below.refl _ _ | with_reducible refine Below.drew ?_ | with_reducible refine below_drewN ?_ _ | with_reducible refine Below.alloc ?_ (by first | omega | (simp <;> omega)) _ | with_reducible refine Below.setCell ?_ (by first | omega | (dsimp only; omega) | (simp <;> omega)) _ | with_reducible refine Below.trans ?_ (Below.mono (by assumption) (by first | omega | (simp <;> omega))))
    have h10' : dC = 0 := Classical.byContradiction h10
    subst h10'
    have H10 := Lib.hid h10
    clear h10
    by_cases h4 : 1048576 < before.size
    · have g4 : decide ((1048576 : Int) < (before.size : Int)) = true := by simp; omega
      have H4 := Lib.hid h4
      clear h4
      go_wp2_with (first | (go_at_call 72; go_loud (refine (qA _ _ (by simp [go_sem]) (by simp [go_sem]) (by simp [go_sem])).mono ?_; rintro en wA ⟨rfl, hbA⟩; have hsA := hbA.size; (simp at hsA))) | (go_at_call 73; (with_reducible refine (qL _ (hl0.later ?_)).mono ?_); (case refine_1 => (repeat' (first | with_reducible exact Below.refl _ _ | with_reducible refine Below.drew ?_ | with_reducible refine below_drewN ?_ _ | with_reducible refine Below.alloc ?_ (by first | omega | (simp <;> omega)) _ | with_reducible refine Below.setCell ?_ (by first | omega | (dsimp only; omega) | (simp <;> omega)) _ | with_reducible refine Below.trans ?_ (Below.mono (by assumption) (by first | omega | (simp <;> omega)))))); rintro en wL ⟨rfl, hbL⟩; have hsL := hbL.size) | (go_at_call 73; (with_reducible refine (qD _ (hd0.later ?_)).mono ?_); (case refine_1 => (repeat' (first | with_reducible exact Below.refl _ _ | with_reducible refine Below.drew ?_ | with_reducible refine below_drewN ?_ _ | with_reducible refine Below.alloc ?_ (by first | omega | (simp <;> omega)) _ | with_reducible refine Below.setCell ?_ (by first | omega | (dsimp only; omega) | (simp <;> omega)) _ | with_reducible refine Below.trans ?_ (Below.mono (by assumption) (by first | omega | (simp <;> omega)))))); rintro en wD ⟨rfl, hbD⟩; have hsD := hbD.size) | (go_at_call 73; (with_reducible refine (qM _ (hm0.later ?_)).mono ?_); (case refine_1 => (repeat' (first | with_reducible exact Below.refl _ _ | with_reducible refine Below.drew ?_ | with_reducible refine below_drewN ?_ _ | with_reducible refine Below.alloc ?_ (by first | omega | (simp <;> omega)) _ | with_reducible refine Below.setCell ?_ (by first | omega | (dsimp only; omega) | (simp <;> omega)) _ | with_reducible refine Below.trans ?_ (Below.mono (by assumption) (by first | omega | (simp <;> omega)))))); rintro en wM ⟨rfl, hbM⟩; have hsM := hbM.size; have kA := ((((HA.out.alloc _).later hbA).later hbL).later hbD).later hbM; have x1 := kA.cell 0; have x2 := kA.cell 1; have x3 := kA.cell 2) | (go_at_call 59; refine (qC _).mono ?_; rintro en wC ⟨rfl, hbC⟩; have hsC := hbC.size))
      go_meet
      go_light
      refine ⟨congrArg (Value.int .i64) (((if_neg N1).trans ((if_neg H6.out).trans ((if_neg H10.out).trans (if_pos (.inl H4.out))))).symm.trans HE.out), ?_⟩
      repeat' (first | with_reducible exact Below.refl _ _ | with_reducible refine Below.drew ?_ | with_reducible refine below_drewN ?_ _ | with_reducible refine Below.alloc ?_ (by first | omega | (simp <;> omega)) _ | with_reducible refine Below.setCell ?_ (by first | omega | (dsimp only; omega) | (simp <;> omega)) _ | with_reducible refine Below.trans ?_ (Below.mono (by assumption) (by first | omega | (simp <;> omega))))
    have g4 : decide ((1048576 : Int) < (before.size : Int)) = false := by simp; omega
    by_cases h5 : 131072 < out.size
    · have g5 : decide ((131072 : Int) < (out.size : Int)) = true := by simp; omega
      have H5 := Lib.hid h5
      clear h5 h4
      go_wp2_with (first | (go_at_call 72; go_loud (refine (qA _ _ (by simp [go_sem]) (by simp [go_sem]) (by simp [go_sem])).mono ?_; rintro en wA ⟨rfl, hbA⟩; have hsA := hbA.size; (simp at hsA))) | (go_at_call 73; (with_reducible refine (qL _ (hl0.later ?_)).mono ?_); (case refine_1 => (repeat' (first | with_reducible exact Below.refl _ _ | with_reducible refine Below.drew ?_ | with_reducible refine below_drewN ?_ _ | with_reducible refine Below.alloc ?_ (by first | omega | (simp <;> omega)) _ | with_reducible refine Below.setCell ?_ (by first | omega | (dsimp only; omega) | (simp <;> omega)) _ | with_reducible refine Below.trans ?_ (Below.mono (by assumption) (by first | omega | (simp <;> omega)))))); rintro en wL ⟨rfl, hbL⟩; have hsL := hbL.size) | (go_at_call 73; (with_reducible refine (qD _ (hd0.later ?_)).mono ?_); (case refine_1 => (repeat' (first | with_reducible exact Below.refl _ _ | with_reducible refine Below.drew ?_ | with_reducible refine below_drewN ?_ _ | with_reducible refine Below.alloc ?_ (by first | omega | (simp <;> omega)) _ | with_reducible refine Below.setCell ?_ (by first | omega | (dsimp only; omega) | (simp <;> omega)) _ | with_reducible refine Below.trans ?_ (Below.mono (by assumption) (by first | omega | (simp <;> omega)))))); rintro en wD ⟨rfl, hbD⟩; have hsD := hbD.size) | (go_at_call 73; (with_reducible refine (qM _ (hm0.later ?_)).mono ?_); (case refine_1 => (repeat' (first | with_reducible exact Below.refl _ _ | with_reducible refine Below.drew ?_ | with_reducible refine below_drewN ?_ _ | with_reducible refine Below.alloc ?_ (by first | omega | (simp <;> omega)) _ | with_reducible refine Below.setCell ?_ (by first | omega | (dsimp only; omega) | (simp <;> omega)) _ | with_reducible refine Below.trans ?_ (Below.mono (by assumption) (by first | omega | (simp <;> omega)))))); rintro en wM ⟨rfl, hbM⟩; have hsM := hbM.size; have kA := ((((HA.out.alloc _).later hbA).later hbL).later hbD).later hbM; have x1 := kA.cell 0; have x2 := kA.cell 1; have x3 := kA.cell 2) | (go_at_call 59; refine (qC _).mono ?_; rintro en wC ⟨rfl, hbC⟩; have hsC := hbC.size))
      go_meet
      go_light
      refine ⟨congrArg (Value.int .i64) (((if_neg N1).trans ((if_neg H6.out).trans ((if_neg H10.out).trans (if_pos (.inr H5.out))))).symm.trans HE.out), ?_⟩
      repeat' (first | with_reducible exact Below.refl _ _ | with_reducible refine Below.drew ?_ | with_reducible refine below_drewN ?_ _ | with_reducible refine Below.alloc ?_ (by first | omega | (simp <;> omega)) _ | with_reducible refine Below.setCell ?_ (by first | omega | (dsimp only; omega) | (simp <;> omega)) _ | with_reducible refine Below.trans ?_ (Below.mono (by assumption) (by first | omega | (simp <;> omega))))
    · have g5 : decide ((131072 : Int) < (out.size : Int)) = false := by simp; omega
      have H5 := Lib.hid (fun h : 1048576 < before.size ∨ 131072 < out.size => h.elim h4 h5)
      clear h5 h4
      go_wp2_with (first | (go_at_call 72; go_loud (refine (qA _ _ (by simp [go_sem]) (by simp [go_sem]) (by simp [go_sem])).mono ?_; rintro en wA ⟨rfl, hbA⟩; have hsA := hbA.size; (simp at hsA))) | (go_at_call 73; (with_reducible refine (qL _ (hl0.later ?_)).mono ?_); (case refine_1 => (repeat' (first | with_reducible exact Below.refl _ _ | with_reducible refine Below.drew ?_ | with_reducible refine below_drewN ?_ _ | with_reducible refine Below.alloc ?_ (by first | omega | (simp <;> omega)) _ | with_reducible refine Below.setCell ?_ (by first | omega | (dsimp only; omega) | (simp <;> omega)) _ | with_reducible refine Below.trans ?_ (Below.mono (by assumption) (by first | omega | (simp <;> omega)))))); rintro en wL ⟨rfl, hbL⟩; have hsL := hbL.size) | (go_at_call 73; (with_reducible refine (qD _ (hd0.later ?_)).mono ?_); (case refine_1 => (repeat' (first | with_reducible exact Below.refl _ _ | with_reducible refine Below.drew ?_ | with_reducible refine below_drewN ?_ _ | with_reducible refine Below.alloc ?_ (by first | omega | (simp <;> omega)) _ | with_reducible refine Below.setCell ?_ (by first | omega | (dsimp only; omega) | (simp <;> omega)) _ | with_reducible refine Below.trans ?_ (Below.mono (by assumption) (by first | omega | (simp <;> omega)))))); rintro en wD ⟨rfl, hbD⟩; have hsD := hbD.size) | (go_at_call 73; (with_reducible refine (qM _ (hm0.later ?_)).mono ?_); (case refine_1 => (repeat' (first | with_reducible exact Below.refl _ _ | with_reducible refine Below.drew ?_ | with_reducible refine below_drewN ?_ _ | with_reducible refine Below.alloc ?_ (by first | omega | (simp <;> omega)) _ | with_reducible refine Below.setCell ?_ (by first | omega | (dsimp only; omega) | (simp <;> omega)) _ | with_reducible refine Below.trans ?_ (Below.mono (by assumption) (by first | omega | (simp <;> omega)))))); rintro en wM ⟨rfl, hbM⟩; have hsM := hbM.size; have kA := ((((HA.out.alloc _).later hbA).later hbL).later hbD).later hbM; have x1 := kA.cell 0; have x2 := kA.cell 1; have x3 := kA.cell 2) | (go_at_call 59; refine (qC _).mono ?_; rintro en wC ⟨rfl, hbC⟩; have hsC := hbC.size))
      go_meet
      go_light
      refine ⟨congrArg (Value.int .i64) (((if_neg N1).trans ((if_neg H6.out).trans ((if_neg H10.out).trans (if_neg H5.out)))).symm.trans HE.out), ?_⟩
      repeat' (first | with_reducible exact Below.refl _ _ | with_reducible refine Below.drew ?_ | with_reducible refine below_drewN ?_ _ | with_reducible refine Below.alloc ?_ (by first | omega | (simp <;> omega)) _ | with_reducible refine Below.setCell ?_ (by first | omega | (dsimp only; omega) | (simp <;> omega)) _ | with_reducible refine Below.trans ?_ (Below.mono (by assumption) (by first | omega | (simp <;> omega))))
  case rest =>
    obtain ⟨rfl, hbc⟩ := hcut
    have hsc := hbc.size
    have B1 : Below w.heap.size w wc := B0.trans (hbc.mono (by omega))
    have bA1 := bA.later hbc
    have bZ1 := bZ.later hbc
    have hl1 := hl0.later hbc
    have hd1 := hd0.later hbc
    have hm1 := hm0.later hbc
    have ht1 : w.heap.size + 2 ≤ wc.heap.size := by omega
    clear hbc hsc bA bZ hl0 hd0 hm0 B0 hs0 hl hd hm
    · have hR := rof_e1 (before := before) (out := out) (ls := ls) (ds := ds) (ms := ms) (a := a) (b := b) (c := c) (by rw [hE]; exact hE0)
      rw [hE] at hR
      obtain rfl : RR = ([], ⟨#[]⟩, (0, 0, 0), E) := HRR.out.symm.trans hR
      have g0 : (E == 0) = false := by simpa using hE0
      have g1 : (E != 0) = true := by simpa using hE0
      clear hR hE hE0 bA1 HRR
      have HZ := Lib.hid bZ1
      clear bZ1
      obtain ⟨N, hN1, hN2, hN3⟩ : ∃ N : Nat, N ≤ ls.length ∧ N ≤ ms.length ∧ (ls.length = N ∨ ms.length = N) := ⟨min ls.length ms.length, by omega, by omega, by omega⟩
      rcases (show ls.length < ms.length ∨ ls.length = ms.length ∨ ms.length < ls.length by omega) with hc | hc | hc
      · have hNN : N = ls.length := by omega
        subst hNN
        have hc' : (ls.length : Int) < (ms.length : Int) := by omega
        go_wp2
        go_loopw [16, 68] (fun v16 v68 wr => ∃ (k : Nat) (n : Int), v68 = .int .i64 (k : Int) ∧ k ≤ ls.length ∧ v16 = .int .i64 n ∧ Below wc.heap.size wc wr) (fun _ v _ => ls.length - (intOf v).toNat)
        case atStart => exact ⟨0, 0, rfl, by omega, rfl, Below.refl _ _⟩
        case round =>
          obtain ⟨k, n, rfl, hk, rfl, hb⟩ := hrel
          by_cases hlt : k < ls.length
          · obtain ⟨b1, o1, rfl, hb1, hc1⟩ := (hl1.later hb).at (by omega : k < ls.length)
            obtain ⟨b2, o2, rfl, hb2, hc2⟩ := (hm1.later hb).at (by omega : k < ms.length)
            have c1 := hc1 k (by omega)
            have c2 := hc2 k (by omega)
            generalize ls.getD k 0 = x at c1
            generalize ms.getD k 0 = m at c2
            have i0 : (0 : Int) ≤ (k : Int) := by omega
            have i1 : (k : Int) < (ls.length : Int) := by omega
            have i2 : (k : Int) < (ms.length : Int) := by omega
            clear hc1 hc2
            obtain ⟨y1, hy1⟩ : ∃ y, IntKind.i64.wrap (n + x) = y := ⟨_, rfl⟩
            rcases (show y1 < 131073 ∨ y1 = 131073 ∨ 131073 < y1 by omega) with e1 | e1 | e1
            · obtain ⟨y2, hy2⟩ : ∃ y, IntKind.i64.wrap (y1 + m) = y := ⟨_, rfl⟩
              rcases (show y2 < 131073 ∨ y2 = 131073 ∨ 131073 < y2 by omega) with e2 | e2 | e2
              all_goals
                (try subst e2)
                go_wp2
                go_roundw
                case rel => exact ⟨k + 1, _, by go_num, by omega, rfl, hb⟩
                case measure => go_light; simp [intOf] <;> omega
            all_goals
              (try subst e1)
              obtain ⟨y2, hy2⟩ : ∃ y, IntKind.i64.wrap (131073 + m) = y := ⟨_, rfl⟩
              rcases (show y2 < 131073 ∨ y2 = 131073 ∨ 131073 < y2 by omega) with e2 | e2 | e2
              all_goals
                (try subst e2)
                go_wp2
                go_roundw
                case rel => exact ⟨k + 1, _, by go_num, by omega, rfl, hb⟩
                case measure => go_light; simp [intOf] <;> omega
          · obtain rfl : k = ls.length := by omega
            have jj : ¬ (ls.length : Int) < (ls.length : Int) := by omega
            have z0 := (HZ.out.later hb)
            have zc0 := z0.cell 0
            have zc1 := z0.cell 1
            have zc2 := z0.cell 2
            have zf0 := z0.frozen 0
            have zf1 := z0.frozen 1
            have zf2 := z0.frozen 2
            go_wp2
            go_region
            all_goals
              go_wp2
              go_light
              refine bodyPost_ret (v := .tuple #[.slice none 0 0, .string ⟨#[]⟩, .agg #[.int .i64 0, .int .i64 0, .int .i64 0], .int .i64 E]) (by simp [results, Tryd.results31, go_sem, *]) rfl (ofPost_err _ ?_)
              repeat' (first | with_reducible exact Below.refl _ _ | with_reducible refine Below.drew ?_ | with_reducible refine below_drewN ?_ _ | with_reducible refine Below.alloc ?_ (by first | omega | (simp <;> omega)) _ | with_reducible refine Below.setCell ?_ (by first | omega | (dsimp only; omega) | (simp <;> omega)) _ | with_reducible refine Below.trans ?_ (Below.mono (by assumption) (by first | omega | (simp <;> omega))))
      · have hNN : N = ls.length := by omega
        subst hNN
        rw [← hc]
        have nm : ls.length ≤ ms.length := by omega
        go_wp2
        go_loopw [16, 68] (fun v16 v68 wr => ∃ (k : Nat) (n : Int), v68 = .int .i64 (k : Int) ∧ k ≤ ls.length ∧ v16 = .int .i64 n ∧ Below wc.heap.size wc wr) (fun _ v _ => ls.length - (intOf v).toNat)
        case atStart => exact ⟨0, 0, rfl, by omega, rfl, Below.refl _ _⟩
        case round =>
          obtain ⟨k, n, rfl, hk, rfl, hb⟩ := hrel
          by_cases hlt : k < ls.length
          · obtain ⟨b1, o1, rfl, hb1, hc1⟩ := (hl1.later hb).at (by omega : k < ls.length)
            obtain ⟨b2, o2, rfl, hb2, hc2⟩ := (hm1.later hb).at (by omega : k < ms.length)
            have c1 := hc1 k (by omega)
            have c2 := hc2 k (by omega)
            generalize ls.getD k 0 = x at c1
            generalize ms.getD k 0 = m at c2
            have i0 : (0 : Int) ≤ (k : Int) := by omega
            have i1 : (k : Int) < (ls.length : Int) := by omega
            have i2 : (k : Int) < (ms.length : Int) := by omega
            clear hc1 hc2
            obtain ⟨y1, hy1⟩ : ∃ y, IntKind.i64.wrap (n + x) = y := ⟨_, rfl⟩
            rcases (show y1 < 131073 ∨ y1 = 131073 ∨ 131073 < y1 by omega) with e1 | e1 | e1
            · obtain ⟨y2, hy2⟩ : ∃ y, IntKind.i64.wrap (y1 + m) = y := ⟨_, rfl⟩
              rcases (show y2 < 131073 ∨ y2 = 131073 ∨ 131073 < y2 by omega) with e2 | e2 | e2
              all_goals
                (try subst e2)
                go_wp2
                go_roundw
                case rel => exact ⟨k + 1, _, by go_num, by omega, rfl, hb⟩
                case measure => go_light; simp [intOf] <;> omega
            all_goals
              (try subst e1)
              obtain ⟨y2, hy2⟩ : ∃ y, IntKind.i64.wrap (131073 + m) = y := ⟨_, rfl⟩
              rcases (show y2 < 131073 ∨ y2 = 131073 ∨ 131073 < y2 by omega) with e2 | e2 | e2
              all_goals
                (try subst e2)
                go_wp2
                go_roundw
                case rel => exact ⟨k + 1, _, by go_num, by omega, rfl, hb⟩
                case measure => go_light; simp [intOf] <;> omega
          · obtain rfl : k = ls.length := by omega
            have jj : ¬ (ls.length : Int) < (ls.length : Int) := by omega
            have z0 := (HZ.out.later hb)
            have zc0 := z0.cell 0
            have zc1 := z0.cell 1
            have zc2 := z0.cell 2
            have zf0 := z0.frozen 0
            have zf1 := z0.frozen 1
            have zf2 := z0.frozen 2
            go_wp2
            go_region
            all_goals
              go_wp2
              go_light
              refine bodyPost_ret (v := .tuple #[.slice none 0 0, .string ⟨#[]⟩, .agg #[.int .i64 0, .int .i64 0, .int .i64 0], .int .i64 E]) (by simp [results, Tryd.results31, go_sem, *]) rfl (ofPost_err _ ?_)
              repeat' (first | with_reducible exact Below.refl _ _ | with_reducible refine Below.drew ?_ | with_reducible refine below_drewN ?_ _ | with_reducible refine Below.alloc ?_ (by first | omega | (simp <;> omega)) _ | with_reducible refine Below.setCell ?_ (by first | omega | (dsimp only; omega) | (simp <;> omega)) _ | with_reducible refine Below.trans ?_ (Below.mono (by assumption) (by first | omega | (simp <;> omega))))
      · have hNN : N = ms.length := by omega
        subst hNN
        have hc' : (ms.length : Int) < (ls.length : Int) := by omega
        go_wp2
        go_loopw [16, 68] (fun v16 v68 wr => ∃ (k : Nat) (n : Int), v68 = .int .i64 (k : Int) ∧ k ≤ ms.length ∧ v16 = .int .i64 n ∧ Below wc.heap.size wc wr) (fun _ v _ => ms.length - (intOf v).toNat)
        case atStart => exact ⟨0, 0, rfl, by omega, rfl, Below.refl _ _⟩
        case round =>
          obtain ⟨k, n, rfl, hk, rfl, hb⟩ := hrel
          by_cases hlt : k < ms.length
          · obtain ⟨b1, o1, rfl, hb1, hc1⟩ := (hl1.later hb).at (by omega : k < ls.length)
            obtain ⟨b2, o2, rfl, hb2, hc2⟩ := (hm1.later hb).at (by omega : k < ms.length)
            have c1 := hc1 k (by omega)
            have c2 := hc2 k (by omega)
            generalize ls.getD k 0 = x at c1
            generalize ms.getD k 0 = m at c2
            have i0 : (0 : Int) ≤ (k : Int) := by omega
            have i1 : (k : Int) < (ls.length : Int) := by omega
            have i2 : (k : Int) < (ms.length : Int) := by omega
            clear hc1 hc2
            obtain ⟨y1, hy1⟩ : ∃ y, IntKind.i64.wrap (n + x) = y := ⟨_, rfl⟩
            rcases (show y1 < 131073 ∨ y1 = 131073 ∨ 131073 < y1 by omega) with e1 | e1 | e1
            · obtain ⟨y2, hy2⟩ : ∃ y, IntKind.i64.wrap (y1 + m) = y := ⟨_, rfl⟩
              rcases (show y2 < 131073 ∨ y2 = 131073 ∨ 131073 < y2 by omega) with e2 | e2 | e2
              all_goals
                (try subst e2)
                go_wp2
                go_roundw
                case rel => exact ⟨k + 1, _, by go_num, by omega, rfl, hb⟩
                case measure => go_light; simp [intOf] <;> omega
            all_goals
              (try subst e1)
              obtain ⟨y2, hy2⟩ : ∃ y, IntKind.i64.wrap (131073 + m) = y := ⟨_, rfl⟩
              rcases (show y2 < 131073 ∨ y2 = 131073 ∨ 131073 < y2 by omega) with e2 | e2 | e2
              all_goals
                (try subst e2)
                go_wp2
                go_roundw
                case rel => exact ⟨k + 1, _, by go_num, by omega, rfl, hb⟩
                case measure => go_light; simp [intOf] <;> omega
          · obtain rfl : k = ms.length := by omega
            have jj : ¬ (ms.length : Int) < (ms.length : Int) := by omega
            have z0 := (HZ.out.later hb)
            have zc0 := z0.cell 0
            have zc1 := z0.cell 1
            have zc2 := z0.cell 2
            have zf0 := z0.frozen 0
            have zf1 := z0.frozen 1
            have zf2 := z0.frozen 2
            go_wp2
            go_region
            all_goals
              go_wp2
              go_light
              refine bodyPost_ret (v := .tuple #[.slice none 0 0, .string ⟨#[]⟩, .agg #[.int .i64 0, .int .i64 0, .int .i64 0], .int .i64 E]) (by simp [results, Tryd.results31, go_sem, *]) rfl (ofPost_err _ ?_)
              repeat' (first | with_reducible exact Below.refl _ _ | with_reducible refine Below.drew ?_ | with_reducible refine below_drewN ?_ _ | with_reducible refine Below.alloc ?_ (by first | omega | (simp <;> omega)) _ | with_reducible refine Below.setCell ?_ (by first | omega | (dsimp only; omega) | (simp <;> omega)) _ | with_reducible refine Below.trans ?_ (Below.mono (by assumption) (by first | omega | (simp <;> omega))))
end Go.Proofs.YtmblpmaelglnpaaDoor
