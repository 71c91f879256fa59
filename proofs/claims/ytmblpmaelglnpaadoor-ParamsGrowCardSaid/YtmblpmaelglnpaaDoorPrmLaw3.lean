/-
  The chapter's examples of parameters: the statement about them, walked.
-/
import Derived.Test.YtmblpmaelglnpaaDoorRows
import Derived.Test.YtmblpmaelglnpaaDoorPrmLaw1
import Derived.Test.YtmblpmaelglnpaaDoorGBase
import Derived.Deep.Light
import Derived.Shelf.Abstract
import Derived.Shelf.RegionOpen
import Derived.OwnWalkIn
import Derived.TacticsInMore
import Derived.LoopNIn
import Derived.LoopIn
import Derived.Deep.RegionHeld3
import Derived.Outline
import Derived.IntWalk
import Derived.WalkMore
namespace Go.Proofs.YtmblpmaelglnpaaDoor
open Go.RowKit
set_option linter.unusedSimpArgs false
set_option linter.unusedVariables false
open Go.Shelf
attribute [local go_sem] Oper.semAt_some

theorem pref_p (o v : Int) (h : preR ⟨1, 10, 16, o, false, false⟩ = (v, 0)) (w : World) : Calls Tryd.prog 58 #[.int .i64 o, .int .i64 v] w fun e w' => e = .returned (.bool true) ∧ Below w.heap.size w w' := by
  have qP := fun w => pprefix_p ⟨1, 10, 16, o, false, false⟩ w
  rw [h] at qP
  unfold TwoPost at qP
  dsimp only at qP
  go_enter Tryd.func58, Tryd.ntmps58
  go_wp2_with (first | (go_at_call 57; refine (of_p _ _ _ _ _).mono ?_; rintro en wo ⟨rfl, hbo⟩; have hso := hbo.size; (try simp at hso)) | (go_at_call 49; refine (qP _).mono ?_; rintro en wp ⟨rfl, hbp⟩; have hsp := hbp.size; (try simp at hsp)))
  go_light
  refine bodyPost_ret (v := .bool true) (by simp [results, Tryd.results58, go_sem, *]) rfl ⟨rfl, ?_⟩
  repeat' (first | with_reducible exact Below.refl _ _ | with_reducible refine Below.drew ?_ | with_reducible refine below_drewN ?_ _ | with_reducible refine Below.alloc ?_ (by first | omega | (simp <;> omega)) _ | with_reducible refine Below.setCell ?_ (by first | omega | (dsimp only; omega) | (simp <;> omega)) _ | with_reducible refine Below.trans ?_ (Below.mono (by assumption) (by first | omega | (simp <;> omega))))
theorem par_s1 : rparse [108, 101, 118, 101, 108, 32, 49, 32, 119, 105, 110, 100, 111, 119, 32, 49, 48, 32, 106, 111, 98, 32, 49, 54] = (prm0, 3) := by kernel_rfl
theorem par_s2 : rparse [108, 101, 118, 101, 108, 32, 48, 49, 32, 119, 105, 110, 100, 111, 119, 32, 49, 48, 32, 106, 111, 98, 32, 49, 54, 32, 111, 118, 101, 114, 108, 97, 112, 32, 48] = (prm0, 3) := by kernel_rfl
theorem par_s3 : rparse [108, 101, 118, 101, 108, 32, 48, 32, 119, 105, 110, 100, 111, 119, 32, 49, 48, 32, 106, 111, 98, 32, 49, 54, 32, 111, 118, 101, 114, 108, 97, 112, 32, 48] = (prm0, 2) := by kernel_rfl

set_option maxRecDepth 100000 in
set_option maxHeartbeats 16000000 in
theorem paramsKnown_t (w : World) (hE : PEnv w) : Calls Tryd.prog 12 #[] w fun e w' => e = .returned (.bool true) ∧ Below w.heap.size w w' := by
  have qD9 := fun w => pdefault_p 9 w
  have qD0 := fun w => pdefault_p 0 w
  have qT := fun w hE => ptext_p ⟨9, 22, 2097152, 6, false, true⟩ w hE
  have qd := fun w => pdepth_p 5 10 16 0 false false w
  have ql5 := fun w => plazy_p 5 10 16 0 false false w
  have ql9 := fun w => plazy_p 9 10 16 0 false false w
  have qw := fun w => pwindow_p ⟨1, 10, 16, 0, false, false⟩ w
  have qb1 := fun w => pblock_p ⟨1, 10, 16, 0, false, false⟩ w
  have qb2 := fun w => pblock_p ⟨1, 27, 16, 0, false, false⟩ w
  have qP1 := fun w hE => pparse_p ⟨#[108, 101, 118, 101, 108, 32, 49, 32, 119, 105, 110, 100, 111, 119, 32, 49, 48, 32, 106, 111, 98, 32, 49, 54]⟩ (by decide) w hE
  have qP2 := fun w hE => pparse_p ⟨#[108, 101, 118, 101, 108, 32, 48, 49, 32, 119, 105, 110, 100, 111, 119, 32, 49, 48, 32, 106, 111, 98, 32, 49, 54, 32, 111, 118, 101, 114, 108, 97, 112, 32, 48]⟩ (by decide) w hE
  have qP3 := fun w hE => pparse_p ⟨#[108, 101, 118, 101, 108, 32, 48, 32, 119, 105, 110, 100, 111, 119, 32, 49, 48, 32, 106, 111, 98, 32, 49, 54, 32, 111, 118, 101, 114, 108, 97, 112, 32, 48]⟩ (by decide) w hE
  rw [show defR 9 = (⟨9, 22, 2097152, 6, false, true⟩, 0) from by rfl] at qD9
  rw [show defR 0 = (prm0, 2) from by rfl] at qD0
  rw [show txtR ⟨9, 22, 2097152, 6, false, true⟩ = (⟨#[108, 101, 118, 101, 108, 32, 57, 32, 119, 105, 110, 100, 111, 119, 32, 50, 50, 32, 106, 111, 98, 32, 50, 48, 57, 55, 49, 53, 50, 32, 111, 118, 101, 114, 108, 97, 112, 32, 54, 32, 99, 104, 101, 99, 107]⟩, 0) from by unfold txtR; rw [if_pos (by decide), tx9]] at qT
  rw [show Rpdepth 5 10 16 0 = (8, 0) from by decide] at qd
  rw [show Rplazy 5 10 16 0 = (1, 0) from by decide] at ql5
  rw [show Rplazy 9 10 16 0 = (2, 0) from by decide] at ql9
  rw [show winR ⟨1, 10, 16, 0, false, false⟩ = (1024, 0) from by decide] at qw
  rw [show blkR ⟨1, 10, 16, 0, false, false⟩ = (1024, 0) from by decide] at qb1
  rw [show blkR ⟨1, 27, 16, 0, false, false⟩ = (131072, 0) from by decide +kernel] at qb2
  rw [pparse_eq, show (⟨#[108, 101, 118, 101, 108, 32, 49, 32, 119, 105, 110, 100, 111, 119, 32, 49, 48, 32, 106, 111, 98, 32, 49, 54]⟩ : ByteArray).data.toList = [108, 101, 118, 101, 108, 32, 49, 32, 119, 105, 110, 100, 111, 119, 32, 49, 48, 32, 106, 111, 98, 32, 49, 54] from rfl, par_s1] at qP1
  rw [pparse_eq, show (⟨#[108, 101, 118, 101, 108, 32, 48, 49, 32, 119, 105, 110, 100, 111, 119, 32, 49, 48, 32, 106, 111, 98, 32, 49, 54, 32, 111, 118, 101, 114, 108, 97, 112, 32, 48]⟩ : ByteArray).data.toList = [108, 101, 118, 101, 108, 32, 48, 49, 32, 119, 105, 110, 100, 111, 119, 32, 49, 48, 32, 106, 111, 98, 32, 49, 54, 32, 111, 118, 101, 114, 108, 97, 112, 32, 48] from rfl, par_s2] at qP2
  rw [pparse_eq, show (⟨#[108, 101, 118, 101, 108, 32, 48, 32, 119, 105, 110, 100, 111, 119, 32, 49, 48, 32, 106, 111, 98, 32, 49, 54, 32, 111, 118, 101, 114, 108, 97, 112, 32, 48]⟩ : ByteArray).data.toList = [108, 101, 118, 101, 108, 32, 48, 32, 119, 105, 110, 100, 111, 119, 32, 49, 48, 32, 106, 111, 98, 32, 49, 54, 32, 111, 118, 101, 114, 108, 97, 112, 32, 48] from rfl, par_s3] at qP3
  unfold PrmPost at qD9 qD0 qP1 qP2 qP3
  unfold TxtPost at qT
  unfold TwoPost at qw qb1 qb2
  unfold prm0 at qD0 qP1 qP2 qP3
  dsimp only at qD9 qD0 qT qd ql5 ql9 qw qb1 qb2 qP1 qP2 qP3
  have qx1 := fun w => pref_p 0 0 (by decide) w
  have qx2 := fun w => pref_p 6 128 (by decide) w
  have qx3 := fun w => pref_p 9 1024 (by decide) w
  have qo5 := fun w => of_p 1 10 15 0 w
  have qo6 := fun w => of_p 10 10 16 0 w
  have qo7 := fun w => of_p 1 10 16 10 w
  have qc5 := fun w => pcheck_p 1 10 15 0 false false w
  have qc6 := fun w => pcheck_p 10 10 16 0 false false w
  have qc7 := fun w => pcheck_p 1 10 16 10 false false w
  rw [show pchk 1 10 15 0 = 2 from by decide] at qc5
  rw [show pchk 10 10 16 0 = 2 from by decide] at qc6
  rw [show pchk 1 10 16 10 = 2 from by decide] at qc7
  go_enter Tryd.func12, Tryd.ntmps12
  go_upto_region 15 with (first | (go_at_call 53; (with_reducible refine (qD9 _).mono ?_); rintro en wa1 ⟨rfl, hbwa1⟩; have hswa1 := hbwa1.size; (try simp at hswa1)) | (go_at_call 53; (with_reducible refine (qD0 _).mono ?_); rintro en wa2 ⟨rfl, hbwa2⟩; have hswa2 := hbwa2.size; (try simp at hswa2)) | (go_at_call 51; (with_reducible refine (qT _ ?_).mono ?_); (case refine_1 => (exact hE.later (by repeat' (first | with_reducible exact Below.refl _ _ | with_reducible refine Below.drew ?_ | with_reducible refine below_drewN ?_ _ | with_reducible refine Below.alloc ?_ (by first | omega | (simp <;> omega)) _ | with_reducible refine Below.setCell ?_ (by first | omega | (dsimp only; omega) | (simp <;> omega)) _ | with_reducible refine Below.trans ?_ (Below.mono (by assumption) (by first | omega | (simp <;> omega))))))); rintro en wa3 ⟨rfl, hbwa3⟩; have hswa3 := hbwa3.size; (try simp at hswa3)) | (go_at_call 57; refine (of_p _ _ _ _ _).mono ?_; rintro en wof ⟨rfl, hbof⟩; have hsof := hbof.size; (try simp at hsof)) | (go_at_call 41; (with_reducible refine (qd _).mono ?_); rintro en wa4 ⟨rfl, hbwa4⟩; have hswa4 := hbwa4.size; (try simp at hswa4)) | (go_at_call 43; (with_reducible refine (ql5 _).mono ?_); rintro en wa5 ⟨rfl, hbwa5⟩; have hswa5 := hbwa5.size; (try simp at hswa5)) | (go_at_call 43; (with_reducible refine (ql9 _).mono ?_); rintro en wa6 ⟨rfl, hbwa6⟩; have hswa6 := hbwa6.size; (try simp at hswa6)) | (go_at_call 45; (with_reducible refine (qw _).mono ?_); rintro en wa7 ⟨rfl, hbwa7⟩; have hswa7 := hbwa7.size; (try simp at hswa7)) | (go_at_call 47; (with_reducible refine (qb1 _).mono ?_); rintro en wa8 ⟨rfl, hbwa8⟩; have hswa8 := hbwa8.size; (try simp at hswa8)) | (go_at_call 47; (with_reducible refine (qb2 _).mono ?_); rintro en wa9 ⟨rfl, hbwa9⟩; have hswa9 := hbwa9.size; (try simp at hswa9)) | (go_at_call 39; (with_reducible refine (qP1 _ ?_).mono ?_); (case refine_1 => (exact hE.later (by repeat' (first | with_reducible exact Below.refl _ _ | with_reducible refine Below.drew ?_ | with_reducible refine below_drewN ?_ _ | with_reducible refine Below.alloc ?_ (by first | omega | (simp <;> omega)) _ | with_reducible refine Below.setCell ?_ (by first | omega | (dsimp only; omega) | (simp <;> omega)) _ | with_reducible refine Below.trans ?_ (Below.mono (by assumption) (by first | omega | (simp <;> omega))))))); rintro en wb1 ⟨rfl, hbwb1⟩; have hswb1 := hbwb1.size; (try simp at hswb1)) | (go_at_call 39; (with_reducible refine (qP2 _ ?_).mono ?_); (case refine_1 => (exact hE.later (by repeat' (first | with_reducible exact Below.refl _ _ | with_reducible refine Below.drew ?_ | with_reducible refine below_drewN ?_ _ | with_reducible refine Below.alloc ?_ (by first | omega | (simp <;> omega)) _ | with_reducible refine Below.setCell ?_ (by first | omega | (dsimp only; omega) | (simp <;> omega)) _ | with_reducible refine Below.trans ?_ (Below.mono (by assumption) (by first | omega | (simp <;> omega))))))); rintro en wb2 ⟨rfl, hbwb2⟩; have hswb2 := hbwb2.size; (try simp at hswb2)) | (go_at_call 39; (with_reducible refine (qP3 _ ?_).mono ?_); (case refine_1 => (exact hE.later (by repeat' (first | with_reducible exact Below.refl _ _ | with_reducible refine Below.drew ?_ | with_reducible refine below_drewN ?_ _ | with_reducible refine Below.alloc ?_ (by first | omega | (simp <;> omega)) _ | with_reducible refine Below.setCell ?_ (by first | omega | (dsimp only; omega) | (simp <;> omega)) _ | with_reducible refine Below.trans ?_ (Below.mono (by assumption) (by first | omega | (simp <;> omega))))))); rintro en wb3 ⟨rfl, hbwb3⟩; have hswb3 := hbwb3.size; (try simp at hswb3)))
  obtain ⟨W5, hW5⟩ : ∃ W5, wb3.alloc (.cells #[.int .i64 0, .int .i64 0, .int .i64 0, .int .i64 0, .bool false, .bool false] 58) = W5 := ⟨_, rfl⟩
  have hbw : Below w.heap.size w W5 := by
    rw [← hW5]
    repeat' (first | with_reducible exact Below.refl _ _ | with_reducible refine Below.drew ?_ | with_reducible refine below_drewN ?_ _ | with_reducible refine Below.alloc ?_ (by first | omega | (simp <;> omega)) _ | with_reducible refine Below.setCell ?_ (by first | omega | (dsimp only; omega) | (simp <;> omega)) _ | with_reducible refine Below.trans ?_ (Below.mono (by assumption) (by first | omega | (simp <;> omega))))
  have hE5 : PEnv W5 := hE.later hbw
  have hw5 := hbw.size
  rw [hW5]
  clear hW5 hE qD9 qD0 qT qd ql5 ql9 qw qb1 qb2 qP1 qP2 qP3
  (try clear hbwa1); (try clear hswa1); (try clear hbwa2); (try clear hswa2); (try clear hbwa3); (try clear hswa3); (try clear hbwof); (try clear hswof); (try clear hbwa4); (try clear hswa4); (try clear hbwa5); (try clear hswa5); (try clear hbwa6); (try clear hswa6); (try clear hbwa7); (try clear hswa7); (try clear hbwa8); (try clear hswa8); (try clear hbwa9); (try clear hswa9); (try clear hbwb1); (try clear hswb1); (try clear hbwb2); (try clear hswb2); (try clear hbwb3); (try clear hswb3)
  go_wp2_with (first | (go_at_call 38; refine (awake21_p _ (hE5.later (by repeat' (first | with_reducible exact Below.refl _ _ | with_reducible refine Below.drew ?_ | with_reducible refine below_drewN ?_ _ | with_reducible refine Below.alloc ?_ (by first | omega | (simp <;> omega)) _ | with_reducible refine Below.setCell ?_ (by first | omega | (dsimp only; omega) | (simp <;> omega)) _ | with_reducible refine Below.trans ?_ (Below.mono (by assumption) (by first | omega | (simp <;> omega))))))).mono ?_; rintro en wc0 ⟨rfl, hbc0⟩; have hsc0 := hbc0.size; (try simp at hsc0)) | (go_at_call 58; (with_reducible refine (qx1 _).mono ?_); rintro en wc1 ⟨rfl, hbwc1⟩; have hswc1 := hbwc1.size; (try simp at hswc1)) | (go_at_call 58; (with_reducible refine (qx2 _).mono ?_); rintro en wc2 ⟨rfl, hbwc2⟩; have hswc2 := hbwc2.size; (try simp at hswc2)) | (go_at_call 58; (with_reducible refine (qx3 _).mono ?_); rintro en wc3 ⟨rfl, hbwc3⟩; have hswc3 := hbwc3.size; (try simp at hswc3)) | (go_at_call 57; first | ((with_reducible refine (qo5 _).mono ?_); rintro en wc4 ⟨rfl, hbc4⟩; have hsc4 := hbc4.size; (try simp at hsc4)) | ((with_reducible refine (qo6 _).mono ?_); rintro en wc5 ⟨rfl, hbc5⟩; have hsc5 := hbc5.size; (try simp at hsc5)) | ((with_reducible refine (qo7 _).mono ?_); rintro en wc6 ⟨rfl, hbc6⟩; have hsc6 := hbc6.size; (try simp at hsc6))) | (go_at_call 55; first | ((with_reducible refine (qc5 _).mono ?_); rintro en wd4 ⟨rfl, hbd4⟩; have hsd4 := hbd4.size; (try simp at hsd4)) | ((with_reducible refine (qc6 _).mono ?_); rintro en wd5 ⟨rfl, hbd5⟩; have hsd5 := hbd5.size; (try simp at hsd5)) | ((with_reducible refine (qc7 _).mono ?_); rintro en wd6 ⟨rfl, hbd6⟩; have hsd6 := hbd6.size; (try simp at hsd6))))
  all_goals go_light
  all_goals
    refine bodyPost_ret (v := .bool true) (by simp [results, Tryd.results12, go_sem, *]) rfl ⟨rfl, hbw.trans ((show Below W5.heap.size W5 _ by repeat' (first | with_reducible exact Below.refl _ _ | with_reducible refine Below.drew ?_ | with_reducible refine below_drewN ?_ _ | with_reducible refine Below.alloc ?_ (by first | omega | (simp <;> omega)) _ | with_reducible refine Below.setCell ?_ (by first | omega | (dsimp only; omega) | (simp <;> omega)) _ | with_reducible refine Below.trans ?_ (Below.mono (by assumption) (by first | omega | (simp <;> omega))))).mono hw5)⟩
end Go.Proofs.YtmblpmaelglnpaaDoor
