/-
  The chapter's examples of parameters, and the statement about texts that are read: walked.
-/
import Derived.Test.YtmblpmaelglnpaaDoorRows
import Derived.Test.YtmblpmaelglnpaaDoorPrmRef3
import Derived.Test.YtmblpmaelglnpaaDoorPrmSmall
import Derived.Test.YtmblpmaelglnpaaDoorGBase
import Derived.Deep.Light
import Derived.Shelf.Abstract
import Derived.Shelf.RegionOpen
import Derived.OwnWalkIn
import Derived.TacticsInMore
import Derived.LoopNIn
import Derived.LoopIn
import Derived.Deep.RegionHeld3
import Derived.Outline
import Derived.IntWalk
import Derived.WalkMore
namespace Go.Proofs.YtmblpmaelglnpaaDoor
open Go.RowKit
set_option linter.unusedSimpArgs false
set_option linter.unusedVariables false
open Go.Shelf
attribute [local go_sem] Oper.semAt_some

theorem tx1 : txtL ⟨1, 17, 524288, 6, false, true⟩ = [108, 101, 118, 101, 108, 32, 49, 32, 119, 105, 110, 100, 111, 119, 32, 49, 55, 32, 106, 111, 98, 32, 53, 50, 52, 50, 56, 56, 32, 111, 118, 101, 114, 108, 97, 112, 32, 54, 32, 99, 104, 101, 99, 107] := by simp [txtL_flat, flatL, Lib.itoa, Lib.decDigits, pLv, pWi, pJo, pOv, pSy, pCh]
theorem tx2 : txtL ⟨1, 10, 16, 0, false, false⟩ = [108, 101, 118, 101, 108, 32, 49, 32, 119, 105, 110, 100, 111, 119, 32, 49, 48, 32, 106, 111, 98, 32, 49, 54, 32, 111, 118, 101, 114, 108, 97, 112, 32, 48] := by simp [txtL_flat, flatL, Lib.itoa, Lib.decDigits, pLv, pWi, pJo, pOv, pSy, pCh]
theorem tx9 : txtL ⟨9, 22, 2097152, 6, false, true⟩ = [108, 101, 118, 101, 108, 32, 57, 32, 119, 105, 110, 100, 111, 119, 32, 50, 50, 32, 106, 111, 98, 32, 50, 48, 57, 55, 49, 53, 50, 32, 111, 118, 101, 114, 108, 97, 112, 32, 54, 32, 99, 104, 101, 99, 107] := by simp [txtL_flat, flatL, Lib.itoa, Lib.decDigits, pLv, pWi, pJo, pOv, pSy, pCh]
theorem par2 : rparse [108, 101, 118, 101, 108, 32, 49, 32, 119, 105, 110, 100, 111, 119, 32, 49, 48, 32, 106, 111, 98, 32, 49, 54, 32, 111, 118, 101, 114, 108, 97, 112, 32, 48] = (⟨1, 10, 16, 0, false, false⟩, 0) := by rw [← tx2]; exact rparse_txt (by decide)
theorem of_p (a b c d : Int) (w : World) : Calls Tryd.prog 57 #[.int .i64 a, .int .i64 b, .int .i64 c, .int .i64 d] w fun e w' => e = .returned (.agg #[.int .i64 a, .int .i64 b, .int .i64 c, .int .i64 d, .bool false, .bool false]) ∧ Below w.heap.size w w' := by
  go_enter Tryd.func57, Tryd.ntmps57
  go_wp2
  go_light
  refine bodyPost_ret (v := .agg #[.int .i64 a, .int .i64 b, .int .i64 c, .int .i64 d, .bool false, .bool false]) (by simp [results, Tryd.results57, go_sem, *]) rfl ⟨rfl, ?_⟩
  repeat' (first | with_reducible exact Below.refl _ _ | with_reducible refine Below.drew ?_ | with_reducible refine below_drewN ?_ _ | with_reducible refine Below.alloc ?_ (by first | omega | (simp <;> omega)) _ | with_reducible refine Below.setCell ?_ (by first | omega | (dsimp only; omega) | (simp <;> omega)) _ | with_reducible refine Below.trans ?_ (Below.mono (by assumption) (by first | omega | (simp <;> omega))))
set_option maxRecDepth 100000 in
set_option maxHeartbeats 8000000 in
theorem awake21_p (w : World) (hE : PEnv w) : Calls Tryd.prog 38 #[] w fun e w' => e = .returned (.bool true) ∧ Below w.heap.size w w' := by
  have qD := fun w => pdefault_p 1 w
  rw [show defR 1 = (⟨1, 17, 524288, 6, false, true⟩, 0) from by rfl] at qD
  unfold PrmPost at qD
  have qT := fun w hE => ptext_p ⟨1, 17, 524288, 6, false, true⟩ w hE
  rw [show txtR ⟨1, 17, 524288, 6, false, true⟩ = (⟨#[108, 101, 118, 101, 108, 32, 49, 32, 119, 105, 110, 100, 111, 119, 32, 49, 55, 32, 106, 111, 98, 32, 53, 50, 52, 50, 56, 56, 32, 111, 118, 101, 114, 108, 97, 112, 32, 54, 32, 99, 104, 101, 99, 107]⟩, 0) from by unfold txtR; rw [if_pos (by decide), tx1]] at qT
  unfold TxtPost at qT
  have qP := fun w hE => pparse_p ⟨#[108, 101, 118, 101, 108, 32, 49, 32, 119, 105, 110, 100, 111, 119, 32, 49, 48, 32, 106, 111, 98, 32, 49, 54, 32, 111, 118, 101, 114, 108, 97, 112, 32, 48]⟩ (by decide) w hE
  rw [pparse_eq, show (⟨#[108, 101, 118, 101, 108, 32, 49, 32, 119, 105, 110, 100, 111, 119, 32, 49, 48, 32, 106, 111, 98, 32, 49, 54, 32, 111, 118, 101, 114, 108, 97, 112, 32, 48]⟩ : ByteArray).data.toList = [108, 101, 118, 101, 108, 32, 49, 32, 119, 105, 110, 100, 111, 119, 32, 49, 48, 32, 106, 111, 98, 32, 49, 54, 32, 111, 118, 101, 114, 108, 97, 112, 32, 48] from rfl, par2] at qP
  unfold PrmPost at qP
  have qC := fun w => pcheck_p 1 9 16 0 false false w
  rw [show pchk 1 9 16 0 = 2 from by decide] at qC
  have qo1 := fun w => of_p 1 10 16 0 w
  have qo2 := fun w => of_p 1 9 16 0 w
  dsimp only at qD qT qP
  go_enter Tryd.func38, Tryd.ntmps38
  go_upto_region 4 with (first | (go_at_call 53; refine (qD _).mono ?_; rintro en wD ⟨rfl, hbD⟩; have hsD := hbD.size) | (go_at_call 51; refine (qT _ (hE.later (by repeat' (first | with_reducible exact Below.refl _ _ | with_reducible refine Below.drew ?_ | with_reducible refine below_drewN ?_ _ | with_reducible refine Below.alloc ?_ (by first | omega | (simp <;> omega)) _ | with_reducible refine Below.setCell ?_ (by first | omega | (dsimp only; omega) | (simp <;> omega)) _ | with_reducible refine Below.trans ?_ (Below.mono (by assumption) (by first | omega | (simp <;> omega))))))).mono ?_; rintro en wT ⟨rfl, hbT⟩; have hsT := hbT.size; (simp at hsT)) | (go_at_call 39; refine (qP _ (hE.later (by repeat' (first | with_reducible exact Below.refl _ _ | with_reducible refine Below.drew ?_ | with_reducible refine below_drewN ?_ _ | with_reducible refine Below.alloc ?_ (by first | omega | (simp <;> omega)) _ | with_reducible refine Below.setCell ?_ (by first | omega | (dsimp only; omega) | (simp <;> omega)) _ | with_reducible refine Below.trans ?_ (Below.mono (by assumption) (by first | omega | (simp <;> omega))))))).mono ?_; rintro en wP ⟨rfl, hbP⟩; have hsP := hbP.size; (try simp at hsP)))
  obtain ⟨B5, hB5⟩ : ∃ B5, wP.heap.size = B5 := ⟨_, rfl⟩
  obtain ⟨W5, hW5⟩ : ∃ W5, wP.alloc (.cells #[.int .i64 1, .int .i64 10, .int .i64 16, .int .i64 0, .bool false, .bool false] 58) = W5 := ⟨_, rfl⟩
  have hbw : Below w.heap.size w W5 := by
    rw [← hW5]
    repeat' (first | with_reducible exact Below.refl _ _ | with_reducible refine Below.drew ?_ | with_reducible refine below_drewN ?_ _ | with_reducible refine Below.alloc ?_ (by first | omega | (simp <;> omega)) _ | with_reducible refine Below.setCell ?_ (by first | omega | (dsimp only; omega) | (simp <;> omega)) _ | with_reducible refine Below.trans ?_ (Below.mono (by assumption) (by first | omega | (simp <;> omega))))
  have c0 : W5.cell? ⟨B5, 0, none⟩ = some (.int .i64 1) := by rw [← hW5, ← hB5]; simp [go_sem]
  have c1 : W5.cell? ⟨B5, 1, none⟩ = some (.int .i64 10) := by rw [← hW5, ← hB5]; simp [go_sem]
  have c2 : W5.cell? ⟨B5, 2, none⟩ = some (.int .i64 16) := by rw [← hW5, ← hB5]; simp [go_sem]
  have c3 : W5.cell? ⟨B5, 3, none⟩ = some (.int .i64 0) := by rw [← hW5, ← hB5]; simp [go_sem]
  have c4 : W5.cell? ⟨B5, 4, none⟩ = some (.bool false) := by rw [← hW5, ← hB5]; simp [go_sem]
  have c5 : W5.cell? ⟨B5, 5, none⟩ = some (.bool false) := by rw [← hW5, ← hB5]; simp [go_sem]
  have hl5 : B5 < W5.heap.size := by rw [← hW5, ← hB5]; simp
  rw [hW5]
  (try simp only [hB5])
  have hw5 := hbw.size
  clear hW5 hB5 hbD hbT hbP hsD hsT hsP qD qT qP
  go_region_held3 (fun w' => w'.cell? ⟨B5, 0, none⟩ = some (.int .i64 1) ∧ w'.cell? ⟨B5, 1, none⟩ = some (.int .i64 10) ∧ w'.cell? ⟨B5, 2, none⟩ = some (.int .i64 16) ∧ w'.cell? ⟨B5, 3, none⟩ = some (.int .i64 0) ∧ w'.cell? ⟨B5, 4, none⟩ = some (.bool false) ∧ w'.cell? ⟨B5, 5, none⟩ = some (.bool false)) (exact ⟨((show Below W5.heap.size W5 _ by repeat' (first | with_reducible exact Below.refl _ _ | with_reducible refine Below.drew ?_ | with_reducible refine below_drewN ?_ _ | with_reducible refine Below.alloc ?_ (by first | omega | (simp <;> omega)) _ | with_reducible refine Below.setCell ?_ (by first | omega | (dsimp only; omega) | (simp <;> omega)) _ | with_reducible refine Below.trans ?_ (Below.mono (by assumption) (by first | omega | (simp <;> omega))))).cell (p := ⟨B5, 0, none⟩) hl5).trans c0, ((show Below W5.heap.size W5 _ by repeat' (first | with_reducible exact Below.refl _ _ | with_reducible refine Below.drew ?_ | with_reducible refine below_drewN ?_ _ | with_reducible refine Below.alloc ?_ (by first | omega | (simp <;> omega)) _ | with_reducible refine Below.setCell ?_ (by first | omega | (dsimp only; omega) | (simp <;> omega)) _ | with_reducible refine Below.trans ?_ (Below.mono (by assumption) (by first | omega | (simp <;> omega))))).cell (p := ⟨B5, 1, none⟩) hl5).trans c1, ((show Below W5.heap.size W5 _ by repeat' (first | with_reducible exact Below.refl _ _ | with_reducible refine Below.drew ?_ | with_reducible refine below_drewN ?_ _ | with_reducible refine Below.alloc ?_ (by first | omega | (simp <;> omega)) _ | with_reducible refine Below.setCell ?_ (by first | omega | (dsimp only; omega) | (simp <;> omega)) _ | with_reducible refine Below.trans ?_ (Below.mono (by assumption) (by first | omega | (simp <;> omega))))).cell (p := ⟨B5, 2, none⟩) hl5).trans c2, ((show Below W5.heap.size W5 _ by repeat' (first | with_reducible exact Below.refl _ _ | with_reducible refine Below.drew ?_ | with_reducible refine below_drewN ?_ _ | with_reducible refine Below.alloc ?_ (by first | omega | (simp <;> omega)) _ | with_reducible refine Below.setCell ?_ (by first | omega | (dsimp only; omega) | (simp <;> omega)) _ | with_reducible refine Below.trans ?_ (Below.mono (by assumption) (by first | omega | (simp <;> omega))))).cell (p := ⟨B5, 3, none⟩) hl5).trans c3, ((show Below W5.heap.size W5 _ by repeat' (first | with_reducible exact Below.refl _ _ | with_reducible refine Below.drew ?_ | with_reducible refine below_drewN ?_ _ | with_reducible refine Below.alloc ?_ (by first | omega | (simp <;> omega)) _ | with_reducible refine Below.setCell ?_ (by first | omega | (dsimp only; omega) | (simp <;> omega)) _ | with_reducible refine Below.trans ?_ (Below.mono (by assumption) (by first | omega | (simp <;> omega))))).cell (p := ⟨B5, 4, none⟩) hl5).trans c4, ((show Below W5.heap.size W5 _ by repeat' (first | with_reducible exact Below.refl _ _ | with_reducible refine Below.drew ?_ | with_reducible refine below_drewN ?_ _ | with_reducible refine Below.alloc ?_ (by first | omega | (simp <;> omega)) _ | with_reducible refine Below.setCell ?_ (by first | omega | (dsimp only; omega) | (simp <;> omega)) _ | with_reducible refine Below.trans ?_ (Below.mono (by assumption) (by first | omega | (simp <;> omega))))).cell (p := ⟨B5, 5, none⟩) hl5).trans c5⟩) (first | (go_at_call 57; first | ((with_reducible refine (qo1 _).mono ?_); rintro en wo ⟨rfl, hbo⟩; have hso := hbo.size; (try simp at hso)) | ((with_reducible refine (qo2 _).mono ?_); rintro en wo2 ⟨rfl, hbo2⟩; have hso2 := hbo2.size; (try simp at hso2))) | (go_at_call 55; refine (qC _).mono ?_; rintro en wC ⟨rfl, hbC⟩; have hsC := hbC.size; (try simp at hsC)))
  all_goals (go_wp2_with fail)
  all_goals go_light
  all_goals
    refine bodyPost_ret (v := .bool true) (by simp [results, Tryd.results38, go_sem, *]) rfl ⟨rfl, hbw.trans ((show Below W5.heap.size W5 _ by repeat' (first | with_reducible exact Below.refl _ _ | with_reducible refine Below.drew ?_ | with_reducible refine below_drewN ?_ _ | with_reducible refine Below.alloc ?_ (by first | omega | (simp <;> omega)) _ | with_reducible refine Below.setCell ?_ (by first | omega | (dsimp only; omega) | (simp <;> omega)) _ | with_reducible refine Below.trans ?_ (Below.mono (by assumption) (by first | omega | (simp <;> omega))))).mono hw5)⟩
end Go.Proofs.YtmblpmaelglnpaaDoor
