/-
  Windows, blocks, prefixes and the parameters of a level: walked.
-/
import Derived.Test.YtmblpmaelglnpaaDoorRows
import Derived.Test.YtmblpmaelglnpaaDoorPrmRef4
import Derived.Test.YtmblpmaelglnpaaDoorParams2
import Derived.Test.YtmblpmaelglnpaaDoorGBase
import Derived.Deep.Light
import Derived.Shelf.Abstract
import Derived.Shelf.RegionOpen
import Derived.OwnWalkIn
import Derived.TacticsInMore
import Derived.LoopNIn
import Derived.LoopIn
import Derived.Outline
import Derived.IntWalk
import Derived.WalkMore
import Derived.Deep.QuietTactic
import Derived.BigQuiet
namespace Go.Proofs.YtmblpmaelglnpaaDoor
open Go.RowKit
set_option linter.unusedSimpArgs false
set_option linter.unusedVariables false
open Go.Shelf
attribute [local go_sem] Oper.semAt_some

/-- Two numbers. -/
def TwoPost (R : Int × Int) (w : World) (e : Ending) (w' : World) : Prop := e = .returned (.tuple #[.int .i64 R.1, .int .i64 R.2]) ∧ Below w.heap.size w w'
def winT (W : Int) : Int := ((2 ^ W.toNat : Nat) : Int)
def blkT (W : Int) : Int := min (winT W) 131072
def preT (W O : Int) : Int := if O = 0 then 0 else ((2 ^ W.toNat / 2 ^ (9 - O.toNat) : Nat) : Int)
def winR (p : Prm) : Int × Int := if okP p = true then (winT p.wi, 0) else (0, 2)
def blkR (p : Prm) : Int × Int := if okP p = true then (blkT p.wi, 0) else (0, 2)
def preR (p : Prm) : Int × Int := if okP p = true then (preT p.wi p.ov, 0) else (0, 2)
theorem w18 {W : Int} (h1 : 10 ≤ W) (h2 : W ≤ 27) : W = 10 ∨ W = 11 ∨ W = 12 ∨ W = 13 ∨ W = 14 ∨ W = 15 ∨ W = 16 ∨ W = 17 ∨ W = 18 ∨ W = 19 ∨ W = 20 ∨ W = 21 ∨ W = 22 ∨ W = 23 ∨ W = 24 ∨ W = 25 ∨ W = 26 ∨ W = 27 := by omega
theorem o10 {W : Int} (h1 : 0 ≤ W) (h2 : W ≤ 9) : W = 0 ∨ W = 1 ∨ W = 2 ∨ W = 3 ∨ W = 4 ∨ W = 5 ∨ W = 6 ∨ W = 7 ∨ W = 8 ∨ W = 9 := by omega
theorem okP_get {p : Prm} (h : okP p = true) : 1 ≤ p.lv ∧ p.lv ≤ 9 ∧ 10 ≤ p.wi ∧ p.wi ≤ 27 ∧ 16 ≤ p.jo ∧ p.jo ≤ 2097152 ∧ 0 ≤ p.ov ∧ p.ov ≤ 9 := by
  unfold okP at h
  exact of_decide_eq_true h

set_option maxHeartbeats 4000000 in
theorem win1_c (W : Int) (bk : Nat) (w : World) (h1 : 10 ≤ W) (h2 : W ≤ 27) (hc : w.cell? ⟨bk, 1, none⟩ = some (.int .i64 W)) : Calls Tryd.prog 88 #[.pointer (some ⟨bk, 0, none⟩)] w fun e w' => e = .returned (.int .i64 (winT W)) ∧ w' = w := by
  rcases w18 h1 h2 with rfl | rfl | rfl | rfl | rfl | rfl | rfl | rfl | rfl | rfl | rfl | rfl | rfl | rfl | rfl | rfl | rfl | rfl
  all_goals clear h1 h2
  all_goals
    go_enter Tryd.func88, Tryd.ntmps88
    go_wp2
    go_ret
    exact ⟨rfl, rfl⟩

set_option maxHeartbeats 4000000 in
theorem blk1_c (W : Int) (bk : Nat) (w : World) (h1 : 10 ≤ W) (h2 : W ≤ 27) (hc : w.cell? ⟨bk, 1, none⟩ = some (.int .i64 W)) : Calls Tryd.prog 89 #[.pointer (some ⟨bk, 0, none⟩)] w fun e w' => e = .returned (.int .i64 (blkT W)) ∧ w' = w := by
  rcases w18 h1 h2 with rfl | rfl | rfl | rfl | rfl | rfl | rfl | rfl | rfl | rfl | rfl | rfl | rfl | rfl | rfl | rfl | rfl | rfl
  all_goals clear h1 h2
  all_goals
    go_enter Tryd.func89, Tryd.ntmps89
    go_wp2
    go_ret
    exact ⟨rfl, rfl⟩

set_option maxHeartbeats 16000000 in
theorem pre1_c (W O : Int) (bk : Nat) (w : World) (h1 : 10 ≤ W) (h2 : W ≤ 27) (h3 : 0 ≤ O) (h4 : O ≤ 9) (hc : w.cell? ⟨bk, 1, none⟩ = some (.int .i64 W)) (hd : w.cell? ⟨bk, 3, none⟩ = some (.int .i64 O)) : Calls Tryd.prog 90 #[.pointer (some ⟨bk, 0, none⟩)] w fun e w' => e = .returned (.int .i64 (preT W O)) ∧ Below w.heap.size w w' := by
  by_cases h0 : O = 0
  · subst h0
    have e : preT W 0 = 0 := by unfold preT; rw [if_pos rfl]
    rw [e]
    go_enter Tryd.func90, Tryd.ntmps90
    go_wp2
    go_ret
    exact ⟨rfl, Below.refl _ _⟩
  · have h3' : 1 ≤ O := by omega
    clear h3 h0
    rcases w18 h1 h2 with rfl | rfl | rfl | rfl | rfl | rfl | rfl | rfl | rfl | rfl | rfl | rfl | rfl | rfl | rfl | rfl | rfl | rfl
    all_goals clear h1 h2
    all_goals rcases (show O = 1 ∨ O = 2 ∨ O = 3 ∨ O = 4 ∨ O = 5 ∨ O = 6 ∨ O = 7 ∨ O = 8 ∨ O = 9 by omega) with rfl | rfl | rfl | rfl | rfl | rfl | rfl | rfl | rfl
    all_goals clear h3' h4
    all_goals
      go_enter Tryd.func90, Tryd.ntmps90
      go_wp2
      go_quiet (fail)
      go_wp2
      go_ret
      exact ⟨rfl, below_drewN (Below.refl _ _) _⟩

set_option maxHeartbeats 4000000 in
theorem pwindow_p (p : Prm) (w : World) : Calls Tryd.prog 45 #[.agg #[.int .i64 p.lv, .int .i64 p.wi, .int .i64 p.jo, .int .i64 p.ov, .bool p.sy, .bool p.ch]] w (TwoPost (winR p) w) := by
  have hpk := okP_pchk p
  have qC := fun w => pcheck_p p.lv p.wi p.jo p.ov p.sy p.ch w
  rw [hpk] at qC
  unfold TwoPost winR
  by_cases h : okP p = true
  · rw [if_pos h] at qC ⊢
    obtain ⟨h1, h2, h3, h4, h5, h6, h7, h8⟩ := okP_get h
    clear hpk h h1 h2 h5 h6
    obtain ⟨a, b, c, d, sy, ch⟩ := p
    dsimp only at qC h3 h4 h7 h8 ⊢
    go_enter Tryd.func45, Tryd.ntmps45
    go_wp2_with (first | (go_at_call 55; refine (qC _).mono ?_; rintro en wC ⟨rfl, hbC⟩; have hsC := hbC.size; (simp at hsC); have p0 : wC.cell? ⟨w.heap.size, 0, none⟩ = some (.int .i64 a) := (hbC.cell (p := ⟨w.heap.size, 0, none⟩) (by first | (simp; done) | (simp; omega))).trans (by simp [go_sem]); have p1 : wC.cell? ⟨w.heap.size, 1, none⟩ = some (.int .i64 b) := (hbC.cell (p := ⟨w.heap.size, 1, none⟩) (by first | (simp; done) | (simp; omega))).trans (by simp [go_sem]); have p2 : wC.cell? ⟨w.heap.size, 2, none⟩ = some (.int .i64 c) := (hbC.cell (p := ⟨w.heap.size, 2, none⟩) (by first | (simp; done) | (simp; omega))).trans (by simp [go_sem]); have p3 : wC.cell? ⟨w.heap.size, 3, none⟩ = some (.int .i64 d) := (hbC.cell (p := ⟨w.heap.size, 3, none⟩) (by first | (simp; done) | (simp; omega))).trans (by simp [go_sem]); have p4 : wC.cell? ⟨w.heap.size, 4, none⟩ = some (.bool sy) := (hbC.cell (p := ⟨w.heap.size, 4, none⟩) (by first | (simp; done) | (simp; omega))).trans (by simp [go_sem]); have p5 : wC.cell? ⟨w.heap.size, 5, none⟩ = some (.bool ch) := (hbC.cell (p := ⟨w.heap.size, 5, none⟩) (by first | (simp; done) | (simp; omega))).trans (by simp [go_sem])) | (go_at_call 88; refine (win1_c b w.heap.size _ h3 h4 p1).mono ?_; rintro en wz ⟨rfl, rfl⟩) | go_in)
    go_light
    refine bodyPost_ret (v := .tuple #[.int .i64 (winT b), .int .i64 0]) (by simp [results, Tryd.results45, go_sem, *]) rfl ⟨rfl, ?_⟩
    repeat' (first | with_reducible exact Below.refl _ _ | with_reducible refine Below.drew ?_ | with_reducible refine below_drewN ?_ _ | with_reducible refine Below.alloc ?_ (by first | omega | (simp <;> omega)) _ | with_reducible refine Below.setCell ?_ (by first | omega | (dsimp only; omega) | (simp <;> omega)) _ | with_reducible refine Below.trans ?_ (Below.mono (by assumption) (by first | omega | (simp <;> omega))))
  · rw [if_neg h] at qC ⊢
    clear hpk h
    obtain ⟨a, b, c, d, sy, ch⟩ := p
    dsimp only at qC ⊢
    go_enter Tryd.func45, Tryd.ntmps45
    go_wp2_with (first | (go_at_call 55; refine (qC _).mono ?_; rintro en wC ⟨rfl, hbC⟩; have hsC := hbC.size; (simp at hsC); have p0 : wC.cell? ⟨w.heap.size, 0, none⟩ = some (.int .i64 a) := (hbC.cell (p := ⟨w.heap.size, 0, none⟩) (by first | (simp; done) | (simp; omega))).trans (by simp [go_sem]); have p1 : wC.cell? ⟨w.heap.size, 1, none⟩ = some (.int .i64 b) := (hbC.cell (p := ⟨w.heap.size, 1, none⟩) (by first | (simp; done) | (simp; omega))).trans (by simp [go_sem]); have p2 : wC.cell? ⟨w.heap.size, 2, none⟩ = some (.int .i64 c) := (hbC.cell (p := ⟨w.heap.size, 2, none⟩) (by first | (simp; done) | (simp; omega))).trans (by simp [go_sem]); have p3 : wC.cell? ⟨w.heap.size, 3, none⟩ = some (.int .i64 d) := (hbC.cell (p := ⟨w.heap.size, 3, none⟩) (by first | (simp; done) | (simp; omega))).trans (by simp [go_sem]); have p4 : wC.cell? ⟨w.heap.size, 4, none⟩ = some (.bool sy) := (hbC.cell (p := ⟨w.heap.size, 4, none⟩) (by first | (simp; done) | (simp; omega))).trans (by simp [go_sem]); have p5 : wC.cell? ⟨w.heap.size, 5, none⟩ = some (.bool ch) := (hbC.cell (p := ⟨w.heap.size, 5, none⟩) (by first | (simp; done) | (simp; omega))).trans (by simp [go_sem])) | go_in)
    go_light
    refine bodyPost_ret (v := .tuple #[.int .i64 0, .int .i64 2]) (by simp [results, Tryd.results45, go_sem, *]) rfl ⟨rfl, ?_⟩
    repeat' (first | with_reducible exact Below.refl _ _ | with_reducible refine Below.drew ?_ | with_reducible refine below_drewN ?_ _ | with_reducible refine Below.alloc ?_ (by first | omega | (simp <;> omega)) _ | with_reducible refine Below.setCell ?_ (by first | omega | (dsimp only; omega) | (simp <;> omega)) _ | with_reducible refine Below.trans ?_ (Below.mono (by assumption) (by first | omega | (simp <;> omega))))

set_option maxHeartbeats 4000000 in
theorem pblock_p (p : Prm) (w : World) : Calls Tryd.prog 47 #[.agg #[.int .i64 p.lv, .int .i64 p.wi, .int .i64 p.jo, .int .i64 p.ov, .bool p.sy, .bool p.ch]] w (TwoPost (blkR p) w) := by
  have hpk := okP_pchk p
  have qC := fun w => pcheck_p p.lv p.wi p.jo p.ov p.sy p.ch w
  rw [hpk] at qC
  unfold TwoPost blkR
  by_cases h : okP p = true
  · rw [if_pos h] at qC ⊢
    obtain ⟨h1, h2, h3, h4, h5, h6, h7, h8⟩ := okP_get h
    clear hpk h h1 h2 h5 h6
    obtain ⟨a, b, c, d, sy, ch⟩ := p
    dsimp only at qC h3 h4 h7 h8 ⊢
    go_enter Tryd.func47, Tryd.ntmps47
    go_wp2_with (first | (go_at_call 55; refine (qC _).mono ?_; rintro en wC ⟨rfl, hbC⟩; have hsC := hbC.size; (simp at hsC); have p0 : wC.cell? ⟨w.heap.size, 0, none⟩ = some (.int .i64 a) := (hbC.cell (p := ⟨w.heap.size, 0, none⟩) (by first | (simp; done) | (simp; omega))).trans (by simp [go_sem]); have p1 : wC.cell? ⟨w.heap.size, 1, none⟩ = some (.int .i64 b) := (hbC.cell (p := ⟨w.heap.size, 1, none⟩) (by first | (simp; done) | (simp; omega))).trans (by simp [go_sem]); have p2 : wC.cell? ⟨w.heap.size, 2, none⟩ = some (.int .i64 c) := (hbC.cell (p := ⟨w.heap.size, 2, none⟩) (by first | (simp; done) | (simp; omega))).trans (by simp [go_sem]); have p3 : wC.cell? ⟨w.heap.size, 3, none⟩ = some (.int .i64 d) := (hbC.cell (p := ⟨w.heap.size, 3, none⟩) (by first | (simp; done) | (simp; omega))).trans (by simp [go_sem]); have p4 : wC.cell? ⟨w.heap.size, 4, none⟩ = some (.bool sy) := (hbC.cell (p := ⟨w.heap.size, 4, none⟩) (by first | (simp; done) | (simp; omega))).trans (by simp [go_sem]); have p5 : wC.cell? ⟨w.heap.size, 5, none⟩ = some (.bool ch) := (hbC.cell (p := ⟨w.heap.size, 5, none⟩) (by first | (simp; done) | (simp; omega))).trans (by simp [go_sem])) | (go_at_call 89; refine (blk1_c b w.heap.size _ h3 h4 p1).mono ?_; rintro en wz ⟨rfl, rfl⟩) | go_in)
    go_light
    refine bodyPost_ret (v := .tuple #[.int .i64 (blkT b), .int .i64 0]) (by simp [results, Tryd.results47, go_sem, *]) rfl ⟨rfl, ?_⟩
    repeat' (first | with_reducible exact Below.refl _ _ | with_reducible refine Below.drew ?_ | with_reducible refine below_drewN ?_ _ | with_reducible refine Below.alloc ?_ (by first | omega | (simp <;> omega)) _ | with_reducible refine Below.setCell ?_ (by first | omega | (dsimp only; omega) | (simp <;> omega)) _ | with_reducible refine Below.trans ?_ (Below.mono (by assumption) (by first | omega | (simp <;> omega))))
  · rw [if_neg h] at qC ⊢
    clear hpk h
    obtain ⟨a, b, c, d, sy, ch⟩ := p
    dsimp only at qC ⊢
    go_enter Tryd.func47, Tryd.ntmps47
    go_wp2_with (first | (go_at_call 55; refine (qC _).mono ?_; rintro en wC ⟨rfl, hbC⟩; have hsC := hbC.size; (simp at hsC); have p0 : wC.cell? ⟨w.heap.size, 0, none⟩ = some (.int .i64 a) := (hbC.cell (p := ⟨w.heap.size, 0, none⟩) (by first | (simp; done) | (simp; omega))).trans (by simp [go_sem]); have p1 : wC.cell? ⟨w.heap.size, 1, none⟩ = some (.int .i64 b) := (hbC.cell (p := ⟨w.heap.size, 1, none⟩) (by first | (simp; done) | (simp; omega))).trans (by simp [go_sem]); have p2 : wC.cell? ⟨w.heap.size, 2, none⟩ = some (.int .i64 c) := (hbC.cell (p := ⟨w.heap.size, 2, none⟩) (by first | (simp; done) | (simp; omega))).trans (by simp [go_sem]); have p3 : wC.cell? ⟨w.heap.size, 3, none⟩ = some (.int .i64 d) := (hbC.cell (p := ⟨w.heap.size, 3, none⟩) (by first | (simp; done) | (simp; omega))).trans (by simp [go_sem]); have p4 : wC.cell? ⟨w.heap.size, 4, none⟩ = some (.bool sy) := (hbC.cell (p := ⟨w.heap.size, 4, none⟩) (by first | (simp; done) | (simp; omega))).trans (by simp [go_sem]); have p5 : wC.cell? ⟨w.heap.size, 5, none⟩ = some (.bool ch) := (hbC.cell (p := ⟨w.heap.size, 5, none⟩) (by first | (simp; done) | (simp; omega))).trans (by simp [go_sem])) | go_in)
    go_light
    refine bodyPost_ret (v := .tuple #[.int .i64 0, .int .i64 2]) (by simp [results, Tryd.results47, go_sem, *]) rfl ⟨rfl, ?_⟩
    repeat' (first | with_reducible exact Below.refl _ _ | with_reducible refine Below.drew ?_ | with_reducible refine below_drewN ?_ _ | with_reducible refine Below.alloc ?_ (by first | omega | (simp <;> omega)) _ | with_reducible refine Below.setCell ?_ (by first | omega | (dsimp only; omega) | (simp <;> omega)) _ | with_reducible refine Below.trans ?_ (Below.mono (by assumption) (by first | omega | (simp <;> omega))))

set_option maxHeartbeats 4000000 in
theorem pprefix_p (p : Prm) (w : World) : Calls Tryd.prog 49 #[.agg #[.int .i64 p.lv, .int .i64 p.wi, .int .i64 p.jo, .int .i64 p.ov, .bool p.sy, .bool p.ch]] w (TwoPost (preR p) w) := by
  have hpk := okP_pchk p
  have qC := fun w => pcheck_p p.lv p.wi p.jo p.ov p.sy p.ch w
  rw [hpk] at qC
  unfold TwoPost preR
  by_cases h : okP p = true
  · rw [if_pos h] at qC ⊢
    obtain ⟨h1, h2, h3, h4, h5, h6, h7, h8⟩ := okP_get h
    clear hpk h h1 h2 h5 h6
    obtain ⟨a, b, c, d, sy, ch⟩ := p
    dsimp only at qC h3 h4 h7 h8 ⊢
    go_enter Tryd.func49, Tryd.ntmps49
    go_wp2_with (first | (go_at_call 55; refine (qC _).mono ?_; rintro en wC ⟨rfl, hbC⟩; have hsC := hbC.size; (simp at hsC); have p0 : wC.cell? ⟨w.heap.size, 0, none⟩ = some (.int .i64 a) := (hbC.cell (p := ⟨w.heap.size, 0, none⟩) (by first | (simp; done) | (simp; omega))).trans (by simp [go_sem]); have p1 : wC.cell? ⟨w.heap.size, 1, none⟩ = some (.int .i64 b) := (hbC.cell (p := ⟨w.heap.size, 1, none⟩) (by first | (simp; done) | (simp; omega))).trans (by simp [go_sem]); have p2 : wC.cell? ⟨w.heap.size, 2, none⟩ = some (.int .i64 c) := (hbC.cell (p := ⟨w.heap.size, 2, none⟩) (by first | (simp; done) | (simp; omega))).trans (by simp [go_sem]); have p3 : wC.cell? ⟨w.heap.size, 3, none⟩ = some (.int .i64 d) := (hbC.cell (p := ⟨w.heap.size, 3, none⟩) (by first | (simp; done) | (simp; omega))).trans (by simp [go_sem]); have p4 : wC.cell? ⟨w.heap.size, 4, none⟩ = some (.bool sy) := (hbC.cell (p := ⟨w.heap.size, 4, none⟩) (by first | (simp; done) | (simp; omega))).trans (by simp [go_sem]); have p5 : wC.cell? ⟨w.heap.size, 5, none⟩ = some (.bool ch) := (hbC.cell (p := ⟨w.heap.size, 5, none⟩) (by first | (simp; done) | (simp; omega))).trans (by simp [go_sem])) | (go_at_call 90; refine (pre1_c b d w.heap.size _ h3 h4 h7 h8 p1 p3).mono ?_; rintro en wz ⟨rfl, hbZ⟩; have hsZ := hbZ.size) | go_in)
    go_light
    refine bodyPost_ret (v := .tuple #[.int .i64 (preT b d), .int .i64 0]) (by simp [results, Tryd.results49, go_sem, *]) rfl ⟨rfl, ?_⟩
    repeat' (first | with_reducible exact Below.refl _ _ | with_reducible refine Below.drew ?_ | with_reducible refine below_drewN ?_ _ | with_reducible refine Below.alloc ?_ (by first | omega | (simp <;> omega)) _ | with_reducible refine Below.setCell ?_ (by first | omega | (dsimp only; omega) | (simp <;> omega)) _ | with_reducible refine Below.trans ?_ (Below.mono (by assumption) (by first | omega | (simp <;> omega))))
  · rw [if_neg h] at qC ⊢
    clear hpk h
    obtain ⟨a, b, c, d, sy, ch⟩ := p
    dsimp only at qC ⊢
    go_enter Tryd.func49, Tryd.ntmps49
    go_wp2_with (first | (go_at_call 55; refine (qC _).mono ?_; rintro en wC ⟨rfl, hbC⟩; have hsC := hbC.size; (simp at hsC); have p0 : wC.cell? ⟨w.heap.size, 0, none⟩ = some (.int .i64 a) := (hbC.cell (p := ⟨w.heap.size, 0, none⟩) (by first | (simp; done) | (simp; omega))).trans (by simp [go_sem]); have p1 : wC.cell? ⟨w.heap.size, 1, none⟩ = some (.int .i64 b) := (hbC.cell (p := ⟨w.heap.size, 1, none⟩) (by first | (simp; done) | (simp; omega))).trans (by simp [go_sem]); have p2 : wC.cell? ⟨w.heap.size, 2, none⟩ = some (.int .i64 c) := (hbC.cell (p := ⟨w.heap.size, 2, none⟩) (by first | (simp; done) | (simp; omega))).trans (by simp [go_sem]); have p3 : wC.cell? ⟨w.heap.size, 3, none⟩ = some (.int .i64 d) := (hbC.cell (p := ⟨w.heap.size, 3, none⟩) (by first | (simp; done) | (simp; omega))).trans (by simp [go_sem]); have p4 : wC.cell? ⟨w.heap.size, 4, none⟩ = some (.bool sy) := (hbC.cell (p := ⟨w.heap.size, 4, none⟩) (by first | (simp; done) | (simp; omega))).trans (by simp [go_sem]); have p5 : wC.cell? ⟨w.heap.size, 5, none⟩ = some (.bool ch) := (hbC.cell (p := ⟨w.heap.size, 5, none⟩) (by first | (simp; done) | (simp; omega))).trans (by simp [go_sem])) | go_in)
    go_light
    refine bodyPost_ret (v := .tuple #[.int .i64 0, .int .i64 2]) (by simp [results, Tryd.results49, go_sem, *]) rfl ⟨rfl, ?_⟩
    repeat' (first | with_reducible exact Below.refl _ _ | with_reducible refine Below.drew ?_ | with_reducible refine below_drewN ?_ _ | with_reducible refine Below.alloc ?_ (by first | omega | (simp <;> omega)) _ | with_reducible refine Below.setCell ?_ (by first | omega | (dsimp only; omega) | (simp <;> omega)) _ | with_reducible refine Below.trans ?_ (Below.mono (by assumption) (by first | omega | (simp <;> omega))))

set_option maxHeartbeats 8000000 in
theorem rwindow_p (p : Prm) (w : World) : Calls Tryd.prog 46 #[.agg #[.int .i64 p.lv, .int .i64 p.wi, .int .i64 p.jo, .int .i64 p.ov, .bool p.sy, .bool p.ch]] w (TwoPost (winR p) w) := by
  have hpk := okP_pchk p
  have qC := fun w => rpcheck_p p.lv p.wi p.jo p.ov p.sy p.ch w
  rw [hpk] at qC
  unfold TwoPost winR
  by_cases h : okP p = true
  · rw [if_pos h] at qC ⊢
    obtain ⟨h1, h2, h3, h4, h5, h6, h7, h8⟩ := okP_get h
    clear hpk h h1 h2 h5 h6 h7 h8
    obtain ⟨a, b, c, d, sy, ch⟩ := p
    dsimp only at qC h3 h4 ⊢
    rcases w18 h3 h4 with rfl | rfl | rfl | rfl | rfl | rfl | rfl | rfl | rfl | rfl | rfl | rfl | rfl | rfl | rfl | rfl | rfl | rfl
    all_goals clear h3 h4
    · go_enter Tryd.func46, Tryd.ntmps46
      go_wp2_with (go_at_call 56; refine (qC _).mono ?_; rintro en wC ⟨rfl, hbC⟩; have hsC := hbC.size; (simp at hsC); have p1 : wC.cell? ⟨w.heap.size, 1, none⟩ = some (.int .i64 10) := (hbC.cell (p := ⟨w.heap.size, 1, none⟩) (by simp)).trans (by simp [go_sem]))
      go_ret2
      exact ⟨rfl, ((Below.refl _ w).alloc (Nat.le_refl _) _).trans (hbC.mono (by simp))⟩
    · go_enter Tryd.func46, Tryd.ntmps46
      go_wp2_with (go_at_call 56; refine (qC _).mono ?_; rintro en wC ⟨rfl, hbC⟩; have hsC := hbC.size; (simp at hsC); have p1 : wC.cell? ⟨w.heap.size, 1, none⟩ = some (.int .i64 11) := (hbC.cell (p := ⟨w.heap.size, 1, none⟩) (by simp)).trans (by simp [go_sem]))
      go_ret2
      exact ⟨rfl, ((Below.refl _ w).alloc (Nat.le_refl _) _).trans (hbC.mono (by simp))⟩
    · go_enter Tryd.func46, Tryd.ntmps46
      go_wp2_with (go_at_call 56; refine (qC _).mono ?_; rintro en wC ⟨rfl, hbC⟩; have hsC := hbC.size; (simp at hsC); have p1 : wC.cell? ⟨w.heap.size, 1, none⟩ = some (.int .i64 12) := (hbC.cell (p := ⟨w.heap.size, 1, none⟩) (by simp)).trans (by simp [go_sem]))
      go_ret2
      exact ⟨rfl, ((Below.refl _ w).alloc (Nat.le_refl _) _).trans (hbC.mono (by simp))⟩
    · go_enter Tryd.func46, Tryd.ntmps46
      go_wp2_with (go_at_call 56; refine (qC _).mono ?_; rintro en wC ⟨rfl, hbC⟩; have hsC := hbC.size; (simp at hsC); have p1 : wC.cell? ⟨w.heap.size, 1, none⟩ = some (.int .i64 13) := (hbC.cell (p := ⟨w.heap.size, 1, none⟩) (by simp)).trans (by simp [go_sem]))
      go_ret2
      exact ⟨rfl, ((Below.refl _ w).alloc (Nat.le_refl _) _).trans (hbC.mono (by simp))⟩
    · go_enter Tryd.func46, Tryd.ntmps46
      go_wp2_with (go_at_call 56; refine (qC _).mono ?_; rintro en wC ⟨rfl, hbC⟩; have hsC := hbC.size; (simp at hsC); have p1 : wC.cell? ⟨w.heap.size, 1, none⟩ = some (.int .i64 14) := (hbC.cell (p := ⟨w.heap.size, 1, none⟩) (by simp)).trans (by simp [go_sem]))
      go_ret2
      exact ⟨rfl, ((Below.refl _ w).alloc (Nat.le_refl _) _).trans (hbC.mono (by simp))⟩
    · go_enter Tryd.func46, Tryd.ntmps46
      go_wp2_with (go_at_call 56; refine (qC _).mono ?_; rintro en wC ⟨rfl, hbC⟩; have hsC := hbC.size; (simp at hsC); have p1 : wC.cell? ⟨w.heap.size, 1, none⟩ = some (.int .i64 15) := (hbC.cell (p := ⟨w.heap.size, 1, none⟩) (by simp)).trans (by simp [go_sem]))
      go_ret2
      exact ⟨rfl, ((Below.refl _ w).alloc (Nat.le_refl _) _).trans (hbC.mono (by simp))⟩
    · go_enter Tryd.func46, Tryd.ntmps46
      go_wp2_with (go_at_call 56; refine (qC _).mono ?_; rintro en wC ⟨rfl, hbC⟩; have hsC := hbC.size; (simp at hsC); have p1 : wC.cell? ⟨w.heap.size, 1, none⟩ = some (.int .i64 16) := (hbC.cell (p := ⟨w.heap.size, 1, none⟩) (by simp)).trans (by simp [go_sem]))
      go_ret2
      exact ⟨rfl, ((Below.refl _ w).alloc (Nat.le_refl _) _).trans (hbC.mono (by simp))⟩
    · go_enter Tryd.func46, Tryd.ntmps46
      go_wp2_with (go_at_call 56; refine (qC _).mono ?_; rintro en wC ⟨rfl, hbC⟩; have hsC := hbC.size; (simp at hsC); have p1 : wC.cell? ⟨w.heap.size, 1, none⟩ = some (.int .i64 17) := (hbC.cell (p := ⟨w.heap.size, 1, none⟩) (by simp)).trans (by simp [go_sem]))
      go_ret2
      exact ⟨rfl, ((Below.refl _ w).alloc (Nat.le_refl _) _).trans (hbC.mono (by simp))⟩
    · go_enter Tryd.func46, Tryd.ntmps46
      go_wp2_with (go_at_call 56; refine (qC _).mono ?_; rintro en wC ⟨rfl, hbC⟩; have hsC := hbC.size; (simp at hsC); have p1 : wC.cell? ⟨w.heap.size, 1, none⟩ = some (.int .i64 18) := (hbC.cell (p := ⟨w.heap.size, 1, none⟩) (by simp)).trans (by simp [go_sem]))
      go_ret2
      exact ⟨rfl, ((Below.refl _ w).alloc (Nat.le_refl _) _).trans (hbC.mono (by simp))⟩
    · go_enter Tryd.func46, Tryd.ntmps46
      go_wp2_with (go_at_call 56; refine (qC _).mono ?_; rintro en wC ⟨rfl, hbC⟩; have hsC := hbC.size; (simp at hsC); have p1 : wC.cell? ⟨w.heap.size, 1, none⟩ = some (.int .i64 19) := (hbC.cell (p := ⟨w.heap.size, 1, none⟩) (by simp)).trans (by simp [go_sem]))
      go_ret2
      exact ⟨rfl, ((Below.refl _ w).alloc (Nat.le_refl _) _).trans (hbC.mono (by simp))⟩
    · go_enter Tryd.func46, Tryd.ntmps46
      go_wp2_with (go_at_call 56; refine (qC _).mono ?_; rintro en wC ⟨rfl, hbC⟩; have hsC := hbC.size; (simp at hsC); have p1 : wC.cell? ⟨w.heap.size, 1, none⟩ = some (.int .i64 20) := (hbC.cell (p := ⟨w.heap.size, 1, none⟩) (by simp)).trans (by simp [go_sem]))
      go_ret2
      exact ⟨rfl, ((Below.refl _ w).alloc (Nat.le_refl _) _).trans (hbC.mono (by simp))⟩
    · go_enter Tryd.func46, Tryd.ntmps46
      go_wp2_with (go_at_call 56; refine (qC _).mono ?_; rintro en wC ⟨rfl, hbC⟩; have hsC := hbC.size; (simp at hsC); have p1 : wC.cell? ⟨w.heap.size, 1, none⟩ = some (.int .i64 21) := (hbC.cell (p := ⟨w.heap.size, 1, none⟩) (by simp)).trans (by simp [go_sem]))
      go_ret2
      exact ⟨rfl, ((Below.refl _ w).alloc (Nat.le_refl _) _).trans (hbC.mono (by simp))⟩
    · go_enter Tryd.func46, Tryd.ntmps46
      go_wp2_with (go_at_call 56; refine (qC _).mono ?_; rintro en wC ⟨rfl, hbC⟩; have hsC := hbC.size; (simp at hsC); have p1 : wC.cell? ⟨w.heap.size, 1, none⟩ = some (.int .i64 22) := (hbC.cell (p := ⟨w.heap.size, 1, none⟩) (by simp)).trans (by simp [go_sem]))
      go_ret2
      exact ⟨rfl, ((Below.refl _ w).alloc (Nat.le_refl _) _).trans (hbC.mono (by simp))⟩
    · go_enter Tryd.func46, Tryd.ntmps46
      go_wp2_with (go_at_call 56; refine (qC _).mono ?_; rintro en wC ⟨rfl, hbC⟩; have hsC := hbC.size; (simp at hsC); have p1 : wC.cell? ⟨w.heap.size, 1, none⟩ = some (.int .i64 23) := (hbC.cell (p := ⟨w.heap.size, 1, none⟩) (by simp)).trans (by simp [go_sem]))
      go_ret2
      exact ⟨rfl, ((Below.refl _ w).alloc (Nat.le_refl _) _).trans (hbC.mono (by simp))⟩
    · go_enter Tryd.func46, Tryd.ntmps46
      go_wp2_with (go_at_call 56; refine (qC _).mono ?_; rintro en wC ⟨rfl, hbC⟩; have hsC := hbC.size; (simp at hsC); have p1 : wC.cell? ⟨w.heap.size, 1, none⟩ = some (.int .i64 24) := (hbC.cell (p := ⟨w.heap.size, 1, none⟩) (by simp)).trans (by simp [go_sem]))
      go_ret2
      exact ⟨rfl, ((Below.refl _ w).alloc (Nat.le_refl _) _).trans (hbC.mono (by simp))⟩
    · go_enter Tryd.func46, Tryd.ntmps46
      go_wp2_with (go_at_call 56; refine (qC _).mono ?_; rintro en wC ⟨rfl, hbC⟩; have hsC := hbC.size; (simp at hsC); have p1 : wC.cell? ⟨w.heap.size, 1, none⟩ = some (.int .i64 25) := (hbC.cell (p := ⟨w.heap.size, 1, none⟩) (by simp)).trans (by simp [go_sem]))
      go_ret2
      exact ⟨rfl, ((Below.refl _ w).alloc (Nat.le_refl _) _).trans (hbC.mono (by simp))⟩
    · go_enter Tryd.func46, Tryd.ntmps46
      go_wp2_with (go_at_call 56; refine (qC _).mono ?_; rintro en wC ⟨rfl, hbC⟩; have hsC := hbC.size; (simp at hsC); have p1 : wC.cell? ⟨w.heap.size, 1, none⟩ = some (.int .i64 26) := (hbC.cell (p := ⟨w.heap.size, 1, none⟩) (by simp)).trans (by simp [go_sem]))
      go_ret2
      exact ⟨rfl, ((Below.refl _ w).alloc (Nat.le_refl _) _).trans (hbC.mono (by simp))⟩
    · go_enter Tryd.func46, Tryd.ntmps46
      go_wp2_with (go_at_call 56; refine (qC _).mono ?_; rintro en wC ⟨rfl, hbC⟩; have hsC := hbC.size; (simp at hsC); have p1 : wC.cell? ⟨w.heap.size, 1, none⟩ = some (.int .i64 27) := (hbC.cell (p := ⟨w.heap.size, 1, none⟩) (by simp)).trans (by simp [go_sem]))
      go_ret2
      exact ⟨rfl, ((Below.refl _ w).alloc (Nat.le_refl _) _).trans (hbC.mono (by simp))⟩
  · rw [if_neg h] at qC ⊢
    clear hpk h
    obtain ⟨a, b, c, d, sy, ch⟩ := p
    dsimp only at qC ⊢
    go_enter Tryd.func46, Tryd.ntmps46
    go_wp2_with (go_at_call 56; refine (qC _).mono ?_; rintro en wC ⟨rfl, hbC⟩; have hsC := hbC.size)
    go_ret2
    exact ⟨rfl, ((Below.refl _ w).alloc (Nat.le_refl _) _).trans (hbC.mono (by simp))⟩

theorem winT_nat (W : Int) : ∃ N : Nat, winT W = (N : Int) ∧ N = 2 ^ W.toNat := ⟨_, rfl, rfl⟩
theorem win_le {W : Int} (h1 : 10 ≤ W) (h2 : W ≤ 27) : 2 ^ W.toNat ≤ 134217728 := by
  have h : 2 ^ W.toNat ≤ 2 ^ 27 := Nat.pow_le_pow_right (by decide) (by omega)
  have : (2 : Nat) ^ 27 = 134217728 := by decide
  omega
set_option maxHeartbeats 4000000 in
theorem rblock_p (p : Prm) (w : World) : Calls Tryd.prog 48 #[.agg #[.int .i64 p.lv, .int .i64 p.wi, .int .i64 p.jo, .int .i64 p.ov, .bool p.sy, .bool p.ch]] w (TwoPost (blkR p) w) := by
  have qW := fun w => rwindow_p p w
  unfold TwoPost winR at qW
  unfold TwoPost blkR
  by_cases h : okP p = true
  · rw [if_pos h] at qW ⊢
    obtain ⟨h1, h2, h3, h4, h5, h6, h7, h8⟩ := okP_get h
    obtain ⟨N, hN, hN2⟩ := winT_nat p.wi
    have hN3 := win_le h3 h4
    rw [← hN2] at hN3
    unfold blkT
    rw [hN] at qW ⊢
    clear h h1 h2 h3 h4 h5 h6 h7 h8 hN hN2
    obtain ⟨a, b, c, d, sy, ch⟩ := p
    dsimp only at qW ⊢
    by_cases hm : (N : Int) ≤ 131072
    · rw [Int.min_eq_left hm]
      go_enter Tryd.func48, Tryd.ntmps48
      go_wp2_with (go_at_call 46; refine (qW _).mono ?_; rintro en wC ⟨rfl, hbC⟩; have hsC := hbC.size; (simp at hsC); have p0 : wC.cell? ⟨w.heap.size, 0, none⟩ = some (.int .i64 a) := (hbC.cell (p := ⟨w.heap.size, 0, none⟩) (by first | (simp; done) | (simp; omega))).trans (by simp [go_sem]); have p1 : wC.cell? ⟨w.heap.size, 1, none⟩ = some (.int .i64 b) := (hbC.cell (p := ⟨w.heap.size, 1, none⟩) (by first | (simp; done) | (simp; omega))).trans (by simp [go_sem]); have p2 : wC.cell? ⟨w.heap.size, 2, none⟩ = some (.int .i64 c) := (hbC.cell (p := ⟨w.heap.size, 2, none⟩) (by first | (simp; done) | (simp; omega))).trans (by simp [go_sem]); have p3 : wC.cell? ⟨w.heap.size, 3, none⟩ = some (.int .i64 d) := (hbC.cell (p := ⟨w.heap.size, 3, none⟩) (by first | (simp; done) | (simp; omega))).trans (by simp [go_sem]); have p4 : wC.cell? ⟨w.heap.size, 4, none⟩ = some (.bool sy) := (hbC.cell (p := ⟨w.heap.size, 4, none⟩) (by first | (simp; done) | (simp; omega))).trans (by simp [go_sem]); have p5 : wC.cell? ⟨w.heap.size, 5, none⟩ = some (.bool ch) := (hbC.cell (p := ⟨w.heap.size, 5, none⟩) (by first | (simp; done) | (simp; omega))).trans (by simp [go_sem]))
      all_goals go_light
      all_goals
        refine bodyPost_ret (v := .tuple #[.int .i64 (N : Int), .int .i64 0]) (by simp [results, Tryd.results48, go_sem, *] <;> omega) rfl ⟨rfl, ?_⟩
        repeat' (first | with_reducible exact Below.refl _ _ | with_reducible refine Below.drew ?_ | with_reducible refine below_drewN ?_ _ | with_reducible refine Below.alloc ?_ (by first | omega | (simp <;> omega)) _ | with_reducible refine Below.setCell ?_ (by first | omega | (dsimp only; omega) | (simp <;> omega)) _ | with_reducible refine Below.trans ?_ (Below.mono (by assumption) (by first | omega | (simp <;> omega))))
    · have hm2 : (131072 : Int) ≤ (N : Int) := by omega
      rw [Int.min_eq_right hm2]
      go_enter Tryd.func48, Tryd.ntmps48
      go_wp2_with (go_at_call 46; refine (qW _).mono ?_; rintro en wC ⟨rfl, hbC⟩; have hsC := hbC.size; (simp at hsC); have p0 : wC.cell? ⟨w.heap.size, 0, none⟩ = some (.int .i64 a) := (hbC.cell (p := ⟨w.heap.size, 0, none⟩) (by first | (simp; done) | (simp; omega))).trans (by simp [go_sem]); have p1 : wC.cell? ⟨w.heap.size, 1, none⟩ = some (.int .i64 b) := (hbC.cell (p := ⟨w.heap.size, 1, none⟩) (by first | (simp; done) | (simp; omega))).trans (by simp [go_sem]); have p2 : wC.cell? ⟨w.heap.size, 2, none⟩ = some (.int .i64 c) := (hbC.cell (p := ⟨w.heap.size, 2, none⟩) (by first | (simp; done) | (simp; omega))).trans (by simp [go_sem]); have p3 : wC.cell? ⟨w.heap.size, 3, none⟩ = some (.int .i64 d) := (hbC.cell (p := ⟨w.heap.size, 3, none⟩) (by first | (simp; done) | (simp; omega))).trans (by simp [go_sem]); have p4 : wC.cell? ⟨w.heap.size, 4, none⟩ = some (.bool sy) := (hbC.cell (p := ⟨w.heap.size, 4, none⟩) (by first | (simp; done) | (simp; omega))).trans (by simp [go_sem]); have p5 : wC.cell? ⟨w.heap.size, 5, none⟩ = some (.bool ch) := (hbC.cell (p := ⟨w.heap.size, 5, none⟩) (by first | (simp; done) | (simp; omega))).trans (by simp [go_sem]))
      all_goals go_light
      all_goals
        refine bodyPost_ret (v := .tuple #[.int .i64 131072, .int .i64 0]) (by simp [results, Tryd.results48, go_sem, *] <;> omega) rfl ⟨rfl, ?_⟩
        repeat' (first | with_reducible exact Below.refl _ _ | with_reducible refine Below.drew ?_ | with_reducible refine below_drewN ?_ _ | with_reducible refine Below.alloc ?_ (by first | omega | (simp <;> omega)) _ | with_reducible refine Below.setCell ?_ (by first | omega | (dsimp only; omega) | (simp <;> omega)) _ | with_reducible refine Below.trans ?_ (Below.mono (by assumption) (by first | omega | (simp <;> omega))))
  · rw [if_neg h] at qW ⊢
    clear h
    obtain ⟨a, b, c, d, sy, ch⟩ := p
    dsimp only at qW ⊢
    go_enter Tryd.func48, Tryd.ntmps48
    go_wp2_with (go_at_call 46; refine (qW _).mono ?_; rintro en wC ⟨rfl, hbC⟩; have hsC := hbC.size; (simp at hsC); have p0 : wC.cell? ⟨w.heap.size, 0, none⟩ = some (.int .i64 a) := (hbC.cell (p := ⟨w.heap.size, 0, none⟩) (by first | (simp; done) | (simp; omega))).trans (by simp [go_sem]); have p1 : wC.cell? ⟨w.heap.size, 1, none⟩ = some (.int .i64 b) := (hbC.cell (p := ⟨w.heap.size, 1, none⟩) (by first | (simp; done) | (simp; omega))).trans (by simp [go_sem]); have p2 : wC.cell? ⟨w.heap.size, 2, none⟩ = some (.int .i64 c) := (hbC.cell (p := ⟨w.heap.size, 2, none⟩) (by first | (simp; done) | (simp; omega))).trans (by simp [go_sem]); have p3 : wC.cell? ⟨w.heap.size, 3, none⟩ = some (.int .i64 d) := (hbC.cell (p := ⟨w.heap.size, 3, none⟩) (by first | (simp; done) | (simp; omega))).trans (by simp [go_sem]); have p4 : wC.cell? ⟨w.heap.size, 4, none⟩ = some (.bool sy) := (hbC.cell (p := ⟨w.heap.size, 4, none⟩) (by first | (simp; done) | (simp; omega))).trans (by simp [go_sem]); have p5 : wC.cell? ⟨w.heap.size, 5, none⟩ = some (.bool ch) := (hbC.cell (p := ⟨w.heap.size, 5, none⟩) (by first | (simp; done) | (simp; omega))).trans (by simp [go_sem]))
    go_light
    refine bodyPost_ret (v := .tuple #[.int .i64 0, .int .i64 2]) (by simp [results, Tryd.results48, go_sem, *]) rfl ⟨rfl, ?_⟩
    repeat' (first | with_reducible exact Below.refl _ _ | with_reducible refine Below.drew ?_ | with_reducible refine below_drewN ?_ _ | with_reducible refine Below.alloc ?_ (by first | omega | (simp <;> omega)) _ | with_reducible refine Below.setCell ?_ (by first | omega | (dsimp only; omega) | (simp <;> omega)) _ | with_reducible refine Below.trans ?_ (Below.mono (by assumption) (by first | omega | (simp <;> omega))))

set_option maxHeartbeats 4000000 in
theorem rprefix_p (p : Prm) (w : World) : Calls Tryd.prog 50 #[.agg #[.int .i64 p.lv, .int .i64 p.wi, .int .i64 p.jo, .int .i64 p.ov, .bool p.sy, .bool p.ch]] w (TwoPost (preR p) w) := by
  have qW := fun w => rwindow_p p w
  unfold TwoPost winR at qW
  unfold TwoPost preR
  by_cases h : okP p = true
  · rw [if_pos h] at qW ⊢
    obtain ⟨h1, h2, h3, h4, h5, h6, h7, h8⟩ := okP_get h
    obtain ⟨N, hN, hN2⟩ := winT_nat p.wi
    have hN3 := win_le h3 h4
    rw [← hN2] at hN3
    unfold preT
    rw [← hN2]
    rw [hN] at qW
    clear h h1 h2 h3 h4 h5 h6 hN hN2
    obtain ⟨a, b, c, d, sy, ch⟩ := p
    dsimp only at qW h7 h8 ⊢
    by_cases h0 : d = 0
    · subst h0
      rw [if_pos rfl]
      clear h7 h8
      go_enter Tryd.func50, Tryd.ntmps50
      go_wp2_with (go_at_call 46; refine (qW _).mono ?_; rintro en wC ⟨rfl, hbC⟩; have hsC := hbC.size; (simp at hsC); have p0 : wC.cell? ⟨w.heap.size, 0, none⟩ = some (.int .i64 a) := (hbC.cell (p := ⟨w.heap.size, 0, none⟩) (by first | (simp; done) | (simp; omega))).trans (by simp [go_sem]); have p1 : wC.cell? ⟨w.heap.size, 1, none⟩ = some (.int .i64 b) := (hbC.cell (p := ⟨w.heap.size, 1, none⟩) (by first | (simp; done) | (simp; omega))).trans (by simp [go_sem]); have p2 : wC.cell? ⟨w.heap.size, 2, none⟩ = some (.int .i64 c) := (hbC.cell (p := ⟨w.heap.size, 2, none⟩) (by first | (simp; done) | (simp; omega))).trans (by simp [go_sem]); have p3 : wC.cell? ⟨w.heap.size, 3, none⟩ = some (.int .i64 0) := (hbC.cell (p := ⟨w.heap.size, 3, none⟩) (by first | (simp; done) | (simp; omega))).trans (by simp [go_sem]); have p4 : wC.cell? ⟨w.heap.size, 4, none⟩ = some (.bool sy) := (hbC.cell (p := ⟨w.heap.size, 4, none⟩) (by first | (simp; done) | (simp; omega))).trans (by simp [go_sem]); have p5 : wC.cell? ⟨w.heap.size, 5, none⟩ = some (.bool ch) := (hbC.cell (p := ⟨w.heap.size, 5, none⟩) (by first | (simp; done) | (simp; omega))).trans (by simp [go_sem]))
      go_light
      refine bodyPost_ret (v := .tuple #[.int .i64 0, .int .i64 0]) (by simp [results, Tryd.results50, go_sem, *]) rfl ⟨rfl, ?_⟩
      repeat' (first | with_reducible exact Below.refl _ _ | with_reducible refine Below.drew ?_ | with_reducible refine below_drewN ?_ _ | with_reducible refine Below.alloc ?_ (by first | omega | (simp <;> omega)) _ | with_reducible refine Below.setCell ?_ (by first | omega | (dsimp only; omega) | (simp <;> omega)) _ | with_reducible refine Below.trans ?_ (Below.mono (by assumption) (by first | omega | (simp <;> omega))))
    · rw [if_neg h0]
      obtain ⟨d, rfl⟩ := Int.eq_ofNat_of_zero_le h7
      have h9 : 1 ≤ d := by omega
      have h10 : d ≤ 9 := by omega
      have t0 : ((d : Int) == 0) = false := by simp; omega
      have t1 : ¬ (d : Int) = 0 := by omega
      rw [show ((↑d : Int)).toNat = d from rfl]
      have HN3 := hN3
      clear h0 h7 h8
      go_enter Tryd.func50, Tryd.ntmps50
      go_wp2_with (go_at_call 46; refine (qW _).mono ?_; rintro en wC ⟨rfl, hbC⟩; have hsC := hbC.size; (simp at hsC); have p0 : wC.cell? ⟨w.heap.size, 0, none⟩ = some (.int .i64 a) := (hbC.cell (p := ⟨w.heap.size, 0, none⟩) (by first | (simp; done) | (simp; omega))).trans (by simp [go_sem]); have p1 : wC.cell? ⟨w.heap.size, 1, none⟩ = some (.int .i64 b) := (hbC.cell (p := ⟨w.heap.size, 1, none⟩) (by first | (simp; done) | (simp; omega))).trans (by simp [go_sem]); have p2 : wC.cell? ⟨w.heap.size, 2, none⟩ = some (.int .i64 c) := (hbC.cell (p := ⟨w.heap.size, 2, none⟩) (by first | (simp; done) | (simp; omega))).trans (by simp [go_sem]); have p3 : wC.cell? ⟨w.heap.size, 3, none⟩ = some (.int .i64 (d : Int)) := (hbC.cell (p := ⟨w.heap.size, 3, none⟩) (by first | (simp; done) | (simp; omega))).trans (by simp [go_sem]); have p4 : wC.cell? ⟨w.heap.size, 4, none⟩ = some (.bool sy) := (hbC.cell (p := ⟨w.heap.size, 4, none⟩) (by first | (simp; done) | (simp; omega))).trans (by simp [go_sem]); have p5 : wC.cell? ⟨w.heap.size, 5, none⟩ = some (.bool ch) := (hbC.cell (p := ⟨w.heap.size, 5, none⟩) (by first | (simp; done) | (simp; omega))).trans (by simp [go_sem]))
      go_loopw [4, 6] (fun v4 v6 wr => ∃ k : Nat, v6 = .int .i64 ((d + k : Nat) : Int) ∧ d + k ≤ 9 ∧ v4 = .int .i64 ((N / 2 ^ k : Nat) : Int) ∧ Below wC.heap.size wC wr) (fun _ v _ => 9 - (intOf v).toNat)
      case atStart => exact ⟨0, rfl, by omega, by simp, Below.refl _ _⟩
      case round =>
        obtain ⟨k, rfl, hk, rfl, hb⟩ := hrel
        obtain ⟨i, hi⟩ : ∃ i, d + k = i := ⟨_, rfl⟩
        obtain ⟨M, hM⟩ : ∃ M, N / 2 ^ k = M := ⟨_, rfl⟩
        have hM2 : M ≤ N := by rw [← hM]; exact Nat.div_le_self _ _
        have HM := Lib.hid hM
        have HI := Lib.hid hi
        rw [hi] at hk
        rw [hi, hM]
        clear hi hM
        by_cases hlt : i < 9
        · go_wp2
          go_roundw
          case rel =>
            refine ⟨k + 1, by rw [show d + (k + 1) = i + 1 by have := HI.out; omega]; go_num, by have := HI.out; omega, ?_, hb⟩
            rw [Nat.pow_succ, ← Nat.div_div_eq_div_mul, HM.out]
            first | rfl | go_num
          case measure => go_light; simp [intOf] <;> omega
        · have hk9 : k = 9 - d := by have := HI.out; omega
          have hend : M = N / 2 ^ (9 - d) := by rw [← HM.out, hk9]
          have HEND := Lib.hid hend
          clear hend hk9
          have hi9 : i = 9 := by omega
          subst hi9
          go_wp2
          go_ret2
          exact ⟨by rw [← HEND.out]; rfl, (((Below.refl _ w).alloc (Nat.le_refl _) _).trans (hbC.mono (by simp))).trans (hb.mono (by omega))⟩
  · rw [if_neg h] at qW ⊢
    clear h
    obtain ⟨a, b, c, d, sy, ch⟩ := p
    dsimp only at qW ⊢
    go_enter Tryd.func50, Tryd.ntmps50
    go_wp2_with (go_at_call 46; refine (qW _).mono ?_; rintro en wC ⟨rfl, hbC⟩; have hsC := hbC.size; (simp at hsC); have p0 : wC.cell? ⟨w.heap.size, 0, none⟩ = some (.int .i64 a) := (hbC.cell (p := ⟨w.heap.size, 0, none⟩) (by first | (simp; done) | (simp; omega))).trans (by simp [go_sem]); have p1 : wC.cell? ⟨w.heap.size, 1, none⟩ = some (.int .i64 b) := (hbC.cell (p := ⟨w.heap.size, 1, none⟩) (by first | (simp; done) | (simp; omega))).trans (by simp [go_sem]); have p2 : wC.cell? ⟨w.heap.size, 2, none⟩ = some (.int .i64 c) := (hbC.cell (p := ⟨w.heap.size, 2, none⟩) (by first | (simp; done) | (simp; omega))).trans (by simp [go_sem]); have p3 : wC.cell? ⟨w.heap.size, 3, none⟩ = some (.int .i64 d) := (hbC.cell (p := ⟨w.heap.size, 3, none⟩) (by first | (simp; done) | (simp; omega))).trans (by simp [go_sem]); have p4 : wC.cell? ⟨w.heap.size, 4, none⟩ = some (.bool sy) := (hbC.cell (p := ⟨w.heap.size, 4, none⟩) (by first | (simp; done) | (simp; omega))).trans (by simp [go_sem]); have p5 : wC.cell? ⟨w.heap.size, 5, none⟩ = some (.bool ch) := (hbC.cell (p := ⟨w.heap.size, 5, none⟩) (by first | (simp; done) | (simp; omega))).trans (by simp [go_sem]))
    go_light
    refine bodyPost_ret (v := .tuple #[.int .i64 0, .int .i64 2]) (by simp [results, Tryd.results50, go_sem, *]) rfl ⟨rfl, ?_⟩
    repeat' (first | with_reducible exact Below.refl _ _ | with_reducible refine Below.drew ?_ | with_reducible refine below_drewN ?_ _ | with_reducible refine Below.alloc ?_ (by first | omega | (simp <;> omega)) _ | with_reducible refine Below.setCell ?_ (by first | omega | (dsimp only; omega) | (simp <;> omega)) _ | with_reducible refine Below.trans ?_ (Below.mono (by assumption) (by first | omega | (simp <;> omega))))
/-- The parameters of a level. -/
def defR (l : Int) : Prm × Int := if 1 ≤ l ∧ l ≤ 9 then (⟨l, min (16 + l) 22, min (4 * winT (min (16 + l) 22)) 2097152, 6, false, true⟩, 0) else (prm0, 2)

set_option maxHeartbeats 8000000 in
theorem pdefault_p (l : Int) (w : World) : Calls Tryd.prog 53 #[.int .i64 l] w (PrmPost (defR l) w) := by
  unfold PrmPost defR
  by_cases h : 1 ≤ l ∧ l ≤ 9
  · rw [if_pos h]
    obtain ⟨h1, h2⟩ := h
    rcases nine h1 h2 with rfl | rfl | rfl | rfl | rfl | rfl | rfl | rfl | rfl
    all_goals clear h1 h2
    · have e : ((⟨1, min (16 + 1) 22, min (4 * winT (min (16 + 1) 22)) 2097152, 6, false, true⟩ : Prm), (0 : Int)) = (⟨1, 17, 524288, 6, false, true⟩, 0) := by rfl
      rw [e]
      clear e
      go_enter Tryd.func53, Tryd.ntmps53
      go_wp2_with (first | (go_at_call 80; refine (within_s _ _ _ _).mono ?_; rintro en wz ⟨rfl, rfl⟩) | go_in)
      go_light
      refine bodyPost_ret (v := .tuple #[.agg #[.int .i64 1, .int .i64 17, .int .i64 524288, .int .i64 6, .bool false, .bool true], .int .i64 0]) (by first | (simp [results, Tryd.results53, go_sem, *]; done) | (simp [results, Tryd.results53, go_sem, *]; decide +kernel)) rfl ⟨rfl, ?_⟩
      repeat' (first | with_reducible exact Below.refl _ _ | with_reducible refine Below.drew ?_ | with_reducible refine below_drewN ?_ _ | with_reducible refine Below.alloc ?_ (by first | omega | (simp <;> omega)) _ | with_reducible refine Below.setCell ?_ (by first | omega | (dsimp only; omega) | (simp <;> omega)) _ | with_reducible refine Below.trans ?_ (Below.mono (by assumption) (by first | omega | (simp <;> omega))))
    · have e : ((⟨2, min (16 + 2) 22, min (4 * winT (min (16 + 2) 22)) 2097152, 6, false, true⟩ : Prm), (0 : Int)) = (⟨2, 18, 1048576, 6, false, true⟩, 0) := by rfl
      rw [e]
      clear e
      go_enter Tryd.func53, Tryd.ntmps53
      go_wp2_with (first | (go_at_call 80; refine (within_s _ _ _ _).mono ?_; rintro en wz ⟨rfl, rfl⟩) | go_in)
      go_light
      refine bodyPost_ret (v := .tuple #[.agg #[.int .i64 2, .int .i64 18, .int .i64 1048576, .int .i64 6, .bool false, .bool true], .int .i64 0]) (by first | (simp [results, Tryd.results53, go_sem, *]; done) | (simp [results, Tryd.results53, go_sem, *]; decide +kernel)) rfl ⟨rfl, ?_⟩
      repeat' (first | with_reducible exact Below.refl _ _ | with_reducible refine Below.drew ?_ | with_reducible refine below_drewN ?_ _ | with_reducible refine Below.alloc ?_ (by first | omega | (simp <;> omega)) _ | with_reducible refine Below.setCell ?_ (by first | omega | (dsimp only; omega) | (simp <;> omega)) _ | with_reducible refine Below.trans ?_ (Below.mono (by assumption) (by first | omega | (simp <;> omega))))
    · have e : ((⟨3, min (16 + 3) 22, min (4 * winT (min (16 + 3) 22)) 2097152, 6, false, true⟩ : Prm), (0 : Int)) = (⟨3, 19, 2097152, 6, false, true⟩, 0) := by rfl
      rw [e]
      clear e
      go_enter Tryd.func53, Tryd.ntmps53
      go_wp2_with (first | (go_at_call 80; refine (within_s _ _ _ _).mono ?_; rintro en wz ⟨rfl, rfl⟩) | go_in)
      go_light
      refine bodyPost_ret (v := .tuple #[.agg #[.int .i64 3, .int .i64 19, .int .i64 2097152, .int .i64 6, .bool false, .bool true], .int .i64 0]) (by first | (simp [results, Tryd.results53, go_sem, *]; done) | (simp [results, Tryd.results53, go_sem, *]; decide +kernel)) rfl ⟨rfl, ?_⟩
      repeat' (first | with_reducible exact Below.refl _ _ | with_reducible refine Below.drew ?_ | with_reducible refine below_drewN ?_ _ | with_reducible refine Below.alloc ?_ (by first | omega | (simp <;> omega)) _ | with_reducible refine Below.setCell ?_ (by first | omega | (dsimp only; omega) | (simp <;> omega)) _ | with_reducible refine Below.trans ?_ (Below.mono (by assumption) (by first | omega | (simp <;> omega))))
    · have e : ((⟨4, min (16 + 4) 22, min (4 * winT (min (16 + 4) 22)) 2097152, 6, false, true⟩ : Prm), (0 : Int)) = (⟨4, 20, 2097152, 6, false, true⟩, 0) := by rfl
      rw [e]
      clear e
      go_enter Tryd.func53, Tryd.ntmps53
      go_wp2_with (first | (go_at_call 80; refine (within_s _ _ _ _).mono ?_; rintro en wz ⟨rfl, rfl⟩) | go_in)
      go_light
      refine bodyPost_ret (v := .tuple #[.agg #[.int .i64 4, .int .i64 20, .int .i64 2097152, .int .i64 6, .bool false, .bool true], .int .i64 0]) (by first | (simp [results, Tryd.results53, go_sem, *]; done) | (simp [results, Tryd.results53, go_sem, *]; decide +kernel)) rfl ⟨rfl, ?_⟩
      repeat' (first | with_reducible exact Below.refl _ _ | with_reducible refine Below.drew ?_ | with_reducible refine below_drewN ?_ _ | with_reducible refine Below.alloc ?_ (by first | omega | (simp <;> omega)) _ | with_reducible refine Below.setCell ?_ (by first | omega | (dsimp only; omega) | (simp <;> omega)) _ | with_reducible refine Below.trans ?_ (Below.mono (by assumption) (by first | omega | (simp <;> omega))))
    · have e : ((⟨5, min (16 + 5) 22, min (4 * winT (min (16 + 5) 22)) 2097152, 6, false, true⟩ : Prm), (0 : Int)) = (⟨5, 21, 2097152, 6, false, true⟩, 0) := by rfl
      rw [e]
      clear e
      go_enter Tryd.func53, Tryd.ntmps53
      go_wp2_with (first | (go_at_call 80; refine (within_s _ _ _ _).mono ?_; rintro en wz ⟨rfl, rfl⟩) | go_in)
      go_light
      refine bodyPost_ret (v := .tuple #[.agg #[.int .i64 5, .int .i64 21, .int .i64 2097152, .int .i64 6, .bool false, .bool true], .int .i64 0]) (by first | (simp [results, Tryd.results53, go_sem, *]; done) | (simp [results, Tryd.results53, go_sem, *]; decide +kernel)) rfl ⟨rfl, ?_⟩
      repeat' (first | with_reducible exact Below.refl _ _ | with_reducible refine Below.drew ?_ | with_reducible refine below_drewN ?_ _ | with_reducible refine Below.alloc ?_ (by first | omega | (simp <;> omega)) _ | with_reducible refine Below.setCell ?_ (by first | omega | (dsimp only; omega) | (simp <;> omega)) _ | with_reducible refine Below.trans ?_ (Below.mono (by assumption) (by first | omega | (simp <;> omega))))
    · have e : ((⟨6, min (16 + 6) 22, min (4 * winT (min (16 + 6) 22)) 2097152, 6, false, true⟩ : Prm), (0 : Int)) = (⟨6, 22, 2097152, 6, false, true⟩, 0) := by rfl
      rw [e]
      clear e
      go_enter Tryd.func53, Tryd.ntmps53
      go_wp2_with (first | (go_at_call 80; refine (within_s _ _ _ _).mono ?_; rintro en wz ⟨rfl, rfl⟩) | go_in)
      go_light
      refine bodyPost_ret (v := .tuple #[.agg #[.int .i64 6, .int .i64 22, .int .i64 2097152, .int .i64 6, .bool false, .bool true], .int .i64 0]) (by first | (simp [results, Tryd.results53, go_sem, *]; done) | (simp [results, Tryd.results53, go_sem, *]; decide +kernel)) rfl ⟨rfl, ?_⟩
      repeat' (first | with_reducible exact Below.refl _ _ | with_reducible refine Below.drew ?_ | with_reducible refine below_drewN ?_ _ | with_reducible refine Below.alloc ?_ (by first | omega | (simp <;> omega)) _ | with_reducible refine Below.setCell ?_ (by first | omega | (dsimp only; omega) | (simp <;> omega)) _ | with_reducible refine Below.trans ?_ (Below.mono (by assumption) (by first | omega | (simp <;> omega))))
    · have e : ((⟨7, min (16 + 7) 22, min (4 * winT (min (16 + 7) 22)) 2097152, 6, false, true⟩ : Prm), (0 : Int)) = (⟨7, 22, 2097152, 6, false, true⟩, 0) := by rfl
      rw [e]
      clear e
      go_enter Tryd.func53, Tryd.ntmps53
      go_wp2_with (first | (go_at_call 80; refine (within_s _ _ _ _).mono ?_; rintro en wz ⟨rfl, rfl⟩) | go_in)
      go_light
      refine bodyPost_ret (v := .tuple #[.agg #[.int .i64 7, .int .i64 22, .int .i64 2097152, .int .i64 6, .bool false, .bool true], .int .i64 0]) (by first | (simp [results, Tryd.results53, go_sem, *]; done) | (simp [results, Tryd.results53, go_sem, *]; decide +kernel)) rfl ⟨rfl, ?_⟩
      repeat' (first | with_reducible exact Below.refl _ _ | with_reducible refine Below.drew ?_ | with_reducible refine below_drewN ?_ _ | with_reducible refine Below.alloc ?_ (by first | omega | (simp <;> omega)) _ | with_reducible refine Below.setCell ?_ (by first | omega | (dsimp only; omega) | (simp <;> omega)) _ | with_reducible refine Below.trans ?_ (Below.mono (by assumption) (by first | omega | (simp <;> omega))))
    · have e : ((⟨8, min (16 + 8) 22, min (4 * winT (min (16 + 8) 22)) 2097152, 6, false, true⟩ : Prm), (0 : Int)) = (⟨8, 22, 2097152, 6, false, true⟩, 0) := by rfl
      rw [e]
      clear e
      go_enter Tryd.func53, Tryd.ntmps53
      go_wp2_with (first | (go_at_call 80; refine (within_s _ _ _ _).mono ?_; rintro en wz ⟨rfl, rfl⟩) | go_in)
      go_light
      refine bodyPost_ret (v := .tuple #[.agg #[.int .i64 8, .int .i64 22, .int .i64 2097152, .int .i64 6, .bool false, .bool true], .int .i64 0]) (by first | (simp [results, Tryd.results53, go_sem, *]; done) | (simp [results, Tryd.results53, go_sem, *]; decide +kernel)) rfl ⟨rfl, ?_⟩
      repeat' (first | with_reducible exact Below.refl _ _ | with_reducible refine Below.drew ?_ | with_reducible refine below_drewN ?_ _ | with_reducible refine Below.alloc ?_ (by first | omega | (simp <;> omega)) _ | with_reducible refine Below.setCell ?_ (by first | omega | (dsimp only; omega) | (simp <;> omega)) _ | with_reducible refine Below.trans ?_ (Below.mono (by assumption) (by first | omega | (simp <;> omega))))
    · have e : ((⟨9, min (16 + 9) 22, min (4 * winT (min (16 + 9) 22)) 2097152, 6, false, true⟩ : Prm), (0 : Int)) = (⟨9, 22, 2097152, 6, false, true⟩, 0) := by rfl
      rw [e]
      clear e
      go_enter Tryd.func53, Tryd.ntmps53
      go_wp2_with (first | (go_at_call 80; refine (within_s _ _ _ _).mono ?_; rintro en wz ⟨rfl, rfl⟩) | go_in)
      go_light
      refine bodyPost_ret (v := .tuple #[.agg #[.int .i64 9, .int .i64 22, .int .i64 2097152, .int .i64 6, .bool false, .bool true], .int .i64 0]) (by first | (simp [results, Tryd.results53, go_sem, *]; done) | (simp [results, Tryd.results53, go_sem, *]; decide +kernel)) rfl ⟨rfl, ?_⟩
      repeat' (first | with_reducible exact Below.refl _ _ | with_reducible refine Below.drew ?_ | with_reducible refine below_drewN ?_ _ | with_reducible refine Below.alloc ?_ (by first | omega | (simp <;> omega)) _ | with_reducible refine Below.setCell ?_ (by first | omega | (dsimp only; omega) | (simp <;> omega)) _ | with_reducible refine Below.trans ?_ (Below.mono (by assumption) (by first | omega | (simp <;> omega))))
  · rw [if_neg h]
    by_cases h1 : 1 ≤ l
    · have h2 : ¬ l ≤ 9 := fun h2 => h ⟨h1, h2⟩
      have g1 : ¬ l < 1 := by omega
      have g2 : 9 < l := by omega
      have g3 : decide (1 ≤ l ∧ l ≤ 9) = false := decide_eq_false h
      have g4 : decide (9 < l) = true := by simpa using g2
      have g5 : decide (l < 1) = false := by simpa using g1
      have g6 : decide (l ≤ 9) = false := by simp; omega
      have g7 : decide (1 ≤ l) = true := by simpa using h1
      clear h
      go_enter Tryd.func53, Tryd.ntmps53
      go_wp2_with (first | (go_at_call 80; refine (within_s _ _ _ _).mono ?_; rintro en wz ⟨rfl, rfl⟩) | go_in)
      all_goals go_light
      all_goals
        refine bodyPost_ret (v := .tuple #[.agg #[.int .i64 0, .int .i64 0, .int .i64 0, .int .i64 0, .bool false, .bool false], .int .i64 2]) (by simp [results, Tryd.results53, go_sem, *]) rfl ⟨rfl, ?_⟩
        repeat' (first | with_reducible exact Below.refl _ _ | with_reducible refine Below.drew ?_ | with_reducible refine below_drewN ?_ _ | with_reducible refine Below.alloc ?_ (by first | omega | (simp <;> omega)) _ | with_reducible refine Below.setCell ?_ (by first | omega | (dsimp only; omega) | (simp <;> omega)) _ | with_reducible refine Below.trans ?_ (Below.mono (by assumption) (by first | omega | (simp <;> omega))))
    · have g1 : l < 1 := by omega
      have g3 : decide (1 ≤ l ∧ l ≤ 9) = false := decide_eq_false h
      have g5 : decide (l < 1) = true := by simpa using g1
      have g7 : decide (1 ≤ l) = false := by simp; omega
      clear h
      go_enter Tryd.func53, Tryd.ntmps53
      go_wp2_with (first | (go_at_call 80; refine (within_s _ _ _ _).mono ?_; rintro en wz ⟨rfl, rfl⟩) | go_in)
      all_goals go_light
      all_goals
        refine bodyPost_ret (v := .tuple #[.agg #[.int .i64 0, .int .i64 0, .int .i64 0, .int .i64 0, .bool false, .bool false], .int .i64 2]) (by simp [results, Tryd.results53, go_sem, *]) rfl ⟨rfl, ?_⟩
        repeat' (first | with_reducible exact Below.refl _ _ | with_reducible refine Below.drew ?_ | with_reducible refine below_drewN ?_ _ | with_reducible refine Below.alloc ?_ (by first | omega | (simp <;> omega)) _ | with_reducible refine Below.setCell ?_ (by first | omega | (dsimp only; omega) | (simp <;> omega)) _ | with_reducible refine Below.trans ?_ (Below.mono (by assumption) (by first | omega | (simp <;> omega))))

set_option maxHeartbeats 8000000 in
theorem rdefault_p (l : Int) (w : World) : Calls Tryd.prog 54 #[.int .i64 l] w (PrmPost (defR l) w) := by
  unfold PrmPost defR
  by_cases h : 1 ≤ l ∧ l ≤ 9
  · rw [if_pos h]
    obtain ⟨h1, h2⟩ := h
    rcases nine h1 h2 with rfl | rfl | rfl | rfl | rfl | rfl | rfl | rfl | rfl
    all_goals clear h1 h2
    · have e : ((⟨1, min (16 + 1) 22, min (4 * winT (min (16 + 1) 22)) 2097152, 6, false, true⟩ : Prm), (0 : Int)) = (⟨1, 17, 524288, 6, false, true⟩, 0) := by rfl
      rw [e]
      clear e
      go_enter Tryd.func54, Tryd.ntmps54
      go_wp2_with (fail)
      go_light
      refine bodyPost_ret (v := .tuple #[.agg #[.int .i64 1, .int .i64 17, .int .i64 524288, .int .i64 6, .bool false, .bool true], .int .i64 0]) (by first | (simp [results, Tryd.results54, go_sem, *]; done) | (simp [results, Tryd.results54, go_sem, *]; decide +kernel)) rfl ⟨rfl, ?_⟩
      repeat' (first | with_reducible exact Below.refl _ _ | with_reducible refine Below.drew ?_ | with_reducible refine below_drewN ?_ _ | with_reducible refine Below.alloc ?_ (by first | omega | (simp <;> omega)) _ | with_reducible refine Below.setCell ?_ (by first | omega | (dsimp only; omega) | (simp <;> omega)) _ | with_reducible refine Below.trans ?_ (Below.mono (by assumption) (by first | omega | (simp <;> omega))))
    · have e : ((⟨2, min (16 + 2) 22, min (4 * winT (min (16 + 2) 22)) 2097152, 6, false, true⟩ : Prm), (0 : Int)) = (⟨2, 18, 1048576, 6, false, true⟩, 0) := by rfl
      rw [e]
      clear e
      go_enter Tryd.func54, Tryd.ntmps54
      go_wp2_with (fail)
      go_light
      refine bodyPost_ret (v := .tuple #[.agg #[.int .i64 2, .int .i64 18, .int .i64 1048576, .int .i64 6, .bool false, .bool true], .int .i64 0]) (by first | (simp [results, Tryd.results54, go_sem, *]; done) | (simp [results, Tryd.results54, go_sem, *]; decide +kernel)) rfl ⟨rfl, ?_⟩
      repeat' (first | with_reducible exact Below.refl _ _ | with_reducible refine Below.drew ?_ | with_reducible refine below_drewN ?_ _ | with_reducible refine Below.alloc ?_ (by first | omega | (simp <;> omega)) _ | with_reducible refine Below.setCell ?_ (by first | omega | (dsimp only; omega) | (simp <;> omega)) _ | with_reducible refine Below.trans ?_ (Below.mono (by assumption) (by first | omega | (simp <;> omega))))
    · have e : ((⟨3, min (16 + 3) 22, min (4 * winT (min (16 + 3) 22)) 2097152, 6, false, true⟩ : Prm), (0 : Int)) = (⟨3, 19, 2097152, 6, false, true⟩, 0) := by rfl
      rw [e]
      clear e
      go_enter Tryd.func54, Tryd.ntmps54
      go_wp2_with (fail)
      go_light
      refine bodyPost_ret (v := .tuple #[.agg #[.int .i64 3, .int .i64 19, .int .i64 2097152, .int .i64 6, .bool false, .bool true], .int .i64 0]) (by first | (simp [results, Tryd.results54, go_sem, *]; done) | (simp [results, Tryd.results54, go_sem, *]; decide +kernel)) rfl ⟨rfl, ?_⟩
      repeat' (first | with_reducible exact Below.refl _ _ | with_reducible refine Below.drew ?_ | with_reducible refine below_drewN ?_ _ | with_reducible refine Below.alloc ?_ (by first | omega | (simp <;> omega)) _ | with_reducible refine Below.setCell ?_ (by first | omega | (dsimp only; omega) | (simp <;> omega)) _ | with_reducible refine Below.trans ?_ (Below.mono (by assumption) (by first | omega | (simp <;> omega))))
    · have e : ((⟨4, min (16 + 4) 22, min (4 * winT (min (16 + 4) 22)) 2097152, 6, false, true⟩ : Prm), (0 : Int)) = (⟨4, 20, 2097152, 6, false, true⟩, 0) := by rfl
      rw [e]
      clear e
      go_enter Tryd.func54, Tryd.ntmps54
      go_wp2_with (fail)
      go_light
      refine bodyPost_ret (v := .tuple #[.agg #[.int .i64 4, .int .i64 20, .int .i64 2097152, .int .i64 6, .bool false, .bool true], .int .i64 0]) (by first | (simp [results, Tryd.results54, go_sem, *]; done) | (simp [results, Tryd.results54, go_sem, *]; decide +kernel)) rfl ⟨rfl, ?_⟩
      repeat' (first | with_reducible exact Below.refl _ _ | with_reducible refine Below.drew ?_ | with_reducible refine below_drewN ?_ _ | with_reducible refine Below.alloc ?_ (by first | omega | (simp <;> omega)) _ | with_reducible refine Below.setCell ?_ (by first | omega | (dsimp only; omega) | (simp <;> omega)) _ | with_reducible refine Below.trans ?_ (Below.mono (by assumption) (by first | omega | (simp <;> omega))))
    · have e : ((⟨5, min (16 + 5) 22, min (4 * winT (min (16 + 5) 22)) 2097152, 6, false, true⟩ : Prm), (0 : Int)) = (⟨5, 21, 2097152, 6, false, true⟩, 0) := by rfl
      rw [e]
      clear e
      go_enter Tryd.func54, Tryd.ntmps54
      go_wp2_with (fail)
      go_light
      refine bodyPost_ret (v := .tuple #[.agg #[.int .i64 5, .int .i64 21, .int .i64 2097152, .int .i64 6, .bool false, .bool true], .int .i64 0]) (by first | (simp [results, Tryd.results54, go_sem, *]; done) | (simp [results, Tryd.results54, go_sem, *]; decide +kernel)) rfl ⟨rfl, ?_⟩
      repeat' (first | with_reducible exact Below.refl _ _ | with_reducible refine Below.drew ?_ | with_reducible refine below_drewN ?_ _ | with_reducible refine Below.alloc ?_ (by first | omega | (simp <;> omega)) _ | with_reducible refine Below.setCell ?_ (by first | omega | (dsimp only; omega) | (simp <;> omega)) _ | with_reducible refine Below.trans ?_ (Below.mono (by assumption) (by first | omega | (simp <;> omega))))
    · have e : ((⟨6, min (16 + 6) 22, min (4 * winT (min (16 + 6) 22)) 2097152, 6, false, true⟩ : Prm), (0 : Int)) = (⟨6, 22, 2097152, 6, false, true⟩, 0) := by rfl
      rw [e]
      clear e
      go_enter Tryd.func54, Tryd.ntmps54
      go_wp2_with (fail)
      go_light
      refine bodyPost_ret (v := .tuple #[.agg #[.int .i64 6, .int .i64 22, .int .i64 2097152, .int .i64 6, .bool false, .bool true], .int .i64 0]) (by first | (simp [results, Tryd.results54, go_sem, *]; done) | (simp [results, Tryd.results54, go_sem, *]; decide +kernel)) rfl ⟨rfl, ?_⟩
      repeat' (first | with_reducible exact Below.refl _ _ | with_reducible refine Below.drew ?_ | with_reducible refine below_drewN ?_ _ | with_reducible refine Below.alloc ?_ (by first | omega | (simp <;> omega)) _ | with_reducible refine Below.setCell ?_ (by first | omega | (dsimp only; omega) | (simp <;> omega)) _ | with_reducible refine Below.trans ?_ (Below.mono (by assumption) (by first | omega | (simp <;> omega))))
    · have e : ((⟨7, min (16 + 7) 22, min (4 * winT (min (16 + 7) 22)) 2097152, 6, false, true⟩ : Prm), (0 : Int)) = (⟨7, 22, 2097152, 6, false, true⟩, 0) := by rfl
      rw [e]
      clear e
      go_enter Tryd.func54, Tryd.ntmps54
      go_wp2_with (fail)
      go_light
      refine bodyPost_ret (v := .tuple #[.agg #[.int .i64 7, .int .i64 22, .int .i64 2097152, .int .i64 6, .bool false, .bool true], .int .i64 0]) (by first | (simp [results, Tryd.results54, go_sem, *]; done) | (simp [results, Tryd.results54, go_sem, *]; decide +kernel)) rfl ⟨rfl, ?_⟩
      repeat' (first | with_reducible exact Below.refl _ _ | with_reducible refine Below.drew ?_ | with_reducible refine below_drewN ?_ _ | with_reducible refine Below.alloc ?_ (by first | omega | (simp <;> omega)) _ | with_reducible refine Below.setCell ?_ (by first | omega | (dsimp only; omega) | (simp <;> omega)) _ | with_reducible refine Below.trans ?_ (Below.mono (by assumption) (by first | omega | (simp <;> omega))))
    · have e : ((⟨8, min (16 + 8) 22, min (4 * winT (min (16 + 8) 22)) 2097152, 6, false, true⟩ : Prm), (0 : Int)) = (⟨8, 22, 2097152, 6, false, true⟩, 0) := by rfl
      rw [e]
      clear e
      go_enter Tryd.func54, Tryd.ntmps54
      go_wp2_with (fail)
      go_light
      refine bodyPost_ret (v := .tuple #[.agg #[.int .i64 8, .int .i64 22, .int .i64 2097152, .int .i64 6, .bool false, .bool true], .int .i64 0]) (by first | (simp [results, Tryd.results54, go_sem, *]; done) | (simp [results, Tryd.results54, go_sem, *]; decide +kernel)) rfl ⟨rfl, ?_⟩
      repeat' (first | with_reducible exact Below.refl _ _ | with_reducible refine Below.drew ?_ | with_reducible refine below_drewN ?_ _ | with_reducible refine Below.alloc ?_ (by first | omega | (simp <;> omega)) _ | with_reducible refine Below.setCell ?_ (by first | omega | (dsimp only; omega) | (simp <;> omega)) _ | with_reducible refine Below.trans ?_ (Below.mono (by assumption) (by first | omega | (simp <;> omega))))
    · have e : ((⟨9, min (16 + 9) 22, min (4 * winT (min (16 + 9) 22)) 2097152, 6, false, true⟩ : Prm), (0 : Int)) = (⟨9, 22, 2097152, 6, false, true⟩, 0) := by rfl
      rw [e]
      clear e
      go_enter Tryd.func54, Tryd.ntmps54
      go_wp2_with (fail)
      go_light
      refine bodyPost_ret (v := .tuple #[.agg #[.int .i64 9, .int .i64 22, .int .i64 2097152, .int .i64 6, .bool false, .bool true], .int .i64 0]) (by first | (simp [results, Tryd.results54, go_sem, *]; done) | (simp [results, Tryd.results54, go_sem, *]; decide +kernel)) rfl ⟨rfl, ?_⟩
      repeat' (first | with_reducible exact Below.refl _ _ | with_reducible refine Below.drew ?_ | with_reducible refine below_drewN ?_ _ | with_reducible refine Below.alloc ?_ (by first | omega | (simp <;> omega)) _ | with_reducible refine Below.setCell ?_ (by first | omega | (dsimp only; omega) | (simp <;> omega)) _ | with_reducible refine Below.trans ?_ (Below.mono (by assumption) (by first | omega | (simp <;> omega))))
  · rw [if_neg h]
    by_cases h1 : 1 ≤ l
    · have h2 : ¬ l ≤ 9 := fun h2 => h ⟨h1, h2⟩
      have g1 : ¬ l < 1 := by omega
      have g2 : 9 < l := by omega
      have g3 : decide (1 ≤ l ∧ l ≤ 9) = false := decide_eq_false h
      have g4 : decide (9 < l) = true := by simpa using g2
      have g5 : decide (l < 1) = false := by simpa using g1
      have g6 : decide (l ≤ 9) = false := by simp; omega
      have g7 : decide (1 ≤ l) = true := by simpa using h1
      clear h
      go_enter Tryd.func54, Tryd.ntmps54
      go_wp2_with (fail)
      all_goals go_light
      all_goals
        refine bodyPost_ret (v := .tuple #[.agg #[.int .i64 0, .int .i64 0, .int .i64 0, .int .i64 0, .bool false, .bool false], .int .i64 2]) (by simp [results, Tryd.results54, go_sem, *]) rfl ⟨rfl, ?_⟩
        repeat' (first | with_reducible exact Below.refl _ _ | with_reducible refine Below.drew ?_ | with_reducible refine below_drewN ?_ _ | with_reducible refine Below.alloc ?_ (by first | omega | (simp <;> omega)) _ | with_reducible refine Below.setCell ?_ (by first | omega | (dsimp only; omega) | (simp <;> omega)) _ | with_reducible refine Below.trans ?_ (Below.mono (by assumption) (by first | omega | (simp <;> omega))))
    · have g1 : l < 1 := by omega
      have g3 : decide (1 ≤ l ∧ l ≤ 9) = false := decide_eq_false h
      have g5 : decide (l < 1) = true := by simpa using g1
      have g7 : decide (1 ≤ l) = false := by simp; omega
      clear h
      go_enter Tryd.func54, Tryd.ntmps54
      go_wp2_with (fail)
      all_goals go_light
      all_goals
        refine bodyPost_ret (v := .tuple #[.agg #[.int .i64 0, .int .i64 0, .int .i64 0, .int .i64 0, .bool false, .bool false], .int .i64 2]) (by simp [results, Tryd.results54, go_sem, *]) rfl ⟨rfl, ?_⟩
        repeat' (first | with_reducible exact Below.refl _ _ | with_reducible refine Below.drew ?_ | with_reducible refine below_drewN ?_ _ | with_reducible refine Below.alloc ?_ (by first | omega | (simp <;> omega)) _ | with_reducible refine Below.setCell ?_ (by first | omega | (dsimp only; omega) | (simp <;> omega)) _ | with_reducible refine Below.trans ?_ (Below.mono (by assumption) (by first | omega | (simp <;> omega))))
end Go.Proofs.YtmblpmaelglnpaaDoor
