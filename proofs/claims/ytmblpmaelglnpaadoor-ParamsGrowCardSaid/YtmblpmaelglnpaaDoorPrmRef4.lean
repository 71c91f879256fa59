/-
  The text of parameters, of the program and of the reference, walked.
-/
import Derived.Test.YtmblpmaelglnpaaDoorRows
import Derived.Test.YtmblpmaelglnpaaDoorPrmRef1
import Derived.Test.YtmblpmaelglnpaaDoorPrmText
import Derived.Test.YtmblpmaelglnpaaDoorPrmParse
import Derived.Test.YtmblpmaelglnpaaDoorGBase
import Derived.Deep.Light
import Derived.Shelf.Abstract
import Derived.Shelf.RegionOpen
import Derived.OwnWalkIn
import Derived.TacticsInMore
import Derived.LoopNIn
import Derived.LoopIn
import Derived.Deep.RegionHeld3
import Derived.Outline
import Derived.IntWalk
import Derived.WalkMore
namespace Go.Proofs.YtmblpmaelglnpaaDoor
open Go.RowKit
set_option linter.unusedSimpArgs false
set_option linter.unusedVariables false
open Go.Shelf
attribute [local go_sem] Oper.semAt_some

/-- A text and an error. -/
def txtR (p : Prm) : ByteArray × Int := if okP p = true then (⟨(txtL p).toArray⟩, 0) else (⟨#[]⟩, 2)
def TxtPost (R : ByteArray × Int) (w : World) (e : Ending) (w' : World) : Prop := e = .returned (.tuple #[.string R.1, .int .i64 R.2]) ∧ Below w.heap.size w w'
theorem okP_pchk (p : Prm) : pchk p.lv p.wi p.jo p.ov = if okP p = true then 0 else 2 := by
  unfold pchk
  by_cases h : okP p = true
  · rw [if_pos h, if_pos]
    unfold okP at h
    exact of_decide_eq_true h
  · rw [if_neg h, if_neg]
    intro h2
    exact h (by unfold okP; exact decide_eq_true h2)
set_option maxHeartbeats 2000000 in
theorem ptext_p (p : Prm) (w : World) (hE : PEnv w) : Calls Tryd.prog 51 #[.agg #[.int .i64 p.lv, .int .i64 p.wi, .int .i64 p.jo, .int .i64 p.ov, .bool p.sy, .bool p.ch]] w (TxtPost (txtR p) w) := by
  have hpk := okP_pchk p
  have qC := fun w => pcheck_p p.lv p.wi p.jo p.ov p.sy p.ch w
  rw [hpk] at qC
  unfold TxtPost txtR
  by_cases h : okP p = true
  · rw [if_pos h] at qC ⊢
    have qT := fun w hE => text_p p (okP_inR h) w hE
    clear hpk h
    obtain ⟨a, b, c, d, sy, ch⟩ := p
    dsimp only at qC qT ⊢
    generalize (⟨(txtL ⟨a, b, c, d, sy, ch⟩).toArray⟩ : ByteArray) = TX at qT ⊢
    go_enter Tryd.func51, Tryd.ntmps51
    go_wp2_with (first | (go_at_call 55; refine (qC _).mono ?_; rintro en wC ⟨rfl, hbC⟩; have hsC := hbC.size; have p0 : wC.cell? ⟨w.heap.size, 0, none⟩ = some (.int .i64 a) := (hbC.cell (p := ⟨w.heap.size, 0, none⟩) (by simp)).trans (by simp [go_sem]); have p1 : wC.cell? ⟨w.heap.size, 1, none⟩ = some (.int .i64 b) := (hbC.cell (p := ⟨w.heap.size, 1, none⟩) (by simp)).trans (by simp [go_sem]); have p2 : wC.cell? ⟨w.heap.size, 2, none⟩ = some (.int .i64 c) := (hbC.cell (p := ⟨w.heap.size, 2, none⟩) (by simp)).trans (by simp [go_sem]); have p3 : wC.cell? ⟨w.heap.size, 3, none⟩ = some (.int .i64 d) := (hbC.cell (p := ⟨w.heap.size, 3, none⟩) (by simp)).trans (by simp [go_sem]); have p4 : wC.cell? ⟨w.heap.size, 4, none⟩ = some (.bool sy) := (hbC.cell (p := ⟨w.heap.size, 4, none⟩) (by simp)).trans (by simp [go_sem]); have p5 : wC.cell? ⟨w.heap.size, 5, none⟩ = some (.bool ch) := (hbC.cell (p := ⟨w.heap.size, 5, none⟩) (by simp)).trans (by simp [go_sem])) | (go_at_call 81; refine (qT _ (hE.later (((Below.refl _ w).alloc (Nat.le_refl _) _).trans (hbC.mono (by simp))))).mono ?_; rintro en wT ⟨rfl, hbT⟩; have hsT := hbT.size))
    go_ret2
    exact ⟨rfl, (((Below.refl _ w).alloc (Nat.le_refl _) _).trans (hbC.mono (by simp))).trans (hbT.mono (by simp at hsC; omega))⟩
  · rw [if_neg h] at qC ⊢
    clear hpk h
    obtain ⟨a, b, c, d, sy, ch⟩ := p
    dsimp only at qC ⊢
    go_enter Tryd.func51, Tryd.ntmps51
    go_wp2_with (go_at_call 55; refine (qC _).mono ?_; rintro en wC ⟨rfl, hbC⟩; have hsC := hbC.size)
    go_ret2
    exact ⟨rfl, ((Below.refl _ w).alloc (Nat.le_refl _) _).trans (hbC.mono (by simp))⟩
theorem flat_bytes (a b c d : Nat) (sy ch : Bool) : (⟨(txtL ⟨(a : Int), (b : Int), (c : Int), (d : Int), sy, ch⟩).toArray⟩ : ByteArray) =
    let t := (((((((⟨#[108, 101, 118, 101, 108, 32]⟩ : ByteArray) ++ ⟨(Lib.decDigits a).toArray⟩) ++ ⟨#[32, 119, 105, 110, 100, 111, 119, 32]⟩) ++ ⟨(Lib.decDigits b).toArray⟩) ++ ⟨#[32, 106, 111, 98, 32]⟩) ++ ⟨(Lib.decDigits c).toArray⟩) ++ ⟨#[32, 111, 118, 101, 114, 108, 97, 112, 32]⟩) ++ ⟨(Lib.decDigits d).toArray⟩
    let u := if sy then t ++ ⟨#[32, 115, 121, 110, 99]⟩ else t
    if ch then u ++ ⟨#[32, 99, 104, 101, 99, 107]⟩ else u := by
  rw [txtL_flat]
  unfold flatL
  dsimp only
  simp only [itoa_nat]
  cases sy <;> cases ch <;> (apply ByteArray.ext; simp [ByteArray.data_append, pLv, pWi, pJo, pOv, pSy, pCh])
set_option maxRecDepth 100000 in
set_option maxHeartbeats 8000000 in
theorem rtext_p (p : Prm) (w : World) : Calls Tryd.prog 52 #[.agg #[.int .i64 p.lv, .int .i64 p.wi, .int .i64 p.jo, .int .i64 p.ov, .bool p.sy, .bool p.ch]] w (TxtPost (txtR p) w) := by
  have hpk := okP_pchk p
  have qC := fun w => rpcheck_p p.lv p.wi p.jo p.ov p.sy p.ch w
  rw [hpk] at qC
  unfold TxtPost txtR
  by_cases h : okP p = true
  · rw [if_pos h] at qC ⊢
    have hin := okP_inR h
    clear hpk h
    obtain ⟨a, b, c, d, sy, ch⟩ := p
    unfold inR at hin
    dsimp only at qC hin ⊢
    obtain ⟨⟨h1, h1'⟩, ⟨h2, h2'⟩, ⟨h3, h3'⟩, ⟨h4, h4'⟩⟩ := hin
    obtain ⟨a, rfl⟩ := Int.eq_ofNat_of_zero_le h1
    obtain ⟨b, rfl⟩ := Int.eq_ofNat_of_zero_le h2
    obtain ⟨c, rfl⟩ := Int.eq_ofNat_of_zero_le h3
    obtain ⟨d, rfl⟩ := Int.eq_ofNat_of_zero_le h4
    have qa := fun w => decimal_p a (by omega) w
    have qb := fun w => decimal_p b (by omega) w
    have qc := fun w => decimal_p c (by omega) w
    have qd := fun w => decimal_p d (by omega) w
    rw [show ((↑a : Int)) = (a : Int) from rfl, show ((↑b : Int)) = (b : Int) from rfl, show ((↑c : Int)) = (c : Int) from rfl, show ((↑d : Int)) = (d : Int) from rfl, flat_bytes]
    have la : (⟨(Lib.decDigits a).toArray⟩ : ByteArray).size ≤ 7 := by show (Lib.decDigits a).toArray.size ≤ 7; simp; rw [Lib.decDigits_length]; exact nDig_le7 (by omega)
    have lb : (⟨(Lib.decDigits b).toArray⟩ : ByteArray).size ≤ 7 := by show (Lib.decDigits b).toArray.size ≤ 7; simp; rw [Lib.decDigits_length]; exact nDig_le7 (by omega)
    have lc : (⟨(Lib.decDigits c).toArray⟩ : ByteArray).size ≤ 7 := by show (Lib.decDigits c).toArray.size ≤ 7; simp; rw [Lib.decDigits_length]; exact nDig_le7 (by omega)
    have ld : (⟨(Lib.decDigits d).toArray⟩ : ByteArray).size ≤ 7 := by show (Lib.decDigits d).toArray.size ≤ 7; simp; rw [Lib.decDigits_length]; exact nDig_le7 (by omega)
    generalize (⟨(Lib.decDigits a).toArray⟩ : ByteArray) = A at qa la ⊢
    generalize (⟨(Lib.decDigits b).toArray⟩ : ByteArray) = B at qb lb ⊢
    generalize (⟨(Lib.decDigits c).toArray⟩ : ByteArray) = C at qc lc ⊢
    generalize (⟨(Lib.decDigits d).toArray⟩ : ByteArray) = D at qd ld ⊢
    obtain ⟨t1, e1⟩ : ∃ t, (⟨#[108, 101, 118, 101, 108, 32]⟩ : ByteArray) ++ A = t := ⟨_, rfl⟩
    obtain ⟨t2, e2⟩ : ∃ t, t1 ++ (⟨#[32, 119, 105, 110, 100, 111, 119, 32]⟩ : ByteArray) = t := ⟨_, rfl⟩
    obtain ⟨t3, e3⟩ : ∃ t, t2 ++ B = t := ⟨_, rfl⟩
    obtain ⟨t4, e4⟩ : ∃ t, t3 ++ (⟨#[32, 106, 111, 98, 32]⟩ : ByteArray) = t := ⟨_, rfl⟩
    obtain ⟨t5, e5⟩ : ∃ t, t4 ++ C = t := ⟨_, rfl⟩
    obtain ⟨t6, e6⟩ : ∃ t, t5 ++ (⟨#[32, 111, 118, 101, 114, 108, 97, 112, 32]⟩ : ByteArray) = t := ⟨_, rfl⟩
    obtain ⟨t7, e7⟩ : ∃ t, t6 ++ D = t := ⟨_, rfl⟩
    dsimp only
    rw [e1, e2, e3, e4, e5, e6, e7]
    have s1 : t1.size ≤ 13 := by rw [← e1, ByteArray.size_append]; show 6 + A.size ≤ 13; omega
    have s2 : t2.size ≤ 21 := by rw [← e2, ByteArray.size_append]; show t1.size + 8 ≤ 21; omega
    have s3 : t3.size ≤ 28 := by rw [← e3, ByteArray.size_append]; omega
    have s4 : t4.size ≤ 33 := by rw [← e4, ByteArray.size_append]; show t3.size + 5 ≤ 33; omega
    have s5 : t5.size ≤ 40 := by rw [← e5, ByteArray.size_append]; omega
    have s6 : t6.size ≤ 49 := by rw [← e6, ByteArray.size_append]; show t5.size + 9 ≤ 49; omega
    have s7 : t7.size ≤ 56 := by rw [← e7, ByteArray.size_append]; omega
    have c1 : ∀ X, (Op.stringOp .add ⟨#[108, 101, 118, 101, 108, 32]⟩ A).run Tryd.prog X = .ok (.string t1) X := fun X => by rw [← e1]; exact run_string_add_sum X _ _ (by show 6 + A.size ≤ _; omega)
    have c2 : ∀ X, (Op.stringOp .add t1 ⟨#[32, 119, 105, 110, 100, 111, 119, 32]⟩).run Tryd.prog X = .ok (.string t2) X := fun X => by rw [← e2]; exact run_string_add_sum X _ _ (by show t1.size + 8 ≤ _; omega)
    have c3 : ∀ X, (Op.stringOp .add t2 B).run Tryd.prog X = .ok (.string t3) X := fun X => by rw [← e3]; exact run_string_add_sum X _ _ (by omega)
    have c4 : ∀ X, (Op.stringOp .add t3 ⟨#[32, 106, 111, 98, 32]⟩).run Tryd.prog X = .ok (.string t4) X := fun X => by rw [← e4]; exact run_string_add_sum X _ _ (by show t3.size + 5 ≤ _; omega)
    have c5 : ∀ X, (Op.stringOp .add t4 C).run Tryd.prog X = .ok (.string t5) X := fun X => by rw [← e5]; exact run_string_add_sum X _ _ (by omega)
    have c6 : ∀ X, (Op.stringOp .add t5 ⟨#[32, 111, 118, 101, 114, 108, 97, 112, 32]⟩).run Tryd.prog X = .ok (.string t6) X := fun X => by rw [← e6]; exact run_string_add_sum X _ _ (by show t5.size + 9 ≤ _; omega)
    have c7 : ∀ X, (Op.stringOp .add t6 D).run Tryd.prog X = .ok (.string t7) X := fun X => by rw [← e7]; exact run_string_add_sum X _ _ (by omega)
    have c8 : ∀ X, (Op.stringOp .add t7 ⟨#[32, 115, 121, 110, 99]⟩).run Tryd.prog X = .ok (.string (t7 ++ ⟨#[32, 115, 121, 110, 99]⟩)) X := fun X => run_string_add_sum X _ _ (by show t7.size + 5 ≤ _; omega)
    have c9 : ∀ X, (Op.stringOp .add t7 ⟨#[32, 99, 104, 101, 99, 107]⟩).run Tryd.prog X = .ok (.string (t7 ++ ⟨#[32, 99, 104, 101, 99, 107]⟩)) X := fun X => run_string_add_sum X _ _ (by show t7.size + 6 ≤ _; omega)
    have c10 : ∀ X, (Op.stringOp .add (t7 ++ ⟨#[32, 115, 121, 110, 99]⟩) ⟨#[32, 99, 104, 101, 99, 107]⟩).run Tryd.prog X = .ok (.string ((t7 ++ ⟨#[32, 115, 121, 110, 99]⟩) ++ ⟨#[32, 99, 104, 101, 99, 107]⟩)) X := fun X => run_string_add_sum X _ _ (by rw [ByteArray.size_append]; show t7.size + 5 + 6 ≤ _; omega)
    clear e1 e2 e3 e4 e5 e6 e7 s1 s2 s3 s4 s5 s6 s7 la lb lc ld h1 h2 h3 h4 h1' h2' h3' h4'
    go_enter Tryd.func52, Tryd.ntmps52
    go_upto_region 4 with (go_at_call 56; refine (qC _).mono ?_; rintro en wC ⟨rfl, hbC⟩; have hsC := hbC.size; (simp at hsC); have p0 : wC.cell? ⟨w.heap.size, 0, none⟩ = some (.int .i64 (a : Int)) := (hbC.cell (p := ⟨w.heap.size, 0, none⟩) (by simp)).trans (by simp [go_sem]); have p1 : wC.cell? ⟨w.heap.size, 1, none⟩ = some (.int .i64 (b : Int)) := (hbC.cell (p := ⟨w.heap.size, 1, none⟩) (by simp)).trans (by simp [go_sem]); have p2 : wC.cell? ⟨w.heap.size, 2, none⟩ = some (.int .i64 (c : Int)) := (hbC.cell (p := ⟨w.heap.size, 2, none⟩) (by simp)).trans (by simp [go_sem]); have p3 : wC.cell? ⟨w.heap.size, 3, none⟩ = some (.int .i64 (d : Int)) := (hbC.cell (p := ⟨w.heap.size, 3, none⟩) (by simp)).trans (by simp [go_sem]); have p4 : wC.cell? ⟨w.heap.size, 4, none⟩ = some (.bool sy) := (hbC.cell (p := ⟨w.heap.size, 4, none⟩) (by simp)).trans (by simp [go_sem]); have p5 : wC.cell? ⟨w.heap.size, 5, none⟩ = some (.bool ch) := (hbC.cell (p := ⟨w.heap.size, 5, none⟩) (by simp)).trans (by simp [go_sem]))
    obtain ⟨N, hN⟩ : ∃ N, w.heap.size = N := ⟨_, rfl⟩
    have hbw : Below w.heap.size w wC := ((Below.refl _ w).alloc (Nat.le_refl _) _).trans (hbC.mono (by simp))
    rw [hN] at p0 p1 p2 p3 p4 p5
    (try simp only [hN])
    have hlN : N < wC.heap.size := by omega
    have hwC : w.heap.size ≤ wC.heap.size := by omega
    have HN := Lib.hid hN
    clear hN hbC hsC qC
    go_region_held3 (fun w' => w'.cell? ⟨N, 0, none⟩ = some (.int .i64 (a : Int)) ∧ w'.cell? ⟨N, 1, none⟩ = some (.int .i64 (b : Int)) ∧ w'.cell? ⟨N, 2, none⟩ = some (.int .i64 (c : Int)) ∧ w'.cell? ⟨N, 3, none⟩ = some (.int .i64 (d : Int))) (exact ⟨((show Below wC.heap.size wC _ by repeat' (first | with_reducible exact Below.refl _ _ | with_reducible refine Below.drew ?_ | with_reducible refine below_drewN ?_ _ | with_reducible refine Below.alloc ?_ (by first | omega | (simp <;> omega)) _ | with_reducible refine Below.setCell ?_ (by first | omega | (dsimp only; omega) | (simp <;> omega)) _ | with_reducible refine Below.trans ?_ (Below.mono (by assumption) (by first | omega | (simp <;> omega))))).cell (p := ⟨N, 0, none⟩) hlN).trans p0, ((show Below wC.heap.size wC _ by repeat' (first | with_reducible exact Below.refl _ _ | with_reducible refine Below.drew ?_ | with_reducible refine below_drewN ?_ _ | with_reducible refine Below.alloc ?_ (by first | omega | (simp <;> omega)) _ | with_reducible refine Below.setCell ?_ (by first | omega | (dsimp only; omega) | (simp <;> omega)) _ | with_reducible refine Below.trans ?_ (Below.mono (by assumption) (by first | omega | (simp <;> omega))))).cell (p := ⟨N, 1, none⟩) hlN).trans p1, ((show Below wC.heap.size wC _ by repeat' (first | with_reducible exact Below.refl _ _ | with_reducible refine Below.drew ?_ | with_reducible refine below_drewN ?_ _ | with_reducible refine Below.alloc ?_ (by first | omega | (simp <;> omega)) _ | with_reducible refine Below.setCell ?_ (by first | omega | (dsimp only; omega) | (simp <;> omega)) _ | with_reducible refine Below.trans ?_ (Below.mono (by assumption) (by first | omega | (simp <;> omega))))).cell (p := ⟨N, 2, none⟩) hlN).trans p2, ((show Below wC.heap.size wC _ by repeat' (first | with_reducible exact Below.refl _ _ | with_reducible refine Below.drew ?_ | with_reducible refine below_drewN ?_ _ | with_reducible refine Below.alloc ?_ (by first | omega | (simp <;> omega)) _ | with_reducible refine Below.setCell ?_ (by first | omega | (dsimp only; omega) | (simp <;> omega)) _ | with_reducible refine Below.trans ?_ (Below.mono (by assumption) (by first | omega | (simp <;> omega))))).cell (p := ⟨N, 3, none⟩) hlN).trans p3⟩) ((go_at_call 91; first | ((with_reducible refine (qa _).mono ?_); rintro en wia ⟨rfl, hbia⟩; have hsia := hbia.size; (try simp at hsia)) | ((with_reducible refine (qb _).mono ?_); rintro en wib ⟨rfl, hbib⟩; have hsib := hbib.size; (try simp at hsib)) | ((with_reducible refine (qc _).mono ?_); rintro en wic ⟨rfl, hbic⟩; have hsic := hbic.size; (try simp at hsic)) | ((with_reducible refine (qd _).mono ?_); rintro en wid ⟨rfl, hbid⟩; have hsid := hbid.size; (try simp at hsid))))
    have hbz : Below wC.heap.size wC wid := by repeat' (first | with_reducible exact Below.refl _ _ | with_reducible refine Below.drew ?_ | with_reducible refine below_drewN ?_ _ | with_reducible refine Below.alloc ?_ (by first | omega | (simp <;> omega)) _ | with_reducible refine Below.setCell ?_ (by first | omega | (dsimp only; omega) | (simp <;> omega)) _ | with_reducible refine Below.trans ?_ (Below.mono (by assumption) (by first | omega | (simp <;> omega))))
    have r4 := (hbz.cell (p := ⟨N, 4, none⟩) hlN).trans p4
    have r5 := (hbz.cell (p := ⟨N, 5, none⟩) hlN).trans p5
    have HZ := Lib.hid (hbw.trans (hbz.mono hwC))
    clear hbz p0 p1 p2 p3 p4 p5 qa qb qc qd hbia hbib hbic hbid hbw c1 c2 c3 c4 c5 c6 c7
    cases sy <;> cases ch
    all_goals
      go_wp2
      go_ret2
      exact ⟨rfl, HZ.out⟩
  · rw [if_neg h] at qC ⊢
    clear hpk h
    obtain ⟨a, b, c, d, sy, ch⟩ := p
    dsimp only at qC ⊢
    go_enter Tryd.func52, Tryd.ntmps52
    go_wp2_with (go_at_call 56; refine (qC _).mono ?_; rintro en wC ⟨rfl, hbC⟩; have hsC := hbC.size)
    go_ret2
    exact ⟨rfl, ((Below.refl _ w).alloc (Nat.le_refl _) _).trans (hbC.mono (by simp))⟩
end Go.Proofs.YtmblpmaelglnpaaDoor
