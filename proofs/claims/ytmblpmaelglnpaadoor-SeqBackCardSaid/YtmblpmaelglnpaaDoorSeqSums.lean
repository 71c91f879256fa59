/-
  Sums of sequences, walked.
-/
import Derived.Test.YtmblpmaelglnpaaDoorRows
import Derived.Test.YtmblpmaelglnpaaDoorSeqCheck
import Derived.Test.YtmblpmaelglnpaaDoorFlat
import Derived.Test.YtmblpmaelglnpaaDoorGBase
import Derived.Deep.Light
import Derived.Shelf.Abstract
import Derived.Shelf.RegionOpen
import Derived.OwnWalkIn
import Derived.TacticsInMore
import Derived.LoopNIn
import Derived.LoopIn
import Derived.Outline
import Derived.IntWalk
import Derived.WalkMore
namespace Go.Proofs.YtmblpmaelglnpaaDoor
open Go.RowKit
set_option linter.unusedSimpArgs false
set_option linter.unusedVariables false
open Go.Shelf
attribute [local go_sem] Oper.semAt_some

def lS (qs : List (Int × Int × Int)) : Nat → Int
  | 0 => 0
  | k + 1 => lS qs k + (qs.getD k (0, 0, 0)).1
def mS (qs : List (Int × Int × Int)) : Nat → Int
  | 0 => 0
  | k + 1 => mS qs k + (qs.getD k (0, 0, 0)).2.1
theorem lmS_bd {qs : List (Int × Int × Int)} (h : schk qs = 0) : ∀ k, k ≤ qs.length → 0 ≤ lS qs k ∧ lS qs k ≤ 131072 * (k : Int) ∧ 0 ≤ mS qs k ∧ mS qs k ≤ 131074 * (k : Int) := by
  intro k
  induction k with
  | zero => intro _; simp [lS, mS]
  | succ k ih =>
    intro hk
    have := ih (by omega)
    obtain ⟨q1, q2, q3, q4, q5, q6⟩ := (schk_get h).2 k (by omega) (qs.getD k (0, 0, 0)).1 (qs.getD k (0, 0, 0)).2.1 (qs.getD k (0, 0, 0)).2.2 rfl
    simp only [lS, mS]
    omega
/-- How many literals, and how many bytes, or which error. -/
def Rlits (qs : List (Int × Int × Int)) : Int × Int := if schk qs ≠ 0 then (0, schk qs) else (lS qs qs.length, 0)
def Rlen (qs : List (Int × Int × Int)) : Int × Int := if schk qs ≠ 0 then (0, schk qs) else (lS qs qs.length + mS qs qs.length, 0)
set_option maxRecDepth 100000 in
set_option maxHeartbeats 4000000 in
theorem sums_p (a : Option Addr) (qs : List (Int × Int × Int)) (cap : Nat) (w : World) (ha : RowQ w a qs) (hl : qs.length ≤ 9223372036854775807) (h : schk qs = 0) :
    Calls Tryd.prog 70 #[.slice a qs.length cap] w fun e w' => e = .returned (.tuple #[.int .i64 (lS qs qs.length), .int .i64 (mS qs qs.length)]) ∧ Below w.heap.size w w' := by
  have hbd := lmS_bd h
  have hok := (schk_get h).2
  have hn := (schk_get h).1
  clear h
  go_enter Tryd.func70, Tryd.ntmps70
  go_wp2
  go_loopw [2, 3, 8] (fun v2 v3 v8 wr => ∃ (k : Nat) (l m : Int), k ≤ qs.length ∧ v8 = .int .i64 (k : Int) ∧ v2 = .int .i64 l ∧ v3 = .int .i64 m ∧ Hid (l = lS qs k) ∧ Hid (m = mS qs k) ∧ Below w.heap.size w wr) (fun _ _ v _ => qs.length - (intOf v).toNat)
  case atStart => exact ⟨0, 0, 0, by omega, rfl, rfl, rfl, Lib.hid rfl, Lib.hid rfl, Below.refl _ _⟩
  case round =>
    obtain ⟨k, l, m, hk, rfl, rfl, rfl, HL, HM, hb⟩ := hrel
    have hbs := hb.size
    obtain ⟨b1, b2, b3, b4⟩ := hbd k hk
    rw [← HL.out] at b1 b2
    rw [← HM.out] at b3 b4
    by_cases hlt : k < qs.length
    · obtain ⟨g1, o1, rfl, hb5, hc1⟩ := (ha.later hb).at hlt
      obtain ⟨c1, c2, c3⟩ := hc1 k hlt
      obtain ⟨⟨lq, ma, of⟩, hqq⟩ : ∃ q, qs.getD k (0, 0, 0) = q := ⟨_, rfl⟩
      obtain ⟨q1, q2, q3, q4, q5, q6⟩ := hok k hlt lq ma of hqq
      have hl1 : lS qs (k + 1) = l + lq := by rw [lS, hqq, ← HL.out]
      have hm1 : mS qs (k + 1) = m + ma := by rw [mS, hqq, ← HM.out]
      have HL1 := Lib.hid hl1
      have HM1 := Lib.hid hm1
      rw [hqq] at c1 c2 c3
      dsimp only at c1 c2 c3
      have i0 : (0 : Int) ≤ (k : Int) := by omega
      have i1 : (k : Int) < (qs.length : Int) := by omega
      clear hc1 hqq hl1 hm1
      go_wp2
      go_roundw
      case rel => exact ⟨k + 1, l + lq, m + ma, by omega, by go_num, by go_num, by go_num, Lib.hid HL1.out.symm, Lib.hid HM1.out.symm, hb.alloc (by omega) _⟩
      case measure => go_light; simp [intOf] <;> omega
    · obtain rfl : k = qs.length := by omega
      have jj : ¬ (qs.length : Int) < (qs.length : Int) := by omega
      go_wp2
      refine bodyPost_ret (v := .tuple #[.int .i64 l, .int .i64 m]) (by simp [results, Tryd.results70, go_sem, *]) rfl ⟨by rw [HL.out, HM.out], hb⟩

set_option maxRecDepth 100000 in
set_option maxHeartbeats 4000000 in
theorem lits_p (a : Option Addr) (qs : List (Int × Int × Int)) (cap : Nat) (w : World) (ha : RowQ w a qs) (hl : qs.length ≤ 9223372036854775807) :
    Calls Tryd.prog 24 #[.slice a qs.length cap] w fun e w' => e = .returned (.tuple #[.int .i64 (Rlits qs).1, .int .i64 (Rlits qs).2]) ∧ Below w.heap.size w w' := by
  have qC := fun w h => scheck_p a qs cap w h hl
  unfold Rlits
  by_cases h : schk qs = 0
  · have qS := fun w h2 => sums_p a qs cap w h2 hl h
    obtain ⟨b1, b2, b3, b4⟩ := lmS_bd h qs.length (Nat.le_refl _)
    have hn := (schk_get h).1
    rw [if_neg (by simpa using h)]
    rw [h] at qC
    clear h
    generalize lS qs qs.length = l at *
    generalize mS qs qs.length = m at *
    go_enter Tryd.func24, Tryd.ntmps24
    go_wp2_with (first | (go_at_call 27; refine (qC _ (ha.later (by repeat' (first | with_reducible exact Below.refl _ _ | with_reducible refine Below.drew ?_ | with_reducible refine below_drewN ?_ _ | with_reducible refine Below.alloc ?_ (by first | omega | (simp <;> omega)) _ | with_reducible refine Below.setCell ?_ (by first | omega | (dsimp only; omega) | (simp <;> omega)) _ | with_reducible refine Below.trans ?_ (Below.mono (by assumption) (by first | omega | (simp <;> omega))))))).mono ?_; rintro en w1 ⟨rfl, hb1⟩; have hs1 := hb1.size) | (go_at_call 70; refine (qS _ (ha.later (by repeat' (first | with_reducible exact Below.refl _ _ | with_reducible refine Below.drew ?_ | with_reducible refine below_drewN ?_ _ | with_reducible refine Below.alloc ?_ (by first | omega | (simp <;> omega)) _ | with_reducible refine Below.setCell ?_ (by first | omega | (dsimp only; omega) | (simp <;> omega)) _ | with_reducible refine Below.trans ?_ (Below.mono (by assumption) (by first | omega | (simp <;> omega))))))).mono ?_; rintro en w2 ⟨rfl, hb2⟩; have hs2 := hb2.size))
    repeat' (first | (go_region <;> go_wp2_with (first | (go_at_call 27; refine (qC _ (ha.later (by repeat' (first | with_reducible exact Below.refl _ _ | with_reducible refine Below.drew ?_ | with_reducible refine below_drewN ?_ _ | with_reducible refine Below.alloc ?_ (by first | omega | (simp <;> omega)) _ | with_reducible refine Below.setCell ?_ (by first | omega | (dsimp only; omega) | (simp <;> omega)) _ | with_reducible refine Below.trans ?_ (Below.mono (by assumption) (by first | omega | (simp <;> omega))))))).mono ?_; rintro en w1 ⟨rfl, hb1⟩; have hs1 := hb1.size) | (go_at_call 70; refine (qS _ (ha.later (by repeat' (first | with_reducible exact Below.refl _ _ | with_reducible refine Below.drew ?_ | with_reducible refine below_drewN ?_ _ | with_reducible refine Below.alloc ?_ (by first | omega | (simp <;> omega)) _ | with_reducible refine Below.setCell ?_ (by first | omega | (dsimp only; omega) | (simp <;> omega)) _ | with_reducible refine Below.trans ?_ (Below.mono (by assumption) (by first | omega | (simp <;> omega))))))).mono ?_; rintro en w2 ⟨rfl, hb2⟩; have hs2 := hb2.size))))
    all_goals go_light
    all_goals (try simp only [beq_iff_eq, beq_eq_false_iff_ne, bne_iff_ne, bne_eq_false_iff_eq, ne_eq] at *)
    all_goals
      refine bodyPost_ret (v := .tuple #[.int .i64 (l), .int .i64 0]) (by simp [results, Tryd.results24, go_sem, *]) rfl ⟨rfl, ?_⟩
      repeat' (first | with_reducible exact Below.refl _ _ | with_reducible refine Below.drew ?_ | with_reducible refine below_drewN ?_ _ | with_reducible refine Below.alloc ?_ (by first | omega | (simp <;> omega)) _ | with_reducible refine Below.setCell ?_ (by first | omega | (dsimp only; omega) | (simp <;> omega)) _ | with_reducible refine Below.trans ?_ (Below.mono (by assumption) (by first | omega | (simp <;> omega))))
  · rw [if_pos h]
    generalize schk qs = E at qC h
    have e1 : (E != 0) = true := by simpa using h
    go_enter Tryd.func24, Tryd.ntmps24
    go_wp2_with ((go_at_call 27; refine (qC _ (ha.later (by repeat' (first | with_reducible exact Below.refl _ _ | with_reducible refine Below.drew ?_ | with_reducible refine below_drewN ?_ _ | with_reducible refine Below.alloc ?_ (by first | omega | (simp <;> omega)) _ | with_reducible refine Below.setCell ?_ (by first | omega | (dsimp only; omega) | (simp <;> omega)) _ | with_reducible refine Below.trans ?_ (Below.mono (by assumption) (by first | omega | (simp <;> omega))))))).mono ?_; rintro en w1 ⟨rfl, hb1⟩; have hs1 := hb1.size))
    repeat' (first | (go_region <;> go_wp2_with ((go_at_call 27; refine (qC _ (ha.later (by repeat' (first | with_reducible exact Below.refl _ _ | with_reducible refine Below.drew ?_ | with_reducible refine below_drewN ?_ _ | with_reducible refine Below.alloc ?_ (by first | omega | (simp <;> omega)) _ | with_reducible refine Below.setCell ?_ (by first | omega | (dsimp only; omega) | (simp <;> omega)) _ | with_reducible refine Below.trans ?_ (Below.mono (by assumption) (by first | omega | (simp <;> omega))))))).mono ?_; rintro en w1 ⟨rfl, hb1⟩; have hs1 := hb1.size))))
    all_goals go_light
    all_goals (try simp only [beq_iff_eq, beq_eq_false_iff_ne, bne_iff_ne, bne_eq_false_iff_eq, ne_eq] at *)
    all_goals
      refine bodyPost_ret (v := .tuple #[.int .i64 0, .int .i64 E]) (by simp [results, Tryd.results24, go_sem, *]) rfl ⟨rfl, ?_⟩
      repeat' (first | with_reducible exact Below.refl _ _ | with_reducible refine Below.drew ?_ | with_reducible refine below_drewN ?_ _ | with_reducible refine Below.alloc ?_ (by first | omega | (simp <;> omega)) _ | with_reducible refine Below.setCell ?_ (by first | omega | (dsimp only; omega) | (simp <;> omega)) _ | with_reducible refine Below.trans ?_ (Below.mono (by assumption) (by first | omega | (simp <;> omega))))

set_option maxRecDepth 100000 in
set_option maxHeartbeats 4000000 in
theorem length_p (a : Option Addr) (qs : List (Int × Int × Int)) (cap : Nat) (w : World) (ha : RowQ w a qs) (hl : qs.length ≤ 9223372036854775807) :
    Calls Tryd.prog 23 #[.slice a qs.length cap] w fun e w' => e = .returned (.tuple #[.int .i64 (Rlen qs).1, .int .i64 (Rlen qs).2]) ∧ Below w.heap.size w w' := by
  have qC := fun w h => scheck_p a qs cap w h hl
  unfold Rlen
  by_cases h : schk qs = 0
  · have qS := fun w h2 => sums_p a qs cap w h2 hl h
    obtain ⟨b1, b2, b3, b4⟩ := lmS_bd h qs.length (Nat.le_refl _)
    have hn := (schk_get h).1
    rw [if_neg (by simpa using h)]
    rw [h] at qC
    clear h
    generalize lS qs qs.length = l at *
    generalize mS qs qs.length = m at *
    go_enter Tryd.func23, Tryd.ntmps23
    go_wp2_with (first | (go_at_call 27; refine (qC _ (ha.later (by repeat' (first | with_reducible exact Below.refl _ _ | with_reducible refine Below.drew ?_ | with_reducible refine below_drewN ?_ _ | with_reducible refine Below.alloc ?_ (by first | omega | (simp <;> omega)) _ | with_reducible refine Below.setCell ?_ (by first | omega | (dsimp only; omega) | (simp <;> omega)) _ | with_reducible refine Below.trans ?_ (Below.mono (by assumption) (by first | omega | (simp <;> omega))))))).mono ?_; rintro en w1 ⟨rfl, hb1⟩; have hs1 := hb1.size) | (go_at_call 70; refine (qS _ (ha.later (by repeat' (first | with_reducible exact Below.refl _ _ | with_reducible refine Below.drew ?_ | with_reducible refine below_drewN ?_ _ | with_reducible refine Below.alloc ?_ (by first | omega | (simp <;> omega)) _ | with_reducible refine Below.setCell ?_ (by first | omega | (dsimp only; omega) | (simp <;> omega)) _ | with_reducible refine Below.trans ?_ (Below.mono (by assumption) (by first | omega | (simp <;> omega))))))).mono ?_; rintro en w2 ⟨rfl, hb2⟩; have hs2 := hb2.size))
    repeat' (first | (go_region <;> go_wp2_with (first | (go_at_call 27; refine (qC _ (ha.later (by repeat' (first | with_reducible exact Below.refl _ _ | with_reducible refine Below.drew ?_ | with_reducible refine below_drewN ?_ _ | with_reducible refine Below.alloc ?_ (by first | omega | (simp <;> omega)) _ | with_reducible refine Below.setCell ?_ (by first | omega | (dsimp only; omega) | (simp <;> omega)) _ | with_reducible refine Below.trans ?_ (Below.mono (by assumption) (by first | omega | (simp <;> omega))))))).mono ?_; rintro en w1 ⟨rfl, hb1⟩; have hs1 := hb1.size) | (go_at_call 70; refine (qS _ (ha.later (by repeat' (first | with_reducible exact Below.refl _ _ | with_reducible refine Below.drew ?_ | with_reducible refine below_drewN ?_ _ | with_reducible refine Below.alloc ?_ (by first | omega | (simp <;> omega)) _ | with_reducible refine Below.setCell ?_ (by first | omega | (dsimp only; omega) | (simp <;> omega)) _ | with_reducible refine Below.trans ?_ (Below.mono (by assumption) (by first | omega | (simp <;> omega))))))).mono ?_; rintro en w2 ⟨rfl, hb2⟩; have hs2 := hb2.size))))
    all_goals go_light
    all_goals (try simp only [beq_iff_eq, beq_eq_false_iff_ne, bne_iff_ne, bne_eq_false_iff_eq, ne_eq] at *)
    all_goals
      refine bodyPost_ret (v := .tuple #[.int .i64 (l + m), .int .i64 0]) (by simp [results, Tryd.results23, go_sem, *]) rfl ⟨rfl, ?_⟩
      repeat' (first | with_reducible exact Below.refl _ _ | with_reducible refine Below.drew ?_ | with_reducible refine below_drewN ?_ _ | with_reducible refine Below.alloc ?_ (by first | omega | (simp <;> omega)) _ | with_reducible refine Below.setCell ?_ (by first | omega | (dsimp only; omega) | (simp <;> omega)) _ | with_reducible refine Below.trans ?_ (Below.mono (by assumption) (by first | omega | (simp <;> omega))))
  · rw [if_pos h]
    generalize schk qs = E at qC h
    have e1 : (E != 0) = true := by simpa using h
    go_enter Tryd.func23, Tryd.ntmps23
    go_wp2_with ((go_at_call 27; refine (qC _ (ha.later (by repeat' (first | with_reducible exact Below.refl _ _ | with_reducible refine Below.drew ?_ | with_reducible refine below_drewN ?_ _ | with_reducible refine Below.alloc ?_ (by first | omega | (simp <;> omega)) _ | with_reducible refine Below.setCell ?_ (by first | omega | (dsimp only; omega) | (simp <;> omega)) _ | with_reducible refine Below.trans ?_ (Below.mono (by assumption) (by first | omega | (simp <;> omega))))))).mono ?_; rintro en w1 ⟨rfl, hb1⟩; have hs1 := hb1.size))
    repeat' (first | (go_region <;> go_wp2_with ((go_at_call 27; refine (qC _ (ha.later (by repeat' (first | with_reducible exact Below.refl _ _ | with_reducible refine Below.drew ?_ | with_reducible refine below_drewN ?_ _ | with_reducible refine Below.alloc ?_ (by first | omega | (simp <;> omega)) _ | with_reducible refine Below.setCell ?_ (by first | omega | (dsimp only; omega) | (simp <;> omega)) _ | with_reducible refine Below.trans ?_ (Below.mono (by assumption) (by first | omega | (simp <;> omega))))))).mono ?_; rintro en w1 ⟨rfl, hb1⟩; have hs1 := hb1.size))))
    all_goals go_light
    all_goals (try simp only [beq_iff_eq, beq_eq_false_iff_ne, bne_iff_ne, bne_eq_false_iff_eq, ne_eq] at *)
    all_goals
      refine bodyPost_ret (v := .tuple #[.int .i64 0, .int .i64 E]) (by simp [results, Tryd.results23, go_sem, *]) rfl ⟨rfl, ?_⟩
      repeat' (first | with_reducible exact Below.refl _ _ | with_reducible refine Below.drew ?_ | with_reducible refine below_drewN ?_ _ | with_reducible refine Below.alloc ?_ (by first | omega | (simp <;> omega)) _ | with_reducible refine Below.setCell ?_ (by first | omega | (dsimp only; omega) | (simp <;> omega)) _ | with_reducible refine Below.trans ?_ (Below.mono (by assumption) (by first | omega | (simp <;> omega))))

set_option maxRecDepth 100000 in
set_option maxHeartbeats 4000000 in
theorem rlits_p (a : Option Addr) (qs : List (Int × Int × Int)) (cap : Nat) (w : World) (ha : RowQ w a qs) (hl : qs.length ≤ 9223372036854775807) :
    Calls Tryd.prog 25 #[.slice a qs.length cap] w fun e w' => e = .returned (.tuple #[.int .i64 (Rlits qs).1, .int .i64 (Rlits qs).2]) ∧ Below w.heap.size w w' := by
  have qC := fun w h => rscheck_p a qs cap w h hl
  unfold Rlits
  by_cases h : schk qs = 0
  · have hbd := lmS_bd h
    have hok := (schk_get h).2
    have hn := (schk_get h).1
    rw [if_neg (by simpa using h)]
    rw [h] at qC
    clear h
    go_enter Tryd.func25, Tryd.ntmps25
    go_wp2_with (go_at_call 28; refine (qC _ (ha.later (by repeat' (first | with_reducible exact Below.refl _ _ | with_reducible refine Below.drew ?_ | with_reducible refine below_drewN ?_ _ | with_reducible refine Below.alloc ?_ (by first | omega | (simp <;> omega)) _ | with_reducible refine Below.setCell ?_ (by first | omega | (dsimp only; omega) | (simp <;> omega)) _ | with_reducible refine Below.trans ?_ (Below.mono (by assumption) (by first | omega | (simp <;> omega))))))).mono ?_; rintro en w1 ⟨rfl, hb1⟩; have hs1 := hb1.size)
    go_loopw [5, 6] (fun v5 v6 wr => ∃ (k : Nat) (l : Int), k ≤ qs.length ∧ v6 = .int .i64 (k : Int) ∧ v5 = .int .i64 l ∧ Hid (l = lS qs k) ∧ Below w.heap.size w wr) (fun _ v _ => qs.length - (intOf v).toNat)
    case atStart => exact ⟨0, 0, by omega, rfl, rfl, Lib.hid rfl, hb1⟩
    case round =>
      clear hb1 qC
      obtain ⟨k, l, hk, rfl, rfl, HL, hb⟩ := hrel
      obtain ⟨b1, b2, _, _⟩ := hbd k hk
      rw [← HL.out] at b1 b2
      by_cases hlt : k < qs.length
      · obtain ⟨g1, o1, rfl, hb5, hc1⟩ := (ha.later hb).at hlt
        obtain ⟨c1, c2, c3⟩ := hc1 k hlt
        obtain ⟨⟨lq, ma, of⟩, hqq⟩ : ∃ q, qs.getD k (0, 0, 0) = q := ⟨_, rfl⟩
        obtain ⟨q1, q2, q3, q4, q5, q6⟩ := hok k hlt lq ma of hqq
        have hl1 : lS qs (k + 1) = l + lq := by rw [lS, hqq, ← HL.out]
        have HL1 := Lib.hid hl1
        rw [hqq] at c1
        dsimp only at c1
        have i0 : (0 : Int) ≤ (k : Int) := by omega
        have i1 : (k : Int) < (qs.length : Int) := by omega
        clear hc1 hqq hl1 c2 c3
        go_wp2
        go_roundw
        case rel => exact ⟨k + 1, l + lq, by omega, by go_num, by go_num, Lib.hid HL1.out.symm, hb⟩
        case measure => go_light; simp [intOf] <;> omega
      · obtain rfl : k = qs.length := by omega
        have jj : ¬ (qs.length : Int) < (qs.length : Int) := by omega
        go_wp2
        refine bodyPost_ret (v := .tuple #[.int .i64 l, .int .i64 0]) (by simp [results, Tryd.results25, go_sem, *]) rfl ⟨by rw [HL.out], hb⟩
  · rw [if_pos h]
    generalize schk qs = E at qC h
    have e1 : (E != 0) = true := by simpa using h
    go_enter Tryd.func25, Tryd.ntmps25
    go_wp2_with ((go_at_call 28; refine (qC _ (ha.later (by repeat' (first | with_reducible exact Below.refl _ _ | with_reducible refine Below.drew ?_ | with_reducible refine below_drewN ?_ _ | with_reducible refine Below.alloc ?_ (by first | omega | (simp <;> omega)) _ | with_reducible refine Below.setCell ?_ (by first | omega | (dsimp only; omega) | (simp <;> omega)) _ | with_reducible refine Below.trans ?_ (Below.mono (by assumption) (by first | omega | (simp <;> omega))))))).mono ?_; rintro en w1 ⟨rfl, hb1⟩; have hs1 := hb1.size))
    repeat' (first | (go_region <;> go_wp2_with ((go_at_call 28; refine (qC _ (ha.later (by repeat' (first | with_reducible exact Below.refl _ _ | with_reducible refine Below.drew ?_ | with_reducible refine below_drewN ?_ _ | with_reducible refine Below.alloc ?_ (by first | omega | (simp <;> omega)) _ | with_reducible refine Below.setCell ?_ (by first | omega | (dsimp only; omega) | (simp <;> omega)) _ | with_reducible refine Below.trans ?_ (Below.mono (by assumption) (by first | omega | (simp <;> omega))))))).mono ?_; rintro en w1 ⟨rfl, hb1⟩; have hs1 := hb1.size))))
    all_goals go_light
    all_goals (try simp only [beq_iff_eq, beq_eq_false_iff_ne, bne_iff_ne, bne_eq_false_iff_eq, ne_eq] at *)
    all_goals
      refine bodyPost_ret (v := .tuple #[.int .i64 0, .int .i64 E]) (by simp [results, Tryd.results25, go_sem, *]) rfl ⟨rfl, ?_⟩
      repeat' (first | with_reducible exact Below.refl _ _ | with_reducible refine Below.drew ?_ | with_reducible refine below_drewN ?_ _ | with_reducible refine Below.alloc ?_ (by first | omega | (simp <;> omega)) _ | with_reducible refine Below.setCell ?_ (by first | omega | (dsimp only; omega) | (simp <;> omega)) _ | with_reducible refine Below.trans ?_ (Below.mono (by assumption) (by first | omega | (simp <;> omega))))

set_option maxRecDepth 100000 in
set_option maxHeartbeats 4000000 in
theorem rlength_p (a : Option Addr) (qs : List (Int × Int × Int)) (cap : Nat) (w : World) (ha : RowQ w a qs) (hl : qs.length ≤ 9223372036854775807) :
    Calls Tryd.prog 26 #[.slice a qs.length cap] w fun e w' => e = .returned (.tuple #[.int .i64 (Rlen qs).1, .int .i64 (Rlen qs).2]) ∧ Below w.heap.size w w' := by
  have qL := fun w h => rlits_p a qs cap w h hl
  unfold Rlen
  unfold Rlits at qL
  by_cases h : schk qs = 0
  · have hbd := lmS_bd h
    have hok := (schk_get h).2
    have hn := (schk_get h).1
    obtain ⟨z1, z2, _, _⟩ := hbd _ (Nat.le_refl _)
    rw [if_neg (by simpa using h)]
    rw [if_neg (by simpa using h)] at qL
    dsimp only at qL ⊢
    clear h
    obtain ⟨T, hT⟩ : ∃ T, lS qs qs.length = T := ⟨_, rfl⟩
    rw [hT] at qL z1 z2 ⊢
    clear hT
    go_enter Tryd.func26, Tryd.ntmps26
    go_wp2_with (go_at_call 25; refine (qL _ (ha.later (by repeat' (first | with_reducible exact Below.refl _ _ | with_reducible refine Below.drew ?_ | with_reducible refine below_drewN ?_ _ | with_reducible refine Below.alloc ?_ (by first | omega | (simp <;> omega)) _ | with_reducible refine Below.setCell ?_ (by first | omega | (dsimp only; omega) | (simp <;> omega)) _ | with_reducible refine Below.trans ?_ (Below.mono (by assumption) (by first | omega | (simp <;> omega))))))).mono ?_; rintro en w1 ⟨rfl, hb1⟩; have hs1 := hb1.size)
    go_loopw [4, 6] (fun v5 v6 wr => ∃ (k : Nat) (l : Int), k ≤ qs.length ∧ v6 = .int .i64 (k : Int) ∧ v5 = .int .i64 l ∧ Hid (l = T + mS qs k) ∧ Below w.heap.size w wr) (fun _ v _ => qs.length - (intOf v).toNat)
    case atStart => exact ⟨0, T, by omega, rfl, rfl, Lib.hid (by simp [mS]), hb1⟩
    case round =>
      clear hb1 qL
      obtain ⟨k, l, hk, rfl, rfl, HL, hb⟩ := hrel
      obtain ⟨_, _, b1, b2⟩ := hbd k hk
      have b3 := HL.out
      by_cases hlt : k < qs.length
      · obtain ⟨g1, o1, rfl, hb5, hc1⟩ := (ha.later hb).at hlt
        obtain ⟨c1, c2, c3⟩ := hc1 k hlt
        obtain ⟨⟨lq, ma, of⟩, hqq⟩ : ∃ q, qs.getD k (0, 0, 0) = q := ⟨_, rfl⟩
        obtain ⟨q1, q2, q3, q4, q5, q6⟩ := hok k hlt lq ma of hqq
        have hl1 : T + mS qs (k + 1) = l + ma := by rw [mS, hqq, HL.out]; dsimp only; omega
        have HL1 := Lib.hid hl1
        have l1 : -1 ≤ l := by omega
        have l2 : l ≤ 26000000000 := by omega
        rw [hqq] at c2
        dsimp only at c2
        have i0 : (0 : Int) ≤ (k : Int) := by omega
        have i1 : (k : Int) < (qs.length : Int) := by omega
        clear hc1 hqq hl1 c1 c3 b3
        go_wp2
        go_roundw
        case rel => exact ⟨k + 1, l + ma, by omega, by go_num, by go_num, Lib.hid HL1.out.symm, hb⟩
        case measure => go_light; simp [intOf] <;> omega
      · obtain rfl : k = qs.length := by omega
        have jj : ¬ (qs.length : Int) < (qs.length : Int) := by omega
        clear b3
        go_wp2
        refine bodyPost_ret (v := .tuple #[.int .i64 l, .int .i64 0]) (by simp [results, Tryd.results26, go_sem, *]) rfl ⟨by rw [HL.out], hb⟩
  · rw [if_pos h]
    rw [if_pos h] at qL
    generalize schk qs = E at qL h
    have e1 : (E == 0) = false := by simpa using h
    have e3 : ¬ E = 0 := h
    dsimp only at qL ⊢
    go_enter Tryd.func26, Tryd.ntmps26
    go_wp2_with (go_at_call 25; refine (qL _ (ha.later (by repeat' (first | with_reducible exact Below.refl _ _ | with_reducible refine Below.drew ?_ | with_reducible refine below_drewN ?_ _ | with_reducible refine Below.alloc ?_ (by first | omega | (simp <;> omega)) _ | with_reducible refine Below.setCell ?_ (by first | omega | (dsimp only; omega) | (simp <;> omega)) _ | with_reducible refine Below.trans ?_ (Below.mono (by assumption) (by first | omega | (simp <;> omega))))))).mono ?_; rintro en w1 ⟨rfl, hb1⟩; have hs1 := hb1.size)
    go_loopw [4, 6] (fun v4 v6 wr => v4 = .int .i64 0 ∧ v6 = .int .i64 0 ∧ Below w.heap.size w wr) (fun _ _ _ => 0)
    case atStart => exact ⟨rfl, rfl, hb1⟩
    case round =>
      clear hb1 qL
      obtain ⟨rfl, rfl, hb⟩ := hrel
      rcases (show (0 : Int) < (qs.length : Int) ∨ ¬ (0 : Int) < (qs.length : Int) by omega) with jj | jj
      all_goals
        go_wp2
        refine bodyPost_ret (v := .tuple #[.int .i64 0, .int .i64 E]) (by simp [results, Tryd.results26, go_sem, *]) rfl ⟨rfl, hb⟩
end Go.Proofs.YtmblpmaelglnpaaDoor
