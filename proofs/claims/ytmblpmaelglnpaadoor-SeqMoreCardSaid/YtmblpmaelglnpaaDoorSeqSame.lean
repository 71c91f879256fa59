/-
  The comparison of sequences, walked.
-/
import Derived.Test.YtmblpmaelglnpaaDoorRows
import Derived.Test.YtmblpmaelglnpaaDoorRepsRunIter
import Derived.Test.YtmblpmaelglnpaaDoorRoundDraw
import Derived.Test.YtmblpmaelglnpaaDoorGBase
import Derived.Deep.Light
import Derived.Shelf.Abstract
import Derived.Shelf.RegionOpen
import Derived.OwnWalkIn
import Derived.TacticsInMore
import Derived.LoopNIn
import Derived.LoopIn
import Derived.Outline
namespace Go.Proofs.YtmblpmaelglnpaaDoor
open Go.RowKit
set_option linter.unusedSimpArgs false
set_option linter.unusedVariables false
open Go.Shelf
attribute [local go_sem] Oper.semAt_some

theorem take_q_succ {xs ys : List (Int × Int × Int)} {k : Nat} (h : xs.take k = ys.take k) (hx : k < xs.length) (hy : k < ys.length) (he : xs.getD k (0, 0, 0) = ys.getD k (0, 0, 0)) : xs.take (k + 1) = ys.take (k + 1) := by
  rw [List.take_add_one, List.take_add_one, h]
  congr 1
  rw [List.getElem?_eq_getElem hx, List.getElem?_eq_getElem hy]
  rw [List.getD_eq_getElem?_getD, List.getD_eq_getElem?_getD, List.getElem?_eq_getElem hx, List.getElem?_eq_getElem hy] at he
  simpa using he
set_option maxRecDepth 100000 in
set_option maxHeartbeats 4000000 in
theorem rsame_p (a b : Option Addr) (xs ys : List (Int × Int × Int)) (ca cb : Nat) (w : World) (ha : RowQ w a xs) (hb : RowQ w b ys) (hl : xs.length ≤ 9223372036854775807) :
    Calls Tryd.prog 19 #[.slice a xs.length ca, .slice b ys.length cb] w fun e w' => e = .returned (.bool (decide (xs = ys))) ∧ Below w.heap.size w w' := by
  by_cases h : xs.length = ys.length
  · have e0 : decide ((xs.length : Int) = (ys.length : Int)) = true := decide_eq_true (by omega)
    have e1 : ((xs.length : Int) != (ys.length : Int)) = false := by simp; omega
    have HL := Lib.hid h
    have hl2 : ys.length ≤ 9223372036854775807 := by omega
    go_enter Tryd.func19, Tryd.ntmps19
    go_wp2
    go_loopw [5] (fun i wr => ∃ (k : Nat), k ≤ xs.length ∧ i = .int .i64 (k : Int) ∧ Hid (xs.take k = ys.take k) ∧ Below w.heap.size w wr) (fun i _ => xs.length - (intOf i).toNat)
    case atStart => exact ⟨0, by omega, rfl, Lib.hid rfl, Below.refl _ _⟩
    case round =>
      obtain ⟨k, hk, rfl, HT, hbw⟩ := hrel
      clear e0 e1 h
      by_cases hlt : k < xs.length
      · have hlt2 : k < ys.length := by have := HL.out; omega
        obtain ⟨b1, o1, rfl, hb1, hc1⟩ := (ha.later hbw).at hlt
        obtain ⟨b2, o2, rfl, hb2, hc2⟩ := (hb.later hbw).at hlt2
        obtain ⟨c0, c1, c2⟩ := hc1 k hlt
        obtain ⟨d0, d1, d2⟩ := hc2 k hlt2
        obtain ⟨⟨x1, x2, x3⟩, hx⟩ : ∃ q, xs.getD k (0, 0, 0) = q := ⟨_, rfl⟩
        obtain ⟨⟨y1, y2, y3⟩, hy⟩ : ∃ q, ys.getD k (0, 0, 0) = q := ⟨_, rfl⟩
        rw [hx] at c0 c1 c2
        rw [hy] at d0 d1 d2
        dsimp only at c0 c1 c2 d0 d1 d2
        have HX := Lib.hid hx
        have HY := Lib.hid hy
        have i0 : (0 : Int) ≤ (k : Int) := by omega
        have i1 : (k : Int) < (xs.length : Int) := by omega
        have i2 : (k : Int) < (ys.length : Int) := by omega
        have hmx : Tryd.prog.follows .mixedOrders = true := by kernel_rfl
        clear hc1 hc2 hx hy
        by_cases he : x1 = y1 ∧ x2 = y2 ∧ x3 = y3
        · obtain ⟨rfl, rfl, rfl⟩ := he
          have HT2 := Lib.hid (take_q_succ HT.out hlt hlt2 (HX.out.trans HY.out.symm))
          go_wp2
          apply wp_det
          case det =>
            go_region
            all_goals exact ⟨rfl, rfl⟩
          go_wp2
          go_roundw
          case rel =>
            refine ⟨k + 1, by omega, by go_num, HT2, ?_⟩
            repeat' (first | exact Below.refl _ _ | refine Below.drew ?_ | refine below_drewN ?_ _ | refine Below.alloc ?_ (by first | omega | (simp <;> omega)) _ | refine Below.setCell ?_ (by first | omega | (simp <;> omega)) _ | refine Below.trans ?_ (Below.mono (by assumption) (by first | omega | (simp <;> omega))))
          case measure => go_light; simp [intOf] <;> omega
        · have hne : xs ≠ ys := by
            intro e
            subst e
            have := HX.out.symm.trans HY.out
            simp only [Prod.mk.injEq] at this
            exact he ⟨this.1, this.2.1, this.2.2⟩
          have hr := Lib.hid (decide_eq_false hne)
          have he2 : ¬ x1 = y1 ∨ (x1 = y1 ∧ ¬ x2 = y2) ∨ (x1 = y1 ∧ x2 = y2 ∧ ¬ x3 = y3) := by omega
          clear hne he
          rcases he2 with e1 | ⟨rfl, e2⟩ | ⟨rfl, rfl, e3⟩
          all_goals
            go_wp2
            apply wp_det
            case det =>
              go_region
              all_goals exact ⟨rfl, rfl⟩
            go_wp2
            go_light
            refine bodyPost_ret (v := .bool false) (by simp [results, Tryd.results19, go_sem, *]) rfl ⟨by rw [hr.out], ?_⟩
            repeat' (first | exact Below.refl _ _ | refine Below.drew ?_ | refine below_drewN ?_ _ | refine Below.alloc ?_ (by first | omega | (simp <;> omega)) _ | refine Below.setCell ?_ (by first | omega | (simp <;> omega)) _ | refine Below.trans ?_ (Below.mono (by assumption) (by first | omega | (simp <;> omega))))
      · obtain rfl : k = xs.length := by omega
        have hr := Lib.hid (decide_eq_true (show xs = ys by
          have := HT.out
          rw [List.take_of_length_le (Nat.le_refl _), List.take_of_length_le (by rw [HL.out]; exact Nat.le_refl _)] at this
          exact this))
        go_wp2
        go_light
        refine bodyPost_ret (v := .bool true) (by simp [results, Tryd.results19, go_sem, *]) rfl ⟨by rw [hr.out], ?_⟩
        repeat' (first | exact Below.refl _ _ | refine Below.drew ?_ | refine below_drewN ?_ _ | refine Below.alloc ?_ (by first | omega | (simp <;> omega)) _ | refine Below.setCell ?_ (by first | omega | (simp <;> omega)) _ | refine Below.trans ?_ (Below.mono (by assumption) (by first | omega | (simp <;> omega))))
  · have e0 : decide ((xs.length : Int) = (ys.length : Int)) = false := decide_eq_false (by omega)
    have e1 : ((xs.length : Int) != (ys.length : Int)) = true := by simp; omega
    have hr := Lib.hid (decide_eq_false (show xs ≠ ys from fun e => h (by rw [e])))
    clear h
    go_enter Tryd.func19, Tryd.ntmps19
    go_wp2
    all_goals go_light
    all_goals
      refine bodyPost_ret (v := .bool false) (by simp [results, Tryd.results19, go_sem, *]) rfl ⟨by rw [hr.out], ?_⟩
      repeat' (first | exact Below.refl _ _ | refine Below.drew ?_ | refine below_drewN ?_ _ | refine Below.alloc ?_ (by first | omega | (simp <;> omega)) _ | refine Below.setCell ?_ (by first | omega | (simp <;> omega)) _ | refine Below.trans ?_ (Below.mono (by assumption) (by first | omega | (simp <;> omega))))
end Go.Proofs.YtmblpmaelglnpaaDoor
