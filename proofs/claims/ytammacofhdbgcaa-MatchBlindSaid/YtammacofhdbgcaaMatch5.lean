/-
  The best match of some, walked: of the program.
-/
import Derived.Test.YtammacofhdbgcaaRows
import Derived.Test.YtammacofhdbgcaaMatch4
import Derived.Test.YtammacofhdbgcaaCommon
import Derived.Deep.Light
import Derived.Shelf.Abstract
import Derived.Shelf.RegionOpen
import Derived.OwnWalkIn
import Derived.TacticsInMore
import Derived.LoopNIn
import Derived.LoopIn
import Derived.Outline
namespace Go.Proofs.Ytammacofhdbgcaa
open Go.RowKit
set_option linter.unusedSimpArgs false
set_option linter.unusedVariables false
open Go.Shelf
attribute [local go_sem] Oper.semAt_some

/-- The best of so many, nothing of none. -/
def mbZ (ms : List (Int × Int × Int × Int)) (k : Nat) : Int × Int × Int × Int := if k = 0 then (0, 0, 0, 0) else mbF ms k
set_option maxRecDepth 100000 in
set_option maxHeartbeats 4000000 in
theorem best_s (a : Option Addr) (ms : List (Int × Int × Int × Int)) (cap : Nat) (w : World) (ha : RowM w a ms) (hl : ms.length ≤ 9223372036854775807) :
    Calls Try.prog 62 #[.slice a ms.length cap, .func (.func 63) #[] #[]] w fun e w' => e = .returned (.tuple #[.agg #[.int .i64 (mbZ ms ms.length).1, .int .i64 (mbZ ms ms.length).2.1, .int .i64 (mbZ ms ms.length).2.2.1, .int .i64 (mbZ ms ms.length).2.2.2], .bool (decide (0 < ms.length))]) ∧ Below w.heap.size w w' := by
  obtain ⟨⟨fd, fl, fv, fg⟩, hMB⟩ : ∃ m, mbZ ms ms.length = m := ⟨_, rfl⟩
  obtain ⟨fb, hfb⟩ : ∃ x, decide (0 < ms.length) = x := ⟨_, rfl⟩
  have hfb2 : decide ((0 : Int) < (ms.length : Int)) = fb := by rw [← hfb]; exact decide_eq_decide.2 (by omega)
  rw [hMB, hfb]
  have HMB := Lib.hid hMB
  clear hMB
  dsimp only
  go_enter Try.func62, Try.ntmps62
  go_wp2
  obtain ⟨W0, hW0⟩ : ∃ W0, w.alloc (.cells #[.int .i64 0, .int .i64 0, .int .i64 0, .int .i64 0] 32) = W0 := ⟨_, rfl⟩
  have hR : MBox W0 w.heap.size (0, 0, 0, 0) := by rw [← hW0]; exact ⟨by simp [go_sem], by simp [go_sem], by simp [go_sem], by simp [go_sem], fun j => by simp [go_sem]⟩
  have B0 : Below w.heap.size w W0 := by rw [← hW0]; repeat' (first | exact Below.refl _ _ | refine Below.drew ?_ | refine below_drewN ?_ _ | refine Below.alloc ?_ (by first | omega | (simp <;> omega)) _ | refine Below.setCell ?_ (by first | omega | (simp <;> omega)) _ | refine Below.trans ?_ (Below.mono (by assumption) (by first | omega | (simp <;> omega))))
  obtain ⟨bR, hbR⟩ : ∃ x, w.heap.size = x := ⟨_, rfl⟩
  rw [hW0]
  rw [hbR] at hR B0 ⊢
  have HA := Lib.hid ha
  have HBR := Lib.hid hbR
  clear hW0 hbR ha
  go_loopw [10] (fun v wr => ∃ k : Nat, v = .int .i64 (k : Int) ∧ k ≤ ms.length ∧ MBox wr bR (mbZ ms k) ∧ Below bR w wr) (fun v _ => ms.length - (intOf v).toNat)
  case atStart => exact ⟨0, rfl, by omega, hR, B0⟩
  case round =>
    clear hR B0
    obtain ⟨k, rfl, hk, hR, hb⟩ := hrel
    have lR := cell_lt_m hR.1
    dsimp only at lR
    by_cases hlt : k < ms.length
    · obtain ⟨b1, o1, rfl, hb2, hc2⟩ := (HA.out.later (by rw [HBR.out]; exact hb)).at hlt
      obtain ⟨c0, c1, c2, c3⟩ := hc2 k hlt
      have hsu : mbZ ms (k + 1) = if k = 0 then ms.getD k (0, 0, 0, 0) else (if mbet (ms.getD k (0, 0, 0, 0)) (mbZ ms k) then ms.getD k (0, 0, 0, 0) else mbZ ms k) := by
        unfold mbZ
        rw [if_neg (by omega)]
        by_cases h0 : k = 0
        · subst h0
          rw [if_pos rfl]
          exact mbF_one ms
        · rw [if_neg h0, if_neg h0]
          rfl
      obtain ⟨⟨xd, xl, xv, xg⟩, hx⟩ : ∃ q, ms.getD k (0, 0, 0, 0) = q := ⟨_, rfl⟩
      obtain ⟨⟨md, ml, mv, mg⟩, hm⟩ : ∃ q, mbZ ms k = q := ⟨_, rfl⟩
      rw [hx] at c0 c1 c2 c3 hsu
      rw [hm] at hR hsu
      have HR := Lib.hid hR
      obtain ⟨m0, m1, m2, m3, m4⟩ := hR
      dsimp only at c0 c1 c2 c3 m0 m1 m2 m3
      have m40 := m4 0
      have m41 := m4 1
      have m42 := m4 2
      have m43 := m4 3
      have qC := fun w => compare_p (xd, xl, xv, xg) (md, ml, mv, mg) w
      dsimp only at qC
      have hz := mcmp_bet (xd, xl, xv, xg) (md, ml, mv, mg)
      obtain ⟨z, hz0⟩ : ∃ z, mcmp (xd, xl, xv, xg) (md, ml, mv, mg) = z := ⟨_, rfl⟩
      rw [hz0] at qC hz
      rw [← hz] at hsu
      have HSU := Lib.hid hsu
      have i0 : (0 : Int) ≤ (k : Int) := by omega
      have i1 : (k : Int) < (ms.length : Int) := by omega
      have n1 : ¬ bR = wr.heap.size := by omega
      have n2 : ¬ wr.heap.size = bR := by omega
      have hbz := hb.size
      clear hc2 hx hm hz hz0 hsu
      by_cases h0 : k = 0
      · subst h0
        simp only [Nat.zero_mul, Nat.add_zero] at c0 c1 c2 c3
        have HS := Lib.hid (show mbZ ms (0 + 1) = (xd, xl, xv, xg) by rw [HSU.out, if_pos rfl])
        go_wp2
        go_roundw
        case rel =>
          refine ⟨0 + 1, by go_num, by omega, ?_, ?_⟩
          · rw [HS.out]
            exact ⟨by simp [go_sem, *], by simp [go_sem, *], by simp [go_sem, *], by simp [go_sem, *], fun j => by simp [go_sem, *]⟩
          · repeat' (first | exact Below.refl _ _ | refine Below.drew ?_ | refine below_drewN ?_ _ | refine Below.alloc ?_ (by first | omega | (simp <;> omega)) _ | refine Below.setCell ?_ (by first | omega | (simp <;> omega)) _ | refine Below.trans ?_ (Below.mono (by assumption) (by first | omega | (simp <;> omega))))
        case measure => go_light; simp [intOf] <;> omega
      · have hk0 : ((k : Int) == 0) = false := by
          have : (k : Int) ≠ 0 := by omega
          simpa using this
        have hs2 := HSU.out
        rw [if_neg h0] at hs2
        by_cases hz : z < 0
        · rw [if_pos (by simpa using hz)] at hs2
          have HS := Lib.hid hs2
          clear hs2 HSU h0
          go_wp2_with (go_at_call 63; refine (qC _).mono ?_; rintro e w3 ⟨rfl, hb6⟩; have hs6 := hb6.size; (simp at hs6); have y0 : w3.cell? ⟨wr.heap.size, 0, none⟩ = some (.int .i64 xd) := (hb6.cell (p := ⟨wr.heap.size, 0, none⟩) (by simp)).trans (by simp [go_sem]); have y1 : w3.cell? ⟨wr.heap.size, 1, none⟩ = some (.int .i64 xl) := (hb6.cell (p := ⟨wr.heap.size, 1, none⟩) (by simp)).trans (by simp [go_sem]); have y2 : w3.cell? ⟨wr.heap.size, 2, none⟩ = some (.int .i64 xv) := (hb6.cell (p := ⟨wr.heap.size, 2, none⟩) (by simp)).trans (by simp [go_sem]); have y3 : w3.cell? ⟨wr.heap.size, 3, none⟩ = some (.int .i64 xg) := (hb6.cell (p := ⟨wr.heap.size, 3, none⟩) (by simp)).trans (by simp [go_sem]); have hbw : Below wr.heap.size wr w3 := ((Below.refl _ wr).alloc (Nat.le_refl _) _).trans (hb6.mono (by simp)); obtain ⟨f0, f1, f2, f3, f4⟩ := HR.out.later hbw; (dsimp only at f0 f1 f2 f3); have f40 := f4 0; have f41 := f4 1; have f42 := f4 2; have f43 := f4 3; have hb3 := hb.trans (hbw.mono (Nat.le_of_lt lR)))
          go_roundw
          case rel =>
            refine ⟨k + 1, by go_num, by omega, ?_, (((hb3.setCell (by simp) _).setCell (by simp) _).setCell (by simp) _).setCell (by simp) _⟩
            rw [HS.out]
            exact ⟨by simp [go_sem, *], by simp [go_sem, *], by simp [go_sem, *], by simp [go_sem, *], fun j => by simp [go_sem, *]⟩
          case measure => go_light; simp [intOf] <;> omega
        · rw [if_neg (by simpa using hz)] at hs2
          have HS := Lib.hid hs2
          clear hs2 HSU h0
          go_wp2_with (go_at_call 63; refine (qC _).mono ?_; rintro e w3 ⟨rfl, hb6⟩; have hs6 := hb6.size; (simp at hs6); have hbw : Below wr.heap.size wr w3 := ((Below.refl _ wr).alloc (Nat.le_refl _) _).trans (hb6.mono (by simp)); have HR3 := Lib.hid (HR.out.later hbw); have hb3 := hb.trans (hbw.mono (Nat.le_of_lt lR)))
          go_roundw
          case rel =>
            refine ⟨k + 1, by go_num, by omega, ?_, hb3⟩
            rw [HS.out]
            exact HR3.out
          case measure => go_light; simp [intOf] <;> omega
    · obtain rfl : k = ms.length := by omega
      have hq : mbZ ms ms.length = (fd, fl, fv, fg) := HMB.out
      rw [hq] at hR
      obtain ⟨m0, m1, m2, m3, m4⟩ := hR
      have m40 := m4 0
      have m41 := m4 1
      have m42 := m4 2
      have m43 := m4 3
      clear hq HMB
      dsimp only at m0 m1 m2 m3
      go_wp2
      go_light
      refine bodyPost_ret (v := .tuple #[.agg #[.int .i64 fd, .int .i64 fl, .int .i64 fv, .int .i64 fg], .bool fb]) (by simp [results, Try.results62, go_sem, *]) rfl ⟨rfl, ?_⟩
      rw [HBR.out]
      repeat' (first | exact Below.refl _ _ | refine Below.drew ?_ | refine below_drewN ?_ _ | refine Below.alloc ?_ (by first | omega | (simp <;> omega)) _ | refine Below.setCell ?_ (by first | omega | (simp <;> omega)) _ | refine Below.trans ?_ (Below.mono (by assumption) (by first | omega | (simp <;> omega))))
end Go.Proofs.Ytammacofhdbgcaa
