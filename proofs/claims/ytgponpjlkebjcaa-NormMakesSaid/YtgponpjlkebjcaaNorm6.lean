/-
  The greatest of a row, walked: the memory is as it was but for draws.
-/
import Derived.Test.YtgponpjlkebjcaaRows
import Derived.Test.YtgponpjlkebjcaaNorm4
import Derived.Test.YtgponpjlkebjcaaCommon
import Derived.Deep.Light
import Derived.Shelf.Abstract
import Derived.Shelf.RegionOpen
import Derived.OwnWalkIn
import Derived.TacticsInMore
import Derived.LoopNIn
import Derived.LoopIn
import Derived.Outline
namespace Go.Proofs.Ytgponpjlkebjcaa
open Go.RowKit
set_option linter.unusedSimpArgs false
set_option linter.unusedVariables false
attribute [local go_sem] Oper.semAt_some

set_option maxHeartbeats 1000000 in
theorem greatest_q (a : Option Addr) (xs : List Int) (cap : Nat) (w : World) (ha : Row .i64 w a xs) (hl : xs.length ≤ 9223372036854775807) :
    Calls Try.prog 67 #[.slice a xs.length cap, .func (.func 68) #[] #[]] w fun e w' => e = .returned (.int .i64 (amx xs : Nat)) ∧ ∃ n, w' = w.drewN n := by
  go_enter Try.func67, Try.ntmps67
  go_wp2
  go_loopw [5, 10] (fun b v wr => ∃ (k m : Nat), k ≤ xs.length ∧ v = .int .i64 (k : Int) ∧ b = .int .i64 (m : Int) ∧ Hid (amF xs k = m) ∧ (0 < k → m < k) ∧ ∃ n, wr = w.drewN n) (fun _ v _ => xs.length - (intOf v).toNat)
  case atStart => exact ⟨0, 0, by omega, rfl, rfl, rfl, by omega, 0, rfl⟩
  case round =>
    obtain ⟨k, m, hk, rfl, rfl, HM, hm, nb, hw⟩ := hrel
    have hrow : Row .i64 wr a xs := by rw [hw]; exact ha.drewN nb
    have HW := Lib.hid hw
    clear hw
    by_cases hlt : k < xs.length
    · have hm2 : m < xs.length := by
        by_cases h0 : 0 < k
        · have := hm h0; omega
        · have h1 := HM.out
          have : k = 0 := by omega
          subst this
          simp [amF] at h1
          omega
      have hmk : m < k + 1 := by
        by_cases h0 : 0 < k
        · have := hm h0; omega
        · have h1 := HM.out
          have : k = 0 := by omega
          subst this
          simp [amF] at h1
          omega
      obtain ⟨b1, o1, rfl, hb1, hc1⟩ := hrow.at hlt
      have c1 := hc1 k hlt
      have c2 := hc1 m hm2
      obtain ⟨x, hx⟩ : ∃ x, xs.getD k 0 = x := ⟨_, rfl⟩
      obtain ⟨y, hy⟩ : ∃ y, xs.getD m 0 = y := ⟨_, rfl⟩
      rw [hx] at c1
      rw [hy] at c2
      have hsu : amF xs (k + 1) = if y < x then k else m := by
        rw [← hx, ← hy, ← HM.out]
        rfl
      have HSU := Lib.hid hsu
      have i0 : (0 : Int) ≤ (k : Int) := by omega
      have i1 : (k : Int) < (xs.length : Int) := by omega
      have i2 : (0 : Int) ≤ (m : Int) := by omega
      have i3 : (m : Int) < (xs.length : Int) := by omega
      clear hc1 hx hy hsu
      by_cases hyx : y < x
      · have HS2 : Hid (amF xs (k + 1) = k) := Lib.hid (by rw [HSU.out, if_pos hyx])
        have d1 : decide (y < x) = true := decide_eq_true hyx
        go_wp2
        go_quiet ((go_at_call 68; exact Calls.quiet_of_same (same_s _ _)))
        go_wp2
        go_roundw
        case rel => exact ⟨k + 1, k, by omega, by go_num, rfl, HS2, by omega, nb + nq, by rw [HW.out]; simp⟩
        case measure => go_light; simp [intOf] <;> omega
      · have HS2 : Hid (amF xs (k + 1) = m) := Lib.hid (by rw [HSU.out, if_neg hyx])
        have d1 : decide (y < x) = false := decide_eq_false hyx
        go_wp2
        go_quiet ((go_at_call 68; exact Calls.quiet_of_same (same_s _ _)))
        go_wp2
        go_roundw
        case rel => exact ⟨k + 1, m, by omega, by go_num, rfl, HS2, by omega, nb + nq, by rw [HW.out]; simp⟩
        case measure => go_light; simp [intOf] <;> omega
    · obtain rfl : k = xs.length := by omega
      go_wp2
      go_ret
      exact ⟨by unfold amx; rw [HM.out]; rfl, nb, HW.out⟩
end Go.Proofs.Ytgponpjlkebjcaa
