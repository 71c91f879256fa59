/-
  The highest bit of a number, walked: of the program and of the reference.
-/
import Derived.Test.YtammacofhdbgcaaRows
import Derived.Test.YtammacofhdbgcaaCommon
import Derived.Deep.Light
import Derived.Shelf.Abstract
import Derived.Shelf.RegionOpen
import Derived.OwnWalkIn
import Derived.TacticsInMore
import Derived.LoopNIn
import Derived.LoopIn
import Derived.Outline
namespace Go.Proofs.Ytammacofhdbgcaa
open Go.RowKit
set_option linter.unusedSimpArgs false
set_option linter.unusedVariables false
open Go.Shelf
attribute [local go_sem] Oper.semAt_some
/-- The highest bit, -1 of nothing. -/
def hi (n : Nat) : Int := if n = 0 then -1 else (Nat.log2 n : Int)
theorem hi_half (n : Nat) (h : 0 < n) : hi n = hi (n / 2) + 1 := by
  unfold hi
  rw [if_neg (by omega)]
  by_cases h2 : n / 2 = 0
  · have : n = 1 := by omega
    subst this
    decide
  · rw [if_neg h2]
    rw [Nat.log2_def n, if_pos (by omega)]
    omega
theorem hi_bd (n : Nat) (h : n < 2 ^ 62) : -1 ≤ hi n ∧ hi n ≤ 61 := by
  unfold hi
  split
  · omega
  · have := (Nat.log2_lt (by omega)).2 h
    omega
theorem hi_shift (n k : Nat) : 0 < n / 2 ^ k ↔ (k : Int) ≤ hi n := by
  unfold hi
  by_cases h : n = 0
  · subst h
    simp
    omega
  · rw [if_neg h, Nat.div_pos_iff]
    have := Nat.le_log2 h (k := k)
    constructor
    · intro h2
      have := this.2 h2.2
      omega
    · intro h2
      exact ⟨Nat.pow_pos (by omega), this.1 (by omega)⟩
theorem rhigh_s (n : Nat) (w : World) (hn : n < 2 ^ 62) : Calls Try.prog 79 #[.int .i64 (n : Int)] w fun e w' => e = .returned (.int .i64 (hi n)) ∧ w' = w := by
  have hbd := hi_bd n hn
  go_enter Try.func79, Try.ntmps79
  go_wp2
  go_loop [0, 3] (fun v vh => ∃ (m : Nat) (h : Int), v = .int .i64 (m : Int) ∧ vh = .int .i64 h ∧ Hid (hi n = h + 1 + hi m) ∧ -1 ≤ h ∧ h ≤ 61 ∧ m < 2 ^ 62) (fun v _ => (intOf v).toNat)
  case atStart => exact ⟨n, -1, rfl, rfl, Lib.hid (by omega), by omega, by omega, hn⟩
  case round =>
    obtain ⟨m, h, rfl, rfl, HH, h1, h2, hm⟩ := hrel
    by_cases h0 : 0 < m
    · have hh := hi_half m h0
      have hb2 := hi_bd (m / 2) (by omega)
      have hq := HH.out
      have H2 : Hid (hi n = (h + 1) + 1 + hi (m / 2)) := Lib.hid (by omega)
      have h3 : h + 1 ≤ 61 := by omega
      have i0 : (0 : Int) < (m : Int) := by omega
      clear hh hb2 hq
      go_wp2
      go_round
      case rel => exact ⟨m / 2, h + 1, by rw [show (m : Int) / 2 = ((m / 2 : Nat) : Int) by omega], rfl, H2, by omega, h3, by omega⟩
      case measure => go_light; simp [intOf] <;> omega
    · obtain rfl : m = 0 := by omega
      have hz : hi 0 = -1 := rfl
      have hq := HH.out
      rw [hz] at hq
      have HQ : Hid (hi n = h) := Lib.hid (by omega)
      clear hq hz
      go_wp2
      go_ret
      exact ⟨by rw [HQ.out]; rfl, rfl⟩

theorem high_s (n : Nat) (w : World) (hn : n < 2 ^ 62) : Calls Try.prog 90 #[.int .i64 (n : Int)] w fun e w' => e = .returned (.int .i64 (hi n)) ∧ w' = w := by
  have hbd := hi_bd n hn
  go_enter Try.func90, Try.ntmps90
  go_wp2
  go_loop [3, 5] (fun vh v => ∃ (k : Nat) (h : Int), v = .int .i64 (k : Int) ∧ k ≤ 63 ∧ vh = .int .i64 h ∧ Hid (h = if (k : Int) - 1 ≤ hi n then (k : Int) - 1 else hi n)) (fun _ v => 63 - (intOf v).toNat)
  case atStart => exact ⟨0, -1, rfl, by omega, rfl, Lib.hid (by split <;> omega)⟩
  case round =>
    obtain ⟨k, h, rfl, hk, rfl, HH⟩ := hrel
    by_cases hlt : k < 63
    · have i1 : (k : Int) < 63 := by omega
      have hsh := hi_shift n k
      have hcast : (n : Int) / 2 ^ k = ((n / 2 ^ k : Nat) : Int) := by simp
      by_cases hp : 0 < n / 2 ^ k
      · have H2 : Hid ((k : Int) = if ((k + 1 : Nat) : Int) - 1 ≤ hi n then ((k + 1 : Nat) : Int) - 1 else hi n) := Lib.hid (by have := hsh.1 hp; rw [if_pos (by omega)]; omega)
        have j1 : (0 : Int) < (n : Int) / 2 ^ k := by omega
        have J1 := Lib.hid j1
        clear hsh hcast hp
        go_wp2
        go_round
        case rel => exact ⟨k + 1, k, by go_num, by omega, rfl, H2⟩
        case measure => go_light; simp [intOf] <;> omega
      · have H2 : Hid (h = if ((k + 1 : Nat) : Int) - 1 ≤ hi n then ((k + 1 : Nat) : Int) - 1 else hi n) := Lib.hid (by
          have h5 : ¬ (k : Int) ≤ hi n := fun h6 => hp (hsh.2 h6)
          have h7 := HH.out
          rw [if_neg (by omega)]
          by_cases h8 : (k : Int) - 1 ≤ hi n
          · rw [if_pos h8] at h7; omega
          · rw [if_neg h8] at h7; omega)
        have j1 : ¬ (0 : Int) < (n : Int) / 2 ^ k := by omega
        clear hsh hcast hp
        go_wp2
        go_round
        case rel => exact ⟨k + 1, h, by go_num, by omega, rfl, H2⟩
        case measure => go_light; simp [intOf] <;> omega
    · obtain rfl : k = 63 := by omega
      have HQ : Hid (h = hi n) := Lib.hid (by have h7 := HH.out; rw [if_neg (by omega)] at h7; exact h7)
      go_wp2
      go_ret
      exact ⟨by rw [HQ.out]; rfl, rfl⟩

end Go.Proofs.Ytammacofhdbgcaa
