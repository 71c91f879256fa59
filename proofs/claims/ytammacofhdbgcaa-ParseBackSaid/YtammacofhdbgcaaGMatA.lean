/-
  Gains of matches, their comparison, the best one, walked.
-/
import Derived.Test.YtammacofhdbgcaaRows
import Derived.Test.YtammacofhdbgcaaGBase
import Derived.Deep.Light
import Derived.Shelf.Abstract
import Derived.Shelf.RegionOpen
import Derived.OwnWalkIn
import Derived.TacticsInMore
import Derived.LoopNIn
import Derived.LoopIn
import Derived.Outline
import Derived.Deep.RegionHeld3
import Derived.Test.YtammacofhdbgcaaGWin
namespace Go.Proofs.Ytammacofhdbgcaa
open Go.RowKit
set_option linter.unusedSimpArgs false
set_option linter.unusedVariables false
open Go.Shelf
attribute [local go_sem] Oper.semAt_some
/-- The highest bit, -1 of nothing. -/
def hi (n : Nat) : Int := if n = 0 then -1 else (Nat.log2 n : Int)
theorem hi_half (n : Nat) (h : 0 < n) : hi n = hi (n / 2) + 1 := by
  unfold hi
  rw [if_neg (by omega)]
  by_cases h2 : n / 2 = 0
  · have : n = 1 := by omega
    subst this
    decide
  · rw [if_neg h2]
    rw [Nat.log2_def n, if_pos (by omega)]
    omega
theorem hi_bd (n : Nat) (h : n < 2 ^ 62) : -1 ≤ hi n ∧ hi n ≤ 61 := by
  unfold hi
  split
  · omega
  · have := (Nat.log2_lt (by omega)).2 h
    omega
theorem hi_shift (n k : Nat) : 0 < n / 2 ^ k ↔ (k : Int) ≤ hi n := by
  unfold hi
  by_cases h : n = 0
  · subst h
    simp
    omega
  · rw [if_neg h, Nat.div_pos_iff]
    have := Nat.le_log2 h (k := k)
    constructor
    · intro h2
      have := this.2 h2.2
      omega
    · intro h2
      exact ⟨Nat.pow_pos (by omega), this.1 (by omega)⟩
theorem rhigh_s (n : Nat) (w : World) (hn : n < 2 ^ 62) : Calls Try.prog 79 #[.int .i64 (n : Int)] w fun e w' => e = .returned (.int .i64 (hi n)) ∧ w' = w := by
  have hbd := hi_bd n hn
  go_enter Try.func79, Try.ntmps79
  go_wp2
  go_loop [0, 3] (fun v vh => ∃ (m : Nat) (h : Int), v = .int .i64 (m : Int) ∧ vh = .int .i64 h ∧ Hid (hi n = h + 1 + hi m) ∧ -1 ≤ h ∧ h ≤ 61 ∧ m < 2 ^ 62) (fun v _ => (intOf v).toNat)
  case atStart => exact ⟨n, -1, rfl, rfl, Lib.hid (by omega), by omega, by omega, hn⟩
  case round =>
    obtain ⟨m, h, rfl, rfl, HH, h1, h2, hm⟩ := hrel
    by_cases h0 : 0 < m
    · have hh := hi_half m h0
      have hb2 := hi_bd (m / 2) (by omega)
      have hq := HH.out
      have H2 : Hid (hi n = (h + 1) + 1 + hi (m / 2)) := Lib.hid (by omega)
      have h3 : h + 1 ≤ 61 := by omega
      have i0 : (0 : Int) < (m : Int) := by omega
      clear hh hb2 hq
      go_wp2
      go_round
      case rel => exact ⟨m / 2, h + 1, by rw [show (m : Int) / 2 = ((m / 2 : Nat) : Int) by omega], rfl, H2, by omega, h3, by omega⟩
      case measure => go_light; simp [intOf] <;> omega
    · obtain rfl : m = 0 := by omega
      have hz : hi 0 = -1 := rfl
      have hq := HH.out
      rw [hz] at hq
      have HQ : Hid (hi n = h) := Lib.hid (by omega)
      clear hq hz
      go_wp2
      go_ret
      exact ⟨by rw [HQ.out]; rfl, rfl⟩

theorem high_s (n : Nat) (w : World) (hn : n < 2 ^ 62) : Calls Try.prog 90 #[.int .i64 (n : Int)] w fun e w' => e = .returned (.int .i64 (hi n)) ∧ w' = w := by
  have hbd := hi_bd n hn
  go_enter Try.func90, Try.ntmps90
  go_wp2
  go_loop [3, 5] (fun vh v => ∃ (k : Nat) (h : Int), v = .int .i64 (k : Int) ∧ k ≤ 63 ∧ vh = .int .i64 h ∧ Hid (h = if (k : Int) - 1 ≤ hi n then (k : Int) - 1 else hi n)) (fun _ v => 63 - (intOf v).toNat)
  case atStart => exact ⟨0, -1, rfl, by omega, rfl, Lib.hid (by split <;> omega)⟩
  case round =>
    obtain ⟨k, h, rfl, hk, rfl, HH⟩ := hrel
    by_cases hlt : k < 63
    · have i1 : (k : Int) < 63 := by omega
      have hsh := hi_shift n k
      have hcast : (n : Int) / 2 ^ k = ((n / 2 ^ k : Nat) : Int) := by simp
      by_cases hp : 0 < n / 2 ^ k
      · have H2 : Hid ((k : Int) = if ((k + 1 : Nat) : Int) - 1 ≤ hi n then ((k + 1 : Nat) : Int) - 1 else hi n) := Lib.hid (by have := hsh.1 hp; rw [if_pos (by omega)]; omega)
        have j1 : (0 : Int) < (n : Int) / 2 ^ k := by omega
        have J1 := Lib.hid j1
        clear hsh hcast hp
        go_wp2
        go_round
        case rel => exact ⟨k + 1, k, by go_num, by omega, rfl, H2⟩
        case measure => go_light; simp [intOf] <;> omega
      · have H2 : Hid (h = if ((k + 1 : Nat) : Int) - 1 ≤ hi n then ((k + 1 : Nat) : Int) - 1 else hi n) := Lib.hid (by
          have h5 : ¬ (k : Int) ≤ hi n := fun h6 => hp (hsh.2 h6)
          have h7 := HH.out
          rw [if_neg (by omega)]
          by_cases h8 : (k : Int) - 1 ≤ hi n
          · rw [if_pos h8] at h7; omega
          · rw [if_neg h8] at h7; omega)
        have j1 : ¬ (0 : Int) < (n : Int) / 2 ^ k := by omega
        clear hsh hcast hp
        go_wp2
        go_round
        case rel => exact ⟨k + 1, h, by go_num, by omega, rfl, H2⟩
        case measure => go_light; simp [intOf] <;> omega
    · obtain rfl : k = 63 := by omega
      have HQ : Hid (h = hi n) := Lib.hid (by have h7 := HH.out; rw [if_neg (by omega)] at h7; exact h7)
      go_wp2
      go_ret
      exact ⟨by rw [HQ.out]; rfl, rfl⟩

end Go.Proofs.Ytammacofhdbgcaa
namespace Go.Proofs.Ytammacofhdbgcaa
open Go.RowKit
set_option linter.unusedSimpArgs false
set_option linter.unusedVariables false
open Go.Shelf
attribute [local go_sem] Oper.semAt_some

/-- The gain of a length and a value. -/
def mgain (n v : Int) : Int := 4 * n - hi v.toNat
/-- What Gain returns. -/
def Rgain (n v : Int) : Int × Int := if n < 0 ∨ 1048576 < n ∨ v < 1 ∨ 2147483651 < v then (0, 2) else (mgain n v, 0)

theorem gain_s (n v : Int) (w : World) (h1 : 0 ≤ n) (h2 : n ≤ 1048576) (h3 : 1 ≤ v) (h4 : v ≤ 2147483651) : Calls Try.prog 64 #[.int .i64 n, .int .i64 v] w fun e w' => e = .returned (.int .i64 (mgain n v)) ∧ w' = w := by
  obtain ⟨m, rfl⟩ : ∃ m : Nat, v = (m : Int) := ⟨v.toNat, by omega⟩
  unfold mgain
  rw [Int.toNat_natCast]
  have hm : m < 2 ^ 62 := by omega
  have hb := hi_bd m hm
  have qH := fun w => high_s m w hm
  generalize hi m = h at hb qH
  go_enter Try.func64, Try.ntmps64
  go_wp2_with (go_at_call 90; refine (qH _).mono ?_; rintro e w' ⟨rfl, rfl⟩)
  go_ret
  exact ⟨rfl, rfl⟩

theorem rgain_s (n v : Int) (w : World) (h1 : 0 ≤ n) (h2 : n ≤ 1048576) (h3 : 1 ≤ v) (h4 : v ≤ 2147483651) : Calls Try.prog 60 #[.int .i64 n, .int .i64 v] w fun e w' => e = .returned (.int .i64 (mgain n v)) ∧ w' = w := by
  obtain ⟨m, rfl⟩ : ∃ m : Nat, v = (m : Int) := ⟨v.toNat, by omega⟩
  unfold mgain
  rw [Int.toNat_natCast]
  have hm : m < 2 ^ 62 := by omega
  have hb := hi_bd m hm
  have qH := fun w => rhigh_s m w hm
  generalize hi m = h at hb qH
  go_enter Try.func60, Try.ntmps60
  go_wp2_with (go_at_call 79; refine (qH _).mono ?_; rintro e w' ⟨rfl, rfl⟩)
  go_ret
  exact ⟨rfl, rfl⟩

theorem gain_p (n v : Int) (w : World) : Calls Try.prog 28 #[.int .i64 n, .int .i64 v] w fun e w' => e = .returned (.tuple #[.int .i64 (Rgain n v).1, .int .i64 (Rgain n v).2]) ∧ w' = w := by
  unfold Rgain
  by_cases hg : n < 0 ∨ 1048576 < n ∨ v < 1 ∨ 2147483651 < v
  · rw [if_pos hg]
    have hx : n < 0 ∨ (¬ n < 0 ∧ (1048576 < n ∨ (¬ 1048576 < n ∧ (v < 1 ∨ (¬ v < 1 ∧ 2147483651 < v))))) := by omega
    clear hg
    rcases hx with g1 | ⟨g1, g2 | ⟨g2, g3 | ⟨g3, g4⟩⟩⟩
    all_goals
      go_enter Try.func28, Try.ntmps28
      go_wp2
      go_ret2
      exact ⟨rfl, rfl⟩
  · rw [if_neg hg]
    have g1 : ¬ n < 0 := by omega
    have g2 : ¬ 1048576 < n := by omega
    have g3 : ¬ v < 1 := by omega
    have g4 : ¬ 2147483651 < v := by omega
    have qG := fun w => gain_s n v w (by omega) (by omega) (by omega) (by omega)
    generalize mgain n v = z at qG
    clear hg
    go_enter Try.func28, Try.ntmps28
    go_wp2_with (go_at_call 64; refine (qG _).mono ?_; rintro e w' ⟨rfl, rfl⟩)
    go_ret2
    exact ⟨rfl, rfl⟩

theorem rgain_p (n v : Int) (w : World) : Calls Try.prog 30 #[.int .i64 n, .int .i64 v] w fun e w' => e = .returned (.tuple #[.int .i64 (Rgain n v).1, .int .i64 (Rgain n v).2]) ∧ w' = w := by
  unfold Rgain
  by_cases hg : n < 0 ∨ 1048576 < n ∨ v < 1 ∨ 2147483651 < v
  · rw [if_pos hg]
    have hx : n < 0 ∨ (¬ n < 0 ∧ (1048576 < n ∨ (¬ 1048576 < n ∧ (v < 1 ∨ (¬ v < 1 ∧ 2147483651 < v))))) := by omega
    clear hg
    rcases hx with g1 | ⟨g1, g2 | ⟨g2, g3 | ⟨g3, g4⟩⟩⟩
    all_goals
      go_enter Try.func30, Try.ntmps30
      go_wp2
      go_ret2
      exact ⟨rfl, rfl⟩
  · rw [if_neg hg]
    have g1 : ¬ n < 0 := by omega
    have g2 : ¬ 1048576 < n := by omega
    have g3 : ¬ v < 1 := by omega
    have g4 : ¬ 2147483651 < v := by omega
    have qG := fun w => rgain_s n v w (by omega) (by omega) (by omega) (by omega)
    generalize mgain n v = z at qG
    clear hg
    go_enter Try.func30, Try.ntmps30
    go_wp2_with (go_at_call 60; refine (qG _).mono ?_; rintro e w' ⟨rfl, rfl⟩)
    go_ret2
    exact ⟨rfl, rfl⟩
end Go.Proofs.Ytammacofhdbgcaa
namespace Go.Proofs.Ytammacofhdbgcaa
open Go.RowKit
set_option linter.unusedSimpArgs false
set_option linter.unusedVariables false
open Go.Shelf
attribute [local go_sem] Oper.semAt_some

/-- -1, 0, 1. -/
def cmpi (a b : Int) : Int := if a < b then -1 else if b < a then 1 else 0
theorem cmpi_neg (a b : Int) : cmpi a b < 0 ↔ a < b := by unfold cmpi; split <;> (try split) <;> omega
theorem cmpi_zero (a b : Int) : cmpi a b = 0 ↔ a = b := by unfold cmpi; split <;> (try split) <;> omega

theorem isNaN_s (a : Int) (w : World) : Calls Try.prog 112 #[.int .i64 a] w fun e w' => e = .returned (.bool false) ∧ w' = w := by
  go_enter Try.func112, Try.ntmps112
  go_wp2
  go_ret
  exact ⟨rfl, rfl⟩
theorem cmpi_s (a b : Int) (w : World) : Calls Try.prog 106 #[.int .i64 a, .int .i64 b] w fun e w' => e = .returned (.int .i64 (cmpi a b)) ∧ w' = w := by
  unfold cmpi
  by_cases h1 : a < b
  · rw [if_pos h1]
    go_enter Try.func106, Try.ntmps106
    go_wp2_with (go_at_call 112; refine (isNaN_s _ _).mono ?_; rintro e w' ⟨rfl, rfl⟩)
    go_ret
    exact ⟨rfl, rfl⟩
  · rw [if_neg h1]
    by_cases h2 : b < a
    · rw [if_pos h2]
      go_enter Try.func106, Try.ntmps106
      go_wp2_with (go_at_call 112; refine (isNaN_s _ _).mono ?_; rintro e w' ⟨rfl, rfl⟩)
      go_ret
      exact ⟨rfl, rfl⟩
    · rw [if_neg h2]
      go_enter Try.func106, Try.ntmps106
      go_wp2_with (go_at_call 112; refine (isNaN_s _ _).mono ?_; rintro e w' ⟨rfl, rfl⟩)
      go_ret
      exact ⟨rfl, rfl⟩

theorem fgain_s (ad al av ag bd bl bv bg : Int) (w : World) : Calls Try.prog 87 #[.agg #[.int .i64 ad, .int .i64 al, .int .i64 av, .int .i64 ag], .agg #[.int .i64 bd, .int .i64 bl, .int .i64 bv, .int .i64 bg]] w fun e w' => e = .returned (.int .i64 (cmpi bg ag)) ∧ Below w.heap.size w w' := by
  have q := fun w => cmpi_s bg ag w
  generalize cmpi bg ag = z at q
  go_enter Try.func87, Try.ntmps87
  go_wp2_with (go_at_call 106; refine (q _).mono ?_; rintro e w' ⟨rfl, rfl⟩)
  go_light
  refine bodyPost_ret (v := .int .i64 z) (by simp [results, Try.results87, go_sem, *]) rfl ⟨rfl, ?_⟩
  repeat' (first | exact Below.refl _ _ | refine Below.drew ?_ | refine below_drewN ?_ _ | refine Below.alloc ?_ (by first | omega | (simp <;> omega)) _ | refine Below.setCell ?_ (by first | omega | (simp <;> omega)) _ | refine Below.trans ?_ (Below.mono (by assumption) (by first | omega | (simp <;> omega))))

theorem fvalue_s (ad al av ag bd bl bv bg : Int) (w : World) : Calls Try.prog 88 #[.agg #[.int .i64 ad, .int .i64 al, .int .i64 av, .int .i64 ag], .agg #[.int .i64 bd, .int .i64 bl, .int .i64 bv, .int .i64 bg]] w fun e w' => e = .returned (.int .i64 (cmpi av bv)) ∧ Below w.heap.size w w' := by
  have q := fun w => cmpi_s av bv w
  generalize cmpi av bv = z at q
  go_enter Try.func88, Try.ntmps88
  go_wp2_with (go_at_call 106; refine (q _).mono ?_; rintro e w' ⟨rfl, rfl⟩)
  go_light
  refine bodyPost_ret (v := .int .i64 z) (by simp [results, Try.results88, go_sem, *]) rfl ⟨rfl, ?_⟩
  repeat' (first | exact Below.refl _ _ | refine Below.drew ?_ | refine below_drewN ?_ _ | refine Below.alloc ?_ (by first | omega | (simp <;> omega)) _ | refine Below.setCell ?_ (by first | omega | (simp <;> omega)) _ | refine Below.trans ?_ (Below.mono (by assumption) (by first | omega | (simp <;> omega))))

theorem fdist_s (ad al av ag bd bl bv bg : Int) (w : World) : Calls Try.prog 89 #[.agg #[.int .i64 ad, .int .i64 al, .int .i64 av, .int .i64 ag], .agg #[.int .i64 bd, .int .i64 bl, .int .i64 bv, .int .i64 bg]] w fun e w' => e = .returned (.int .i64 (cmpi ad bd)) ∧ Below w.heap.size w w' := by
  have q := fun w => cmpi_s ad bd w
  generalize cmpi ad bd = z at q
  go_enter Try.func89, Try.ntmps89
  go_wp2_with (go_at_call 106; refine (q _).mono ?_; rintro e w' ⟨rfl, rfl⟩)
  go_light
  refine bodyPost_ret (v := .int .i64 z) (by simp [results, Try.results89, go_sem, *]) rfl ⟨rfl, ?_⟩
  repeat' (first | exact Below.refl _ _ | refine Below.drew ?_ | refine below_drewN ?_ _ | refine Below.alloc ?_ (by first | omega | (simp <;> omega)) _ | refine Below.setCell ?_ (by first | omega | (simp <;> omega)) _ | refine Below.trans ?_ (Below.mono (by assumption) (by first | omega | (simp <;> omega))))

/-- Which of two matches is better: below 0 the first. -/
def mcmp (a b : Int × Int × Int × Int) : Int := if a = b then 0 else if cmpi b.2.2.2 a.2.2.2 ≠ 0 then cmpi b.2.2.2 a.2.2.2 else if cmpi a.2.2.1 b.2.2.1 ≠ 0 then cmpi a.2.2.1 b.2.2.1 else cmpi a.1 b.1
/-- A match is better than another one. -/
def mbet (a b : Int × Int × Int × Int) : Bool := if a.2.2.2 ≠ b.2.2.2 then decide (b.2.2.2 < a.2.2.2) else if a.2.2.1 ≠ b.2.2.1 then decide (a.2.2.1 < b.2.2.1) else decide (a.1 < b.1)
theorem mcmp_bet (a b : Int × Int × Int × Int) : decide (mcmp a b < 0) = mbet a b := by
  obtain ⟨ad, al, av, ag⟩ := a
  obtain ⟨bd, bl, bv, bg⟩ := b
  unfold mcmp mbet
  by_cases h : ((ad, al, av, ag) : Int × Int × Int × Int) = (bd, bl, bv, bg)
  · rw [if_pos h]
    simp only [Prod.mk.injEq] at h
    obtain ⟨rfl, rfl, rfl, rfl⟩ := h
    simp
  · rw [if_neg h]
    dsimp only
    by_cases h1 : cmpi bg ag = 0
    · rw [if_neg (show ¬ (cmpi bg ag ≠ 0) from fun h => h h1)]
      have e1 := (cmpi_zero bg ag).1 h1
      rw [if_neg (show ¬ (ag ≠ bg) from fun h => h e1.symm)]
      by_cases h2 : cmpi av bv = 0
      · rw [if_neg (show ¬ (cmpi av bv ≠ 0) from fun h => h h2)]
        have e2 := (cmpi_zero av bv).1 h2
        rw [if_neg (show ¬ (av ≠ bv) from fun h => h e2)]
        exact decide_eq_decide.2 (cmpi_neg ad bd)
      · rw [if_pos h2]
        have e2 : av ≠ bv := fun e => h2 ((cmpi_zero av bv).2 e)
        rw [if_pos e2]
        exact decide_eq_decide.2 (cmpi_neg av bv)
    · rw [if_pos h1]
      have e1 : ag ≠ bg := fun e => h1 ((cmpi_zero bg ag).2 e.symm)
      rw [if_pos e1]
      exact decide_eq_decide.2 (cmpi_neg bg ag)
theorem eq32 (w : World) (ad al av ag bd bl bv bg : Int) : (Op.equalIn 10000 32 (.agg #[.int .i64 ad, .int .i64 al, .int .i64 av, .int .i64 ag]) (.agg #[.int .i64 bd, .int .i64 bl, .int .i64 bv, .int .i64 bg])).run Try.prog w = .ok (ad == bd && al == bl && av == bv && ag == bg) w := by
  by_cases h1 : ad = bd
  · by_cases h2 : al = bl
    · by_cases h3 : av = bv
      · by_cases h4 : ag = bg <;> simp [go_sem, h1, h2, h3, h4]
      · simp [go_sem, h1, h2, h3]
    · simp [go_sem, h1, h2]
  · simp [go_sem, h1]
set_option maxHeartbeats 2000000 in
theorem compare_0 (ad al av ag : Int) (w : World) : Calls Try.prog 63 #[.agg #[.int .i64 ad, .int .i64 al, .int .i64 av, .int .i64 ag], .agg #[.int .i64 ad, .int .i64 al, .int .i64 av, .int .i64 ag]] w fun e w' => e = .returned (.int .i64 0) ∧ Below w.heap.size w w' := by
  go_enter Try.func63, Try.ntmps63
  go_wp2
  go_light
  refine bodyPost_ret (v := .int .i64 0) (by simp [results, Try.results63, go_sem, *]) rfl ⟨rfl, ?_⟩
  repeat' (first | exact Below.refl _ _ | refine Below.drew ?_ | refine below_drewN ?_ _ | refine Below.alloc ?_ (by first | omega | (simp <;> omega)) _ | refine Below.setCell ?_ (by first | omega | (simp <;> omega)) _ | refine Below.trans ?_ (Below.mono (by assumption) (by first | omega | (simp <;> omega))))
theorem fidx0 (w : World) : (Instr.index 129 (.agg #[.func (.func 87) #[] #[], .func (.func 88) #[] #[], .func (.func 89) #[] #[]]) (.int .i64 0)).run Try.prog w = .ok (.func (.func 87) #[] #[]) w := by kernel_rfl
theorem fidx1 (w : World) : (Instr.index 129 (.agg #[.func (.func 87) #[] #[], .func (.func 88) #[] #[], .func (.func 89) #[] #[]]) (.int .i64 1)).run Try.prog w = .ok (.func (.func 88) #[] #[]) w := by kernel_rfl
theorem fidx2 (w : World) : (Instr.index 129 (.agg #[.func (.func 87) #[] #[], .func (.func 88) #[] #[], .func (.func 89) #[] #[]]) (.int .i64 2)).run Try.prog w = .ok (.func (.func 89) #[] #[]) w := by kernel_rfl
attribute [local go_sem] fidx0 fidx1 fidx2
set_option maxRecDepth 100000 in
set_option maxHeartbeats 2000000 in
theorem compare_1 (ad al av ag bd bl bv bg z1 z2 z3 : Int) (w : World) (hne : (ad == bd && al == bl && av == bv && ag == bg) = false)
    (q1 : ∀ w, Calls Try.prog 87 #[.agg #[.int .i64 ad, .int .i64 al, .int .i64 av, .int .i64 ag], .agg #[.int .i64 bd, .int .i64 bl, .int .i64 bv, .int .i64 bg]] w fun e w' => e = .returned (.int .i64 z1) ∧ Below w.heap.size w w')
    (q2 : ∀ w, Calls Try.prog 88 #[.agg #[.int .i64 ad, .int .i64 al, .int .i64 av, .int .i64 ag], .agg #[.int .i64 bd, .int .i64 bl, .int .i64 bv, .int .i64 bg]] w fun e w' => e = .returned (.int .i64 z2) ∧ Below w.heap.size w w')
    (q3 : ∀ w, Calls Try.prog 89 #[.agg #[.int .i64 ad, .int .i64 al, .int .i64 av, .int .i64 ag], .agg #[.int .i64 bd, .int .i64 bl, .int .i64 bv, .int .i64 bg]] w fun e w' => e = .returned (.int .i64 z3) ∧ Below w.heap.size w w') :
    Calls Try.prog 63 #[.agg #[.int .i64 ad, .int .i64 al, .int .i64 av, .int .i64 ag], .agg #[.int .i64 bd, .int .i64 bl, .int .i64 bv, .int .i64 bg]] w fun e w' => e = .returned (.int .i64 (if z1 ≠ 0 then z1 else if z2 ≠ 0 then z2 else z3)) ∧ Below w.heap.size w w' := by
  have hx : (z1 ≠ 0 ∧ (z1 != 0) = true) ∨ (z1 = 0 ∧ ((z2 ≠ 0 ∧ (z2 != 0) = true) ∨ (z2 = 0 ∧ ((z3 ≠ 0 ∧ (z3 != 0) = true) ∨ z3 = 0)))) := by
    simp only [bne_iff_ne, ne_eq]
    omega
  have heq : ∀ w, (Op.equalIn 10000 32 (.agg #[.int .i64 ad, .int .i64 al, .int .i64 av, .int .i64 ag]) (.agg #[.int .i64 bd, .int .i64 bl, .int .i64 bv, .int .i64 bg])).run Try.prog w = .ok false w := fun w => by rw [eq32, hne]
  clear hne
  rcases hx with ⟨h1, g1⟩ | ⟨rfl, ⟨h2, g2⟩ | ⟨rfl, ⟨h3, g3⟩ | rfl⟩⟩
  all_goals
    go_enter Try.func63, Try.ntmps63
    go_wp2
    refine wp_loop_rounds 4 ?_
    repeat' (rw [rounds_succ]; go_wp2_with (first | (go_at_call 87; refine (q1 _).mono ?_; rintro e w1 ⟨rfl, hb⟩; have hsz := hb.size; (try simp at hsz); (first | (have hbl := blater2 HA (by first | exact Nat.le_refl _ | (simp; done) | (simp; omega)) hb; obtain ⟨hcc, hff, HA, hne, hne'⟩ := hbl) | (obtain ⟨hcc, hff, HA, hne, hne'⟩ := blater1 hb)); (try simp only [World.size_alloc, World.size_setCell] at HA)) | (go_at_call 88; refine (q2 _).mono ?_; rintro e w1 ⟨rfl, hb⟩; have hsz := hb.size; (try simp at hsz); (first | (have hbl := blater2 HA (by first | exact Nat.le_refl _ | (simp; done) | (simp; omega)) hb; obtain ⟨hcc, hff, HA, hne, hne'⟩ := hbl) | (obtain ⟨hcc, hff, HA, hne, hne'⟩ := blater1 hb)); (try simp only [World.size_alloc, World.size_setCell] at HA)) | (go_at_call 89; refine (q3 _).mono ?_; rintro e w1 ⟨rfl, hb⟩; have hsz := hb.size; (try simp at hsz); (first | (have hbl := blater2 HA (by first | exact Nat.le_refl _ | (simp; done) | (simp; omega)) hb; obtain ⟨hcc, hff, HA, hne, hne'⟩ := hbl) | (obtain ⟨hcc, hff, HA, hne, hne'⟩ := blater1 hb)); (try simp only [World.size_alloc, World.size_setCell] at HA))))
    go_light
    first
      | (refine bodyPost_ret (v := .int .i64 z1) (by simp [results, Try.results63, go_sem, *]) rfl ⟨rfl, ?_⟩; repeat' (first | exact Below.refl _ _ | refine Below.drew ?_ | refine below_drewN ?_ _ | refine Below.alloc ?_ (by first | omega | (simp <;> omega)) _ | refine Below.setCell ?_ (by first | omega | (simp <;> omega)) _ | refine Below.trans ?_ (Below.mono (by assumption) (by first | omega | (simp <;> omega)))))
      | (refine bodyPost_ret (v := .int .i64 z2) (by simp [results, Try.results63, go_sem, *]) rfl ⟨rfl, ?_⟩; repeat' (first | exact Below.refl _ _ | refine Below.drew ?_ | refine below_drewN ?_ _ | refine Below.alloc ?_ (by first | omega | (simp <;> omega)) _ | refine Below.setCell ?_ (by first | omega | (simp <;> omega)) _ | refine Below.trans ?_ (Below.mono (by assumption) (by first | omega | (simp <;> omega)))))
      | (refine bodyPost_ret (v := .int .i64 z3) (by simp [results, Try.results63, go_sem, *]) rfl ⟨rfl, ?_⟩; repeat' (first | exact Below.refl _ _ | refine Below.drew ?_ | refine below_drewN ?_ _ | refine Below.alloc ?_ (by first | omega | (simp <;> omega)) _ | refine Below.setCell ?_ (by first | omega | (simp <;> omega)) _ | refine Below.trans ?_ (Below.mono (by assumption) (by first | omega | (simp <;> omega)))))
      | (refine bodyPost_ret (v := .int .i64 0) (by simp [results, Try.results63, go_sem, *]) rfl ⟨rfl, ?_⟩; repeat' (first | exact Below.refl _ _ | refine Below.drew ?_ | refine below_drewN ?_ _ | refine Below.alloc ?_ (by first | omega | (simp <;> omega)) _ | refine Below.setCell ?_ (by first | omega | (simp <;> omega)) _ | refine Below.trans ?_ (Below.mono (by assumption) (by first | omega | (simp <;> omega)))))
theorem compare_p (a b : Int × Int × Int × Int) (w : World) : Calls Try.prog 63 #[.agg #[.int .i64 a.1, .int .i64 a.2.1, .int .i64 a.2.2.1, .int .i64 a.2.2.2], .agg #[.int .i64 b.1, .int .i64 b.2.1, .int .i64 b.2.2.1, .int .i64 b.2.2.2]] w fun e w' => e = .returned (.int .i64 (mcmp a b)) ∧ Below w.heap.size w w' := by
  obtain ⟨ad, al, av, ag⟩ := a
  obtain ⟨bd, bl, bv, bg⟩ := b
  unfold mcmp
  by_cases h : ((ad, al, av, ag) : Int × Int × Int × Int) = (bd, bl, bv, bg)
  · rw [if_pos h]
    simp only [Prod.mk.injEq] at h
    obtain ⟨rfl, rfl, rfl, rfl⟩ := h
    exact compare_0 ad al av ag w
  · rw [if_neg h]
    exact compare_1 ad al av ag bd bl bv bg _ _ _ w (by simpa [Prod.mk.injEq] using h) (fun w => fgain_s _ _ _ _ _ _ _ _ w) (fun w => fvalue_s _ _ _ _ _ _ _ _ w) (fun w => fdist_s _ _ _ _ _ _ _ _ w)
theorem better_p (a b : Int × Int × Int × Int) (w : World) : Calls Try.prog 26 #[.agg #[.int .i64 a.1, .int .i64 a.2.1, .int .i64 a.2.2.1, .int .i64 a.2.2.2], .agg #[.int .i64 b.1, .int .i64 b.2.1, .int .i64 b.2.2.1, .int .i64 b.2.2.2]] w fun e w' => e = .returned (.bool (mbet a b)) ∧ Below w.heap.size w w' := by
  have q := fun w => compare_p a b w
  rw [← mcmp_bet]
  generalize mcmp a b = z at q
  go_enter Try.func26, Try.ntmps26
  go_wp2_with ((go_at_call 63; refine (q _).mono ?_; rintro e w1 ⟨rfl, hb⟩; have hsz := hb.size; (try simp at hsz); (first | (have hbl := blater2 HA (by first | exact Nat.le_refl _ | (simp; done) | (simp; omega)) hb; obtain ⟨hcc, hff, HA, hne, hne'⟩ := hbl) | (obtain ⟨hcc, hff, HA, hne, hne'⟩ := blater1 hb)); (try simp only [World.size_alloc, World.size_setCell] at HA)))
  go_light
  refine bodyPost_ret (v := .bool (decide (z < 0))) (by simp [results, Try.results26, go_sem, *]) rfl ⟨rfl, ?_⟩
  repeat' (first | exact Below.refl _ _ | refine Below.drew ?_ | refine below_drewN ?_ _ | refine Below.alloc ?_ (by first | omega | (simp <;> omega)) _ | refine Below.setCell ?_ (by first | omega | (simp <;> omega)) _ | refine Below.trans ?_ (Below.mono (by assumption) (by first | omega | (simp <;> omega))))
end Go.Proofs.Ytammacofhdbgcaa
namespace Go.Proofs.Ytammacofhdbgcaa
open Go.RowKit
set_option linter.unusedSimpArgs false
set_option linter.unusedVariables false
open Go.Shelf
attribute [local go_sem] Oper.semAt_some

theorem rbetter_0 (ad al av ag bd bl bv bg : Int) (w : World) : Calls Try.prog 33 #[.agg #[.int .i64 ad, .int .i64 al, .int .i64 av, .int .i64 ag], .agg #[.int .i64 bd, .int .i64 bl, .int .i64 bv, .int .i64 bg]] w fun e w' => e = .returned (.bool (mbet (ad, al, av, ag) (bd, bl, bv, bg))) ∧ Below w.heap.size w w' := by
  unfold mbet
  dsimp only
  by_cases h1 : ag = bg
  · rw [if_neg (show ¬ (ag ≠ bg) from fun h => h h1)]
    have g1 : (ag != bg) = false := by simpa using h1
    by_cases h2 : av = bv
    · rw [if_neg (show ¬ (av ≠ bv) from fun h => h h2)]
      have g2 : (av != bv) = false := by simpa using h2
      clear h1 h2
      go_enter Try.func33, Try.ntmps33
      go_wp2
      all_goals (try rw [Exit.noGoto_ret])
      all_goals go_light
      refine bodyPost_ret (v := .bool (decide (ad < bd))) (by simp [results, Try.results33, go_sem, *]) rfl ⟨rfl, ?_⟩
      repeat' (first | exact Below.refl _ _ | refine Below.drew ?_ | refine below_drewN ?_ _ | refine Below.alloc ?_ (by first | omega | (simp <;> omega)) _ | refine Below.setCell ?_ (by first | omega | (simp <;> omega)) _ | refine Below.trans ?_ (Below.mono (by assumption) (by first | omega | (simp <;> omega))))
    · rw [if_pos (show av ≠ bv from h2)]
      have g2 : (av != bv) = true := by simpa using h2
      clear h1 h2
      go_enter Try.func33, Try.ntmps33
      go_wp2
      all_goals (try rw [Exit.noGoto_ret])
      all_goals go_light
      refine bodyPost_ret (v := .bool (decide (av < bv))) (by simp [results, Try.results33, go_sem, *]) rfl ⟨rfl, ?_⟩
      repeat' (first | exact Below.refl _ _ | refine Below.drew ?_ | refine below_drewN ?_ _ | refine Below.alloc ?_ (by first | omega | (simp <;> omega)) _ | refine Below.setCell ?_ (by first | omega | (simp <;> omega)) _ | refine Below.trans ?_ (Below.mono (by assumption) (by first | omega | (simp <;> omega))))
  · rw [if_pos (show ag ≠ bg from h1)]
    have g1 : (ag != bg) = true := by simpa using h1
    clear h1
    go_enter Try.func33, Try.ntmps33
    go_wp2
    all_goals (try rw [Exit.noGoto_ret])
    all_goals go_light
    refine bodyPost_ret (v := .bool (decide (bg < ag))) (by simp [results, Try.results33, go_sem, *]) rfl ⟨rfl, ?_⟩
    repeat' (first | exact Below.refl _ _ | refine Below.drew ?_ | refine below_drewN ?_ _ | refine Below.alloc ?_ (by first | omega | (simp <;> omega)) _ | refine Below.setCell ?_ (by first | omega | (simp <;> omega)) _ | refine Below.trans ?_ (Below.mono (by assumption) (by first | omega | (simp <;> omega))))

theorem rbetter_p (a b : Int × Int × Int × Int) (w : World) : Calls Try.prog 33 #[.agg #[.int .i64 a.1, .int .i64 a.2.1, .int .i64 a.2.2.1, .int .i64 a.2.2.2], .agg #[.int .i64 b.1, .int .i64 b.2.1, .int .i64 b.2.2.1, .int .i64 b.2.2.2]] w fun e w' => e = .returned (.bool (mbet a b)) ∧ Below w.heap.size w w' := by
  obtain ⟨ad, al, av, ag⟩ := a
  obtain ⟨bd, bl, bv, bg⟩ := b
  exact rbetter_0 ad al av ag bd bl bv bg w
/-- The slice's address leads to a row of matches: distance, length, value, gain. -/
def RowM (w : World) (a : Option Addr) (ms : List (Int × Int × Int × Int)) : Prop :=
  ms = [] ∨ ∃ b off, a = some ⟨b, off, none⟩ ∧ b < w.heap.size ∧ ∀ i, i < ms.length → w.cell? ⟨b, off + i * 4, none⟩ = some (.int .i64 (ms.getD i (0, 0, 0, 0)).1) ∧ w.cell? ⟨b, off + i * 4 + 1, none⟩ = some (.int .i64 (ms.getD i (0, 0, 0, 0)).2.1) ∧ w.cell? ⟨b, off + i * 4 + 2, none⟩ = some (.int .i64 (ms.getD i (0, 0, 0, 0)).2.2.1) ∧ w.cell? ⟨b, off + i * 4 + 3, none⟩ = some (.int .i64 (ms.getD i (0, 0, 0, 0)).2.2.2)
theorem RowM.later {w w' : World} {a : Option Addr} {ms : List (Int × Int × Int × Int)} (h : RowM w a ms) (hb : Below w.heap.size w w') : RowM w' a ms := by
  rcases h with h | ⟨b, off, ha, hlt, hc⟩
  · exact .inl h
  · refine .inr ⟨b, off, ha, Nat.lt_of_lt_of_le hlt hb.size, fun i hi => ?_⟩
    obtain ⟨h1, h2, h3, h4⟩ := hc i hi
    exact ⟨(hb.cell (p := ⟨b, off + i * 4, none⟩) hlt).trans h1, (hb.cell (p := ⟨b, off + i * 4 + 1, none⟩) hlt).trans h2, (hb.cell (p := ⟨b, off + i * 4 + 2, none⟩) hlt).trans h3, (hb.cell (p := ⟨b, off + i * 4 + 3, none⟩) hlt).trans h4⟩
theorem RowM.at {w : World} {a : Option Addr} {ms : List (Int × Int × Int × Int)} (h : RowM w a ms) {i : Nat} (hi : i < ms.length) :
    ∃ b off, a = some ⟨b, off, none⟩ ∧ b < w.heap.size ∧ ∀ i, i < ms.length → w.cell? ⟨b, off + i * 4, none⟩ = some (.int .i64 (ms.getD i (0, 0, 0, 0)).1) ∧ w.cell? ⟨b, off + i * 4 + 1, none⟩ = some (.int .i64 (ms.getD i (0, 0, 0, 0)).2.1) ∧ w.cell? ⟨b, off + i * 4 + 2, none⟩ = some (.int .i64 (ms.getD i (0, 0, 0, 0)).2.2.1) ∧ w.cell? ⟨b, off + i * 4 + 3, none⟩ = some (.int .i64 (ms.getD i (0, 0, 0, 0)).2.2.2) := by
  rcases h with h | h
  · subst h; simp at hi
  · exact h
/-- The best of the first so many. -/
def mbF (ms : List (Int × Int × Int × Int)) : Nat → Int × Int × Int × Int
  | 0 => ms.getD 0 (0, 0, 0, 0)
  | k + 1 => if mbet (ms.getD k (0, 0, 0, 0)) (mbF ms k) then ms.getD k (0, 0, 0, 0) else mbF ms k
/-- The best of some. -/
def mbest (ms : List (Int × Int × Int × Int)) : Int × Int × Int × Int := mbF ms ms.length
theorem mbF_one (ms : List (Int × Int × Int × Int)) : mbF ms 1 = ms.getD 0 (0, 0, 0, 0) := by
  unfold mbF
  unfold mbF
  split <;> rfl

theorem rbest_0 (a : Option Addr) (cap : Nat) (w : World) : Calls Try.prog 31 #[.slice a 0 cap] w fun e w' => e = .returned (.tuple #[.agg #[.int .i64 0, .int .i64 0, .int .i64 0, .int .i64 0], .bool false]) ∧ Below w.heap.size w w' := by
  go_enter Try.func31, Try.ntmps31
  go_wp2
  go_light
  refine bodyPost_ret (v := .tuple #[.agg #[.int .i64 0, .int .i64 0, .int .i64 0, .int .i64 0], .bool false]) (by simp [results, Try.results31, go_sem, *]) rfl ⟨rfl, ?_⟩
  repeat' (first | exact Below.refl _ _ | refine Below.drew ?_ | refine below_drewN ?_ _ | refine Below.alloc ?_ (by first | omega | (simp <;> omega)) _ | refine Below.setCell ?_ (by first | omega | (simp <;> omega)) _ | refine Below.trans ?_ (Below.mono (by assumption) (by first | omega | (simp <;> omega))))
end Go.Proofs.Ytammacofhdbgcaa
namespace Go.Proofs.Ytammacofhdbgcaa
open Go.RowKit
set_option linter.unusedSimpArgs false
set_option linter.unusedVariables false
open Go.Shelf
attribute [local go_sem] Oper.semAt_some

/-- A match in a box. -/
def MBox (w : World) (b : Nat) (m : Int × Int × Int × Int) : Prop :=
  w.cell? ⟨b, 0, none⟩ = some (.int .i64 m.1) ∧ w.cell? ⟨b, 1, none⟩ = some (.int .i64 m.2.1) ∧ w.cell? ⟨b, 2, none⟩ = some (.int .i64 m.2.2.1) ∧ w.cell? ⟨b, 3, none⟩ = some (.int .i64 m.2.2.2) ∧ ∀ j, w.frozen? ⟨b, j, none⟩ = false
theorem cell_lt_m {w : World} {a : Addr} {v : Value} (h : w.cell? a = some v) : a.block < w.heap.size := by
  unfold World.cell? at h
  cases ho : w.heap[a.block]? with
  | none => simp [ho] at h
  | some o => exact (Array.getElem?_eq_some_iff.1 ho).1
theorem MBox.below {w w' : World} {B b : Nat} {m : Int × Int × Int × Int} (h : MBox w b m) (hb : Below B w w') (hl : b < B) : MBox w' b m := by
  obtain ⟨h1, h2, h3, h4, h5⟩ := h
  exact ⟨(hb.cell (p := ⟨b, 0, none⟩) hl).trans h1, (hb.cell (p := ⟨b, 1, none⟩) hl).trans h2, (hb.cell (p := ⟨b, 2, none⟩) hl).trans h3, (hb.cell (p := ⟨b, 3, none⟩) hl).trans h4, fun j => (hb.frozen (p := ⟨b, j, none⟩) hl).trans (h5 j)⟩
theorem MBox.later {w w' : World} {b : Nat} {m : Int × Int × Int × Int} (h : MBox w b m) (hb : Below w.heap.size w w') : MBox w' b m := h.below hb (cell_lt_m h.1)
set_option maxRecDepth 100000 in
set_option maxHeartbeats 4000000 in
theorem rbest_1 (a : Option Addr) (ms : List (Int × Int × Int × Int)) (cap : Nat) (w : World) (ha : RowM w a ms) (hl : ms.length ≤ 9223372036854775807) (hn : 0 < ms.length) :
    Calls Try.prog 31 #[.slice a ms.length cap] w fun e w' => e = .returned (.tuple #[.agg #[.int .i64 (mbest ms).1, .int .i64 (mbest ms).2.1, .int .i64 (mbest ms).2.2.1, .int .i64 (mbest ms).2.2.2], .bool true]) ∧ Below w.heap.size w w' := by
  obtain ⟨⟨fd, fl, fv, fg⟩, hMB⟩ : ∃ m, mbest ms = m := ⟨_, rfl⟩
  rw [hMB]
  have HMB := Lib.hid hMB
  clear hMB
  dsimp only
  have hn0 : ((ms.length : Int) == 0) = false := by
    have : (ms.length : Int) ≠ 0 := by omega
    simpa using this
  obtain ⟨b1, o1, rfl, hb1, hc1⟩ := ha.at hn
  obtain ⟨c0, c1, c2, c3⟩ := hc1 0 hn
  have h1 := mbF_one ms
  obtain ⟨⟨xd, xl, xv, xg⟩, hx⟩ : ∃ q, ms.getD 0 (0, 0, 0, 0) = q := ⟨_, rfl⟩
  rw [hx] at c0 c1 c2 c3 h1
  dsimp only at c0 c1 c2 c3
  simp only [Nat.zero_mul, Nat.add_zero] at c0 c1 c2 c3
  have i1 : (0 : Int) < (ms.length : Int) := by omega
  have H1 := Lib.hid h1
  have hc : w.heap.size ≠ b1 := by omega
  have hc' : ¬ b1 = w.heap.size := by omega
  clear hc1 hx h1
  go_enter Try.func31, Try.ntmps31
  go_wp2
  obtain ⟨W0, hW0⟩ : ∃ W0, (w.alloc (.cells #[.int .i64 0, .int .i64 0, .int .i64 0, .int .i64 0] 32)).alloc (.cells #[.int .i64 xd, .int .i64 xl, .int .i64 xv, .int .i64 xg] 32) = W0 := ⟨_, rfl⟩
  have hR : MBox W0 w.heap.size (0, 0, 0, 0) := by rw [← hW0]; exact ⟨by simp [go_sem], by simp [go_sem], by simp [go_sem], by simp [go_sem], fun j => by simp [go_sem]⟩
  have hM : MBox W0 (w.heap.size + 1) (mbF ms 1) := by rw [← hW0, H1.out]; exact ⟨by simp [go_sem], by simp [go_sem], by simp [go_sem], by simp [go_sem], fun j => by simp [go_sem]⟩
  have B0 : Below w.heap.size w W0 := by rw [← hW0]; repeat' (first | exact Below.refl _ _ | refine Below.drew ?_ | refine below_drewN ?_ _ | refine Below.alloc ?_ (by first | omega | (simp <;> omega)) _ | refine Below.setCell ?_ (by first | omega | (simp <;> omega)) _ | refine Below.trans ?_ (Below.mono (by assumption) (by first | omega | (simp <;> omega))))
  obtain ⟨bM, hbM⟩ : ∃ x, w.heap.size + 1 = x := ⟨_, rfl⟩
  obtain ⟨bR, hbR⟩ : ∃ x, w.heap.size = x := ⟨_, rfl⟩
  rw [hW0]
  rw [hbM] at hM ⊢
  have HA := Lib.hid ha
  have HBR := Lib.hid hbR
  have hbM2 : bM = bR + 1 := by omega
  rw [hbR] at hR B0 ⊢
  have HBM := Lib.hid hbM2
  clear hW0 c0 c1 c2 c3 hc hc' H1 hbM hbR hbM2 ha i1 hn0
  go_loopw [5] (fun v wr => ∃ k : Nat, v = .int .i64 (k : Int) ∧ 1 ≤ k ∧ k ≤ ms.length ∧ MBox wr bM (mbF ms k) ∧ MBox wr bR (0, 0, 0, 0) ∧ Below bR w wr) (fun v _ => ms.length - (intOf v).toNat)
  case atStart => exact ⟨1, rfl, by omega, by omega, hM, hR, B0⟩
  case round =>
    clear hM hR B0
    obtain ⟨k, rfl, hk1, hk, hM, hR, hb⟩ := hrel
    have hbm := HBM.out
    have n1 : ¬ bM = bR := by omega
    have n2 : ¬ bR = bM := by omega
    have lM := cell_lt_m hM.1
    have lR := cell_lt_m hR.1
    dsimp only at lM lR
    by_cases hlt : k < ms.length
    · obtain ⟨b2, o2, he2, hb2, hc2⟩ := (HA.out.later (by rw [HBR.out]; exact hb)).at hlt
      cases he2
      have n3 : ¬ b1 = bM := by have := HBR.out; omega
      have n4 : ¬ bM = b1 := fun h => n3 h.symm
      obtain ⟨c0, c1, c2, c3⟩ := hc2 k hlt
      have hsu : mbF ms (k + 1) = if mbet (ms.getD k (0, 0, 0, 0)) (mbF ms k) then ms.getD k (0, 0, 0, 0) else mbF ms k := rfl
      obtain ⟨⟨xd, xl, xv, xg⟩, hx⟩ : ∃ q, ms.getD k (0, 0, 0, 0) = q := ⟨_, rfl⟩
      obtain ⟨⟨md, ml, mv, mg⟩, hm⟩ : ∃ q, mbF ms k = q := ⟨_, rfl⟩
      rw [hx] at c0 c1 c2 c3 hsu
      rw [hm] at hM hsu
      have HM := Lib.hid hM
      have HR := Lib.hid hR
      obtain ⟨m0, m1, m2, m3, m4⟩ := hM
      dsimp only at c0 c1 c2 c3 m0 m1 m2 m3
      have qB := fun w => rbetter_0 xd xl xv xg md ml mv mg w
      obtain ⟨z, hz⟩ : ∃ z, mbet (xd, xl, xv, xg) (md, ml, mv, mg) = z := ⟨_, rfl⟩
      rw [hz] at qB hsu
      have HSU := Lib.hid hsu
      have i0 : (0 : Int) ≤ (k : Int) := by omega
      have i1 : (k : Int) < (ms.length : Int) := by omega
      clear hc2 hx hm hz hsu hR hbm
      go_wp2
      go_region_held3 (fun w' => w'.cell? ⟨b1, o1 + k * 4, none⟩ = some (.int .i64 xd) ∧ w'.cell? ⟨b1, o1 + k * 4 + 1, none⟩ = some (.int .i64 xl) ∧ w'.cell? ⟨b1, o1 + k * 4 + 2, none⟩ = some (.int .i64 xv) ∧ w'.cell? ⟨b1, o1 + k * 4 + 3, none⟩ = some (.int .i64 xg) ∧ w'.cell? ⟨bM, 0, none⟩ = some (.int .i64 md) ∧ w'.cell? ⟨bM, 1, none⟩ = some (.int .i64 ml) ∧ w'.cell? ⟨bM, 2, none⟩ = some (.int .i64 mv) ∧ w'.cell? ⟨bM, 3, none⟩ = some (.int .i64 mg)) (first | (simp [go_sem, *]; done) | go_keep) ((go_at_call 33; refine (qB _).mono ?_; rintro e w3 ⟨rfl, hb6⟩; have hs6 := hb6.size; (try simp at hs6); have y0 : w3.cell? ⟨b1, o1 + k * 4, none⟩ = some (.int .i64 xd) := (hb6.cell (p := ⟨b1, o1 + k * 4, none⟩) (by simp; omega)).trans (by simp [go_sem, c0]); have y1 : w3.cell? ⟨b1, o1 + k * 4 + 1, none⟩ = some (.int .i64 xl) := (hb6.cell (p := ⟨b1, o1 + k * 4 + 1, none⟩) (by simp; omega)).trans (by simp [go_sem, c1]); have y2 : w3.cell? ⟨b1, o1 + k * 4 + 2, none⟩ = some (.int .i64 xv) := (hb6.cell (p := ⟨b1, o1 + k * 4 + 2, none⟩) (by simp; omega)).trans (by simp [go_sem, c2]); have y3 : w3.cell? ⟨b1, o1 + k * 4 + 3, none⟩ = some (.int .i64 xg) := (hb6.cell (p := ⟨b1, o1 + k * 4 + 3, none⟩) (by simp; omega)).trans (by simp [go_sem, c3]); have z0 : w3.cell? ⟨bM, 0, none⟩ = some (.int .i64 md) := (hb6.cell (p := ⟨bM, 0, none⟩) (by simp; omega)).trans (by simp [go_sem, m0]); have z1 : w3.cell? ⟨bM, 1, none⟩ = some (.int .i64 ml) := (hb6.cell (p := ⟨bM, 1, none⟩) (by simp; omega)).trans (by simp [go_sem, m1]); have z2 : w3.cell? ⟨bM, 2, none⟩ = some (.int .i64 mv) := (hb6.cell (p := ⟨bM, 2, none⟩) (by simp; omega)).trans (by simp [go_sem, m2]); have z3 : w3.cell? ⟨bM, 3, none⟩ = some (.int .i64 mg) := (hb6.cell (p := ⟨bM, 3, none⟩) (by simp; omega)).trans (by simp [go_sem, m3])))
      have hbw : Below wr.heap.size wr w3 := by repeat' (first | exact Below.refl _ _ | refine Below.drew ?_ | refine below_drewN ?_ _ | refine Below.alloc ?_ (by first | omega | (simp <;> omega)) _ | refine Below.setCell ?_ (by first | omega | (simp <;> omega)) _ | refine Below.trans ?_ (Below.mono (by assumption) (by first | omega | (simp <;> omega))))
      have hM3 := HM.out.later hbw
      have hR3 := HR.out.later hbw
      have hB3 := hb.trans (hbw.mono (by have := hb.size; omega))
      obtain ⟨f0, f1, f2, f3, f4⟩ := hM3
      have f40 := f4 0
      have f41 := f4 1
      have f42 := f4 2
      have f43 := f4 3
      have hz3 : bR < w3.heap.size ∧ bM < w3.heap.size := ⟨cell_lt_m hR3.1, cell_lt_m f0⟩
      have HM3 := Lib.hid (show MBox w3 bM (md, ml, mv, mg) from ⟨f0, f1, f2, f3, f4⟩)
      have HR3 := Lib.hid hR3
      dsimp only at f0 f1 f2 f3
      clear m0 m1 m2 m3 m4 c0 c1 c2 c3 HM HR hb6 hbw hR3
      cases z
      · go_wp2
        go_roundw
        case rel => exact ⟨k + 1, by go_num, by omega, by omega, by rw [HSU.out]; exact HM3.out, HR3.out, hB3⟩
        case measure => go_light; simp [intOf] <;> omega
      · go_wp2
        go_roundw
        case rel =>
          refine ⟨k + 1, by go_num, by omega, by omega, ?_, ?_, ((((hB3.setCell (by have := HBM.out; simp; omega) _).setCell (by have := HBM.out; simp; omega) _).setCell (by have := HBM.out; simp; omega) _).setCell (by have := HBM.out; simp; omega) _)⟩
          · rw [HSU.out]
            exact ⟨by simp [go_sem, *], by simp [go_sem, *], by simp [go_sem, *], by simp [go_sem, *], fun j => by simp [go_sem, *]⟩
          · obtain ⟨g0, g1, g2, g3, g4⟩ := HR3.out
            exact ⟨by simp [go_sem, n1, n2, g0], by simp [go_sem, n1, n2, g1], by simp [go_sem, n1, n2, g2], by simp [go_sem, n1, n2, g3], fun j => by simp [go_sem, n1, n2, g4]⟩
        case measure => go_light; simp [intOf] <;> omega
    · obtain rfl : k = ms.length := by omega
      have HM := Lib.hid hM
      obtain ⟨m0, m1, m2, m3, m4⟩ := hM
      obtain ⟨g0, g1, g2, g3, g4⟩ := hR
      have g40 := g4 0
      have g41 := g4 1
      have g42 := g4 2
      have g43 := g4 3
      have hq : mbF ms ms.length = (fd, fl, fv, fg) := HMB.out
      rw [hq] at m0 m1 m2 m3
      clear hq HM HMB hbm
      dsimp only at m0 m1 m2 m3 g0 g1 g2 g3
      go_wp2
      go_light
      refine bodyPost_ret (v := .tuple #[.agg #[.int .i64 fd, .int .i64 fl, .int .i64 fv, .int .i64 fg], .bool true]) (by simp [results, Try.results31, go_sem, *]) rfl ⟨rfl, ?_⟩
      rw [HBR.out]
      repeat' (first | exact Below.refl _ _ | refine Below.drew ?_ | refine below_drewN ?_ _ | refine Below.alloc ?_ (by first | omega | (simp <;> omega)) _ | refine Below.setCell ?_ (by first | omega | (simp <;> omega)) _ | refine Below.trans ?_ (Below.mono (by assumption) (by first | omega | (simp <;> omega))))
end Go.Proofs.Ytammacofhdbgcaa
namespace Go.Proofs.Ytammacofhdbgcaa
open Go.RowKit
set_option linter.unusedSimpArgs false
set_option linter.unusedVariables false
open Go.Shelf
attribute [local go_sem] Oper.semAt_some

/-- The best of so many, nothing of none. -/
def mbZ (ms : List (Int × Int × Int × Int)) (k : Nat) : Int × Int × Int × Int := if k = 0 then (0, 0, 0, 0) else mbF ms k
set_option maxRecDepth 100000 in
set_option maxHeartbeats 4000000 in
theorem best_s (a : Option Addr) (ms : List (Int × Int × Int × Int)) (cap : Nat) (w : World) (ha : RowM w a ms) (hl : ms.length ≤ 9223372036854775807) :
    Calls Try.prog 62 #[.slice a ms.length cap, .func (.func 63) #[] #[]] w fun e w' => e = .returned (.tuple #[.agg #[.int .i64 (mbZ ms ms.length).1, .int .i64 (mbZ ms ms.length).2.1, .int .i64 (mbZ ms ms.length).2.2.1, .int .i64 (mbZ ms ms.length).2.2.2], .bool (decide (0 < ms.length))]) ∧ Below w.heap.size w w' := by
  obtain ⟨⟨fd, fl, fv, fg⟩, hMB⟩ : ∃ m, mbZ ms ms.length = m := ⟨_, rfl⟩
  obtain ⟨fb, hfb⟩ : ∃ x, decide (0 < ms.length) = x := ⟨_, rfl⟩
  have hfb2 : decide ((0 : Int) < (ms.length : Int)) = fb := by rw [← hfb]; exact decide_eq_decide.2 (by omega)
  rw [hMB, hfb]
  have HMB := Lib.hid hMB
  clear hMB
  dsimp only
  go_enter Try.func62, Try.ntmps62
  go_wp2
  obtain ⟨W0, hW0⟩ : ∃ W0, w.alloc (.cells #[.int .i64 0, .int .i64 0, .int .i64 0, .int .i64 0] 32) = W0 := ⟨_, rfl⟩
  have hR : MBox W0 w.heap.size (0, 0, 0, 0) := by rw [← hW0]; exact ⟨by simp [go_sem], by simp [go_sem], by simp [go_sem], by simp [go_sem], fun j => by simp [go_sem]⟩
  have B0 : Below w.heap.size w W0 := by rw [← hW0]; repeat' (first | exact Below.refl _ _ | refine Below.drew ?_ | refine below_drewN ?_ _ | refine Below.alloc ?_ (by first | omega | (simp <;> omega)) _ | refine Below.setCell ?_ (by first | omega | (simp <;> omega)) _ | refine Below.trans ?_ (Below.mono (by assumption) (by first | omega | (simp <;> omega))))
  obtain ⟨bR, hbR⟩ : ∃ x, w.heap.size = x := ⟨_, rfl⟩
  rw [hW0]
  rw [hbR] at hR B0 ⊢
  have HA := Lib.hid ha
  have HBR := Lib.hid hbR
  clear hW0 hbR ha
  go_loopw [10] (fun v wr => ∃ k : Nat, v = .int .i64 (k : Int) ∧ k ≤ ms.length ∧ MBox wr bR (mbZ ms k) ∧ Below bR w wr) (fun v _ => ms.length - (intOf v).toNat)
  case atStart => exact ⟨0, rfl, by omega, hR, B0⟩
  case round =>
    clear hR B0
    obtain ⟨k, rfl, hk, hR, hb⟩ := hrel
    have lR := cell_lt_m hR.1
    dsimp only at lR
    by_cases hlt : k < ms.length
    · obtain ⟨b1, o1, rfl, hb2, hc2⟩ := (HA.out.later (by rw [HBR.out]; exact hb)).at hlt
      obtain ⟨c0, c1, c2, c3⟩ := hc2 k hlt
      have hsu : mbZ ms (k + 1) = if k = 0 then ms.getD k (0, 0, 0, 0) else (if mbet (ms.getD k (0, 0, 0, 0)) (mbZ ms k) then ms.getD k (0, 0, 0, 0) else mbZ ms k) := by
        unfold mbZ
        rw [if_neg (by omega)]
        by_cases h0 : k = 0
        · subst h0
          rw [if_pos rfl]
          exact mbF_one ms
        · rw [if_neg h0, if_neg h0]
          rfl
      obtain ⟨⟨xd, xl, xv, xg⟩, hx⟩ : ∃ q, ms.getD k (0, 0, 0, 0) = q := ⟨_, rfl⟩
      obtain ⟨⟨md, ml, mv, mg⟩, hm⟩ : ∃ q, mbZ ms k = q := ⟨_, rfl⟩
      rw [hx] at c0 c1 c2 c3 hsu
      rw [hm] at hR hsu
      have HR := Lib.hid hR
      obtain ⟨m0, m1, m2, m3, m4⟩ := hR
      dsimp only at c0 c1 c2 c3 m0 m1 m2 m3
      have m40 := m4 0
      have m41 := m4 1
      have m42 := m4 2
      have m43 := m4 3
      have qC := fun w => compare_p (xd, xl, xv, xg) (md, ml, mv, mg) w
      dsimp only at qC
      have hz := mcmp_bet (xd, xl, xv, xg) (md, ml, mv, mg)
      obtain ⟨z, hz0⟩ : ∃ z, mcmp (xd, xl, xv, xg) (md, ml, mv, mg) = z := ⟨_, rfl⟩
      rw [hz0] at qC hz
      rw [← hz] at hsu
      have HSU := Lib.hid hsu
      have i0 : (0 : Int) ≤ (k : Int) := by omega
      have i1 : (k : Int) < (ms.length : Int) := by omega
      have n1 : ¬ bR = wr.heap.size := by omega
      have n2 : ¬ wr.heap.size = bR := by omega
      have hbz := hb.size
      clear hc2 hx hm hz hz0 hsu
      by_cases h0 : k = 0
      · subst h0
        simp only [Nat.zero_mul, Nat.add_zero] at c0 c1 c2 c3
        have HS := Lib.hid (show mbZ ms (0 + 1) = (xd, xl, xv, xg) by rw [HSU.out, if_pos rfl])
        go_wp2
        go_roundw
        case rel =>
          refine ⟨0 + 1, by go_num, by omega, ?_, ?_⟩
          · rw [HS.out]
            exact ⟨by simp [go_sem, *], by simp [go_sem, *], by simp [go_sem, *], by simp [go_sem, *], fun j => by simp [go_sem, *]⟩
          · repeat' (first | exact Below.refl _ _ | refine Below.drew ?_ | refine below_drewN ?_ _ | refine Below.alloc ?_ (by first | omega | (simp <;> omega)) _ | refine Below.setCell ?_ (by first | omega | (simp <;> omega)) _ | refine Below.trans ?_ (Below.mono (by assumption) (by first | omega | (simp <;> omega))))
        case measure => go_light; simp [intOf] <;> omega
      · have hk0 : ((k : Int) == 0) = false := by
          have : (k : Int) ≠ 0 := by omega
          simpa using this
        have hs2 := HSU.out
        rw [if_neg h0] at hs2
        by_cases hz : z < 0
        · rw [if_pos (by simpa using hz)] at hs2
          have HS := Lib.hid hs2
          clear hs2 HSU h0
          go_wp2_with (go_at_call 63; refine (qC _).mono ?_; rintro e w3 ⟨rfl, hb6⟩; have hs6 := hb6.size; (simp at hs6); have y0 : w3.cell? ⟨wr.heap.size, 0, none⟩ = some (.int .i64 xd) := (hb6.cell (p := ⟨wr.heap.size, 0, none⟩) (by simp)).trans (by simp [go_sem]); have y1 : w3.cell? ⟨wr.heap.size, 1, none⟩ = some (.int .i64 xl) := (hb6.cell (p := ⟨wr.heap.size, 1, none⟩) (by simp)).trans (by simp [go_sem]); have y2 : w3.cell? ⟨wr.heap.size, 2, none⟩ = some (.int .i64 xv) := (hb6.cell (p := ⟨wr.heap.size, 2, none⟩) (by simp)).trans (by simp [go_sem]); have y3 : w3.cell? ⟨wr.heap.size, 3, none⟩ = some (.int .i64 xg) := (hb6.cell (p := ⟨wr.heap.size, 3, none⟩) (by simp)).trans (by simp [go_sem]); have hbw : Below wr.heap.size wr w3 := ((Below.refl _ wr).alloc (Nat.le_refl _) _).trans (hb6.mono (by simp)); obtain ⟨f0, f1, f2, f3, f4⟩ := HR.out.later hbw; (dsimp only at f0 f1 f2 f3); have f40 := f4 0; have f41 := f4 1; have f42 := f4 2; have f43 := f4 3; have hb3 := hb.trans (hbw.mono (Nat.le_of_lt lR)))
          go_roundw
          case rel =>
            refine ⟨k + 1, by go_num, by omega, ?_, (((hb3.setCell (by simp) _).setCell (by simp) _).setCell (by simp) _).setCell (by simp) _⟩
            rw [HS.out]
            exact ⟨by simp [go_sem, *], by simp [go_sem, *], by simp [go_sem, *], by simp [go_sem, *], fun j => by simp [go_sem, *]⟩
          case measure => go_light; simp [intOf] <;> omega
        · rw [if_neg (by simpa using hz)] at hs2
          have HS := Lib.hid hs2
          clear hs2 HSU h0
          go_wp2_with (go_at_call 63; refine (qC _).mono ?_; rintro e w3 ⟨rfl, hb6⟩; have hs6 := hb6.size; (simp at hs6); have hbw : Below wr.heap.size wr w3 := ((Below.refl _ wr).alloc (Nat.le_refl _) _).trans (hb6.mono (by simp)); have HR3 := Lib.hid (HR.out.later hbw); have hb3 := hb.trans (hbw.mono (Nat.le_of_lt lR)))
          go_roundw
          case rel =>
            refine ⟨k + 1, by go_num, by omega, ?_, hb3⟩
            rw [HS.out]
            exact HR3.out
          case measure => go_light; simp [intOf] <;> omega
    · obtain rfl : k = ms.length := by omega
      have hq : mbZ ms ms.length = (fd, fl, fv, fg) := HMB.out
      rw [hq] at hR
      obtain ⟨m0, m1, m2, m3, m4⟩ := hR
      have m40 := m4 0
      have m41 := m4 1
      have m42 := m4 2
      have m43 := m4 3
      clear hq HMB
      dsimp only at m0 m1 m2 m3
      go_wp2
      go_light
      refine bodyPost_ret (v := .tuple #[.agg #[.int .i64 fd, .int .i64 fl, .int .i64 fv, .int .i64 fg], .bool fb]) (by simp [results, Try.results62, go_sem, *]) rfl ⟨rfl, ?_⟩
      rw [HBR.out]
      repeat' (first | exact Below.refl _ _ | refine Below.drew ?_ | refine below_drewN ?_ _ | refine Below.alloc ?_ (by first | omega | (simp <;> omega)) _ | refine Below.setCell ?_ (by first | omega | (simp <;> omega)) _ | refine Below.trans ?_ (Below.mono (by assumption) (by first | omega | (simp <;> omega))))
end Go.Proofs.Ytammacofhdbgcaa
namespace Go.Proofs.Ytammacofhdbgcaa
open Go.RowKit
set_option linter.unusedSimpArgs false
set_option linter.unusedVariables false
open Go.Shelf
attribute [local go_sem] Oper.semAt_some

set_option maxHeartbeats 2000000 in
theorem best_p (a : Option Addr) (ms : List (Int × Int × Int × Int)) (cap : Nat) (w : World) (ha : RowM w a ms) (hl : ms.length ≤ 9223372036854775807) :
    Calls Try.prog 25 #[.slice a ms.length cap] w fun e w' => e = .returned (.tuple #[.agg #[.int .i64 (mbZ ms ms.length).1, .int .i64 (mbZ ms ms.length).2.1, .int .i64 (mbZ ms ms.length).2.2.1, .int .i64 (mbZ ms ms.length).2.2.2], .bool (decide (0 < ms.length))]) ∧ Below w.heap.size w w' := by
  have q := fun w h => best_s a ms cap w h hl
  obtain ⟨fb, hfb⟩ : ∃ x, decide (0 < ms.length) = x := ⟨_, rfl⟩
  generalize mbZ ms ms.length = m at q
  rw [hfb] at q ⊢
  clear hfb
  obtain ⟨fd, fl, fv, fg⟩ := m
  dsimp only at q
  go_enter Try.func25, Try.ntmps25
  go_wp2_with ((go_at_call 62; refine (q _ (ha.later (by repeat' (first | exact Below.refl _ _ | refine Below.drew ?_ | refine below_drewN ?_ _ | refine Below.alloc ?_ (by first | omega | (simp <;> omega)) _ | refine Below.setCell ?_ (by first | omega | (simp <;> omega)) _ | refine Below.trans ?_ (Below.mono (by assumption) (by first | omega | (simp <;> omega))))))).mono ?_; rintro e w1 ⟨rfl, hb⟩; have hsz := hb.size; (try simp at hsz); (first | (have hbl := blater2 HA (by first | exact Nat.le_refl _ | (simp; done) | (simp; omega)) hb; obtain ⟨hcc, hff, HA, hne, hne'⟩ := hbl) | (obtain ⟨hcc, hff, HA, hne, hne'⟩ := blater1 hb)); (try simp only [World.size_alloc, World.size_setCell] at HA)))
  repeat' (first | (go_region <;> go_wp2))
  all_goals go_light
  all_goals (refine bodyPost_ret (v := .tuple #[.agg #[.int .i64 fd, .int .i64 fl, .int .i64 fv, .int .i64 fg], .bool fb]) (by simp [results, Try.results25, go_sem, *]) rfl ⟨rfl, ?_⟩; repeat' (first | exact Below.refl _ _ | refine Below.drew ?_ | refine below_drewN ?_ _ | refine Below.alloc ?_ (by first | omega | (simp <;> omega)) _ | refine Below.setCell ?_ (by first | omega | (simp <;> omega)) _ | refine Below.trans ?_ (Below.mono (by assumption) (by first | omega | (simp <;> omega)))))
theorem rbest_p (a : Option Addr) (ms : List (Int × Int × Int × Int)) (cap : Nat) (w : World) (ha : RowM w a ms) (hl : ms.length ≤ 9223372036854775807) :
    Calls Try.prog 31 #[.slice a ms.length cap] w fun e w' => e = .returned (.tuple #[.agg #[.int .i64 (mbZ ms ms.length).1, .int .i64 (mbZ ms ms.length).2.1, .int .i64 (mbZ ms ms.length).2.2.1, .int .i64 (mbZ ms ms.length).2.2.2], .bool (decide (0 < ms.length))]) ∧ Below w.heap.size w w' := by
  by_cases h : ms.length = 0
  · have := rbest_0 a cap w
    rw [h]
    exact this
  · have := rbest_1 a ms cap w ha hl (by omega)
    unfold mbZ
    rw [if_neg h, decide_eq_true (show 0 < ms.length by omega)]
    exact this
end Go.Proofs.Ytammacofhdbgcaa
namespace Go.Proofs.Ytammacofhdbgcaa
open Go.RowKit
set_option linter.unusedSimpArgs false
set_option linter.unusedVariables false
open Go.Shelf
attribute [local go_sem] Oper.semAt_some

/-- The error of a match. -/
def mchk (s : ByteArray) (p e l : Int) (d n : Int) : Int :=
  if wchk s.size p e l ≠ 0 then wchk s.size p e l else if d < 1 ∨ p < d ∨ (2 : Int) ^ l.toNat < d ∨ n < 4 ∨ e - p < n then 2 else if (wcom s (p - d) p e).1 ≠ n then 10 else 0

set_option maxHeartbeats 4000000 in
theorem mcheck_p (s : ByteArray) (p e l md ml mv mg : Int) (w : World) (hl : s.size ≤ 9223372036854775807) :
    Calls Try.prog 29 #[.string s, .int .i64 p, .int .i64 e, .int .i64 l, .agg #[.int .i64 md, .int .i64 ml, .int .i64 mv, .int .i64 mg]] w fun e' w' => e' = .returned (.int .i64 (mchk s p e l md ml)) ∧ Below w.heap.size w w' := by
  have q1 := fun w => wcheck_p s p e l w hl
  unfold mchk
  by_cases h0 : wchk s.size p e l = 0
  · rw [if_neg (by simpa using h0)]
    rw [h0] at q1
    obtain ⟨_, w1, w2, w3, w4, w5⟩ := wchk_ok h0
    obtain ⟨m, rfl⟩ : ∃ m : Nat, l = (m : Int) := ⟨l.toNat, by omega⟩
    have hp := pow_le (l := (m : Int)) (by omega)
    rw [Int.toNat_natCast] at hp ⊢
    obtain ⟨P, hP⟩ : ∃ P, (2 : Int) ^ m = P := ⟨_, rfl⟩
    rw [hP] at hp ⊢
    have gP : wrap64 ((2 : Int) ^ m) = P := by rw [hP]; exact IntWalk.wrap64_in _ (by omega)
    obtain ⟨p1, p2⟩ := hp
    have HPP := Lib.hid hP
    clear hP h0
    by_cases h1 : md < 1 ∨ p < md ∨ P < md ∨ ml < 4 ∨ e - p < ml
    · rw [if_pos h1]
      have hx : md < 1 ∨ (¬ md < 1 ∧ (p < md ∨ (¬ p < md ∧ (P < md ∨ (¬ P < md ∧ (ml < 4 ∨ (¬ ml < 4 ∧ e - p < ml))))))) := by omega
      clear h1
      rcases hx with g1 | ⟨g1, g2 | ⟨g2, g3 | ⟨g3, g4 | ⟨g4, g5⟩⟩⟩⟩
      all_goals
        go_enter Try.func29, Try.ntmps29
        go_wp2_with (first | (go_at_call 51; refine (q1 _).mono ?_; rintro e w1 ⟨rfl, hb⟩; have hsz := hb.size; (try simp at hsz); (first | (have hbl := blater2 HA (by first | exact Nat.le_refl _ | (simp; done) | (simp; omega)) hb; obtain ⟨hcc, hff, HA, hne, hne'⟩ := hbl) | (obtain ⟨hcc, hff, HA, hne, hne'⟩ := blater1 hb)); (try simp only [World.size_alloc, World.size_setCell] at HA)) | (go_at_call 65; refine (q2 _).mono ?_; rintro e w1 ⟨rfl, hb⟩; have hsz := hb.size; (try simp at hsz); (first | (have hbl := blater2 HA (by first | exact Nat.le_refl _ | (simp; done) | (simp; omega)) hb; obtain ⟨hcc, hff, HA, hne, hne'⟩ := hbl) | (obtain ⟨hcc, hff, HA, hne, hne'⟩ := blater1 hb)); (try simp only [World.size_alloc, World.size_setCell] at HA)))
        go_light
        refine bodyPost_ret (v := .int .i64 (2)) (by simp [results, Try.results29, go_sem, *]) rfl ⟨rfl, ?_⟩
        repeat' (first | exact Below.refl _ _ | refine Below.drew ?_ | refine below_drewN ?_ _ | refine Below.alloc ?_ (by first | omega | (simp <;> omega)) _ | refine Below.setCell ?_ (by first | omega | (simp <;> omega)) _ | refine Below.trans ?_ (Below.mono (by assumption) (by first | omega | (simp <;> omega))))
    · rw [if_neg h1]
      have g1 : ¬ md < 1 := by omega
      have g2 : ¬ p < md := by omega
      have g3 : ¬ P < md := by omega
      have g4 : ¬ ml < 4 := by omega
      have g5 : ¬ e - p < ml := by omega
      have q2 := fun w => wcommon_p s (p - md) p e w hl
      generalize wcom s (p - md) p e = C at q2
      obtain ⟨C1, C2⟩ := C
      dsimp only at q2
      clear h1
      by_cases h2 : C1 = ml
      · have h3 : (C1 != ml) = false := by simpa using h2
        rw [if_neg (by simpa using h2)]
        clear h2
        go_enter Try.func29, Try.ntmps29
        go_wp2_with (first | (go_at_call 51; refine (q1 _).mono ?_; rintro e w1 ⟨rfl, hb⟩; have hsz := hb.size; (try simp at hsz); (first | (have hbl := blater2 HA (by first | exact Nat.le_refl _ | (simp; done) | (simp; omega)) hb; obtain ⟨hcc, hff, HA, hne, hne'⟩ := hbl) | (obtain ⟨hcc, hff, HA, hne, hne'⟩ := blater1 hb)); (try simp only [World.size_alloc, World.size_setCell] at HA)) | (go_at_call 65; refine (q2 _).mono ?_; rintro e w1 ⟨rfl, hb⟩; have hsz := hb.size; (try simp at hsz); (first | (have hbl := blater2 HA (by first | exact Nat.le_refl _ | (simp; done) | (simp; omega)) hb; obtain ⟨hcc, hff, HA, hne, hne'⟩ := hbl) | (obtain ⟨hcc, hff, HA, hne, hne'⟩ := blater1 hb)); (try simp only [World.size_alloc, World.size_setCell] at HA)))
        go_light
        refine bodyPost_ret (v := .int .i64 (0)) (by simp [results, Try.results29, go_sem, *]) rfl ⟨rfl, ?_⟩
        repeat' (first | exact Below.refl _ _ | refine Below.drew ?_ | refine below_drewN ?_ _ | refine Below.alloc ?_ (by first | omega | (simp <;> omega)) _ | refine Below.setCell ?_ (by first | omega | (simp <;> omega)) _ | refine Below.trans ?_ (Below.mono (by assumption) (by first | omega | (simp <;> omega))))
      · have h3 : (C1 != ml) = true := by simpa using h2
        rw [if_pos h2]
        clear h2
        go_enter Try.func29, Try.ntmps29
        go_wp2_with (first | (go_at_call 51; refine (q1 _).mono ?_; rintro e w1 ⟨rfl, hb⟩; have hsz := hb.size; (try simp at hsz); (first | (have hbl := blater2 HA (by first | exact Nat.le_refl _ | (simp; done) | (simp; omega)) hb; obtain ⟨hcc, hff, HA, hne, hne'⟩ := hbl) | (obtain ⟨hcc, hff, HA, hne, hne'⟩ := blater1 hb)); (try simp only [World.size_alloc, World.size_setCell] at HA)) | (go_at_call 65; refine (q2 _).mono ?_; rintro e w1 ⟨rfl, hb⟩; have hsz := hb.size; (try simp at hsz); (first | (have hbl := blater2 HA (by first | exact Nat.le_refl _ | (simp; done) | (simp; omega)) hb; obtain ⟨hcc, hff, HA, hne, hne'⟩ := hbl) | (obtain ⟨hcc, hff, HA, hne, hne'⟩ := blater1 hb)); (try simp only [World.size_alloc, World.size_setCell] at HA)))
        go_light
        refine bodyPost_ret (v := .int .i64 (10)) (by simp [results, Try.results29, go_sem, *]) rfl ⟨rfl, ?_⟩
        repeat' (first | exact Below.refl _ _ | refine Below.drew ?_ | refine below_drewN ?_ _ | refine Below.alloc ?_ (by first | omega | (simp <;> omega)) _ | refine Below.setCell ?_ (by first | omega | (simp <;> omega)) _ | refine Below.trans ?_ (Below.mono (by assumption) (by first | omega | (simp <;> omega))))
  · rw [if_pos h0]
    obtain ⟨z, hz⟩ : ∃ z, wchk s.size p e l = z := ⟨_, rfl⟩
    rw [hz] at q1 h0 ⊢
    have h1 : (z != 0) = true := by simpa using h0
    clear hz h0
    go_enter Try.func29, Try.ntmps29
    go_wp2_with (first | (go_at_call 51; refine (q1 _).mono ?_; rintro e w1 ⟨rfl, hb⟩; have hsz := hb.size; (try simp at hsz); (first | (have hbl := blater2 HA (by first | exact Nat.le_refl _ | (simp; done) | (simp; omega)) hb; obtain ⟨hcc, hff, HA, hne, hne'⟩ := hbl) | (obtain ⟨hcc, hff, HA, hne, hne'⟩ := blater1 hb)); (try simp only [World.size_alloc, World.size_setCell] at HA)) | (go_at_call 65; refine (q2 _).mono ?_; rintro e w1 ⟨rfl, hb⟩; have hsz := hb.size; (try simp at hsz); (first | (have hbl := blater2 HA (by first | exact Nat.le_refl _ | (simp; done) | (simp; omega)) hb; obtain ⟨hcc, hff, HA, hne, hne'⟩ := hbl) | (obtain ⟨hcc, hff, HA, hne, hne'⟩ := blater1 hb)); (try simp only [World.size_alloc, World.size_setCell] at HA)))
    go_light
    refine bodyPost_ret (v := .int .i64 (z)) (by simp [results, Try.results29, go_sem, *]) rfl ⟨rfl, ?_⟩
    repeat' (first | exact Below.refl _ _ | refine Below.drew ?_ | refine below_drewN ?_ _ | refine Below.alloc ?_ (by first | omega | (simp <;> omega)) _ | refine Below.setCell ?_ (by first | omega | (simp <;> omega)) _ | refine Below.trans ?_ (Below.mono (by assumption) (by first | omega | (simp <;> omega))))

set_option maxHeartbeats 4000000 in
theorem rmcheck_p (s : ByteArray) (p e l md ml mv mg : Int) (w : World) (hl : s.size ≤ 9223372036854775807) :
    Calls Try.prog 32 #[.string s, .int .i64 p, .int .i64 e, .int .i64 l, .agg #[.int .i64 md, .int .i64 ml, .int .i64 mv, .int .i64 mg]] w fun e' w' => e' = .returned (.int .i64 (mchk s p e l md ml)) ∧ Below w.heap.size w w' := by
  have q1 := fun w => rwcheck_p s p e l w hl
  unfold mchk
  by_cases h0 : wchk s.size p e l = 0
  · rw [if_neg (by simpa using h0)]
    rw [h0] at q1
    obtain ⟨_, w1, w2, w3, w4, w5⟩ := wchk_ok h0
    obtain ⟨m, rfl⟩ : ∃ m : Nat, l = (m : Int) := ⟨l.toNat, by omega⟩
    have hp := pow_le (l := (m : Int)) (by omega)
    rw [Int.toNat_natCast] at hp ⊢
    obtain ⟨P, hP⟩ : ∃ P, (2 : Int) ^ m = P := ⟨_, rfl⟩
    rw [hP] at hp ⊢
    have gP : wrap64 ((2 : Int) ^ m) = P := by rw [hP]; exact IntWalk.wrap64_in _ (by omega)
    obtain ⟨p1, p2⟩ := hp
    have HPP := Lib.hid hP
    clear hP h0
    by_cases h1 : md < 1 ∨ p < md ∨ P < md ∨ ml < 4 ∨ e - p < ml
    · rw [if_pos h1]
      have hx : md < 1 ∨ (¬ md < 1 ∧ (p < md ∨ (¬ p < md ∧ (P < md ∨ (¬ P < md ∧ (ml < 4 ∨ (¬ ml < 4 ∧ e - p < ml))))))) := by omega
      clear h1
      rcases hx with g1 | ⟨g1, g2 | ⟨g2, g3 | ⟨g3, g4 | ⟨g4, g5⟩⟩⟩⟩
      all_goals
        go_enter Try.func32, Try.ntmps32
        go_wp2_with (first | (go_at_call 55; refine (q1 _).mono ?_; rintro e w1 ⟨rfl, hb⟩; have hsz := hb.size; (try simp at hsz); (first | (have hbl := blater2 HA (by first | exact Nat.le_refl _ | (simp; done) | (simp; omega)) hb; obtain ⟨hcc, hff, HA, hne, hne'⟩ := hbl) | (obtain ⟨hcc, hff, HA, hne, hne'⟩ := blater1 hb)); (try simp only [World.size_alloc, World.size_setCell] at HA)) | (go_at_call 58; refine (q2 _).mono ?_; rintro e w1 ⟨rfl, hb⟩; have hsz := hb.size; (try simp at hsz); (first | (have hbl := blater2 HA (by first | exact Nat.le_refl _ | (simp; done) | (simp; omega)) hb; obtain ⟨hcc, hff, HA, hne, hne'⟩ := hbl) | (obtain ⟨hcc, hff, HA, hne, hne'⟩ := blater1 hb)); (try simp only [World.size_alloc, World.size_setCell] at HA)))
        go_light
        refine bodyPost_ret (v := .int .i64 (2)) (by simp [results, Try.results32, go_sem, *]) rfl ⟨rfl, ?_⟩
        repeat' (first | exact Below.refl _ _ | refine Below.drew ?_ | refine below_drewN ?_ _ | refine Below.alloc ?_ (by first | omega | (simp <;> omega)) _ | refine Below.setCell ?_ (by first | omega | (simp <;> omega)) _ | refine Below.trans ?_ (Below.mono (by assumption) (by first | omega | (simp <;> omega))))
    · rw [if_neg h1]
      have g1 : ¬ md < 1 := by omega
      have g2 : ¬ p < md := by omega
      have g3 : ¬ P < md := by omega
      have g4 : ¬ ml < 4 := by omega
      have g5 : ¬ e - p < ml := by omega
      have q2 := fun w => rcommon_p s (p - md) p e w hl
      generalize wcom s (p - md) p e = C at q2
      obtain ⟨C1, C2⟩ := C
      dsimp only at q2
      clear h1
      by_cases h2 : C1 = ml
      · have h3 : (C1 != ml) = false := by simpa using h2
        rw [if_neg (by simpa using h2)]
        clear h2
        go_enter Try.func32, Try.ntmps32
        go_wp2_with (first | (go_at_call 55; refine (q1 _).mono ?_; rintro e w1 ⟨rfl, hb⟩; have hsz := hb.size; (try simp at hsz); (first | (have hbl := blater2 HA (by first | exact Nat.le_refl _ | (simp; done) | (simp; omega)) hb; obtain ⟨hcc, hff, HA, hne, hne'⟩ := hbl) | (obtain ⟨hcc, hff, HA, hne, hne'⟩ := blater1 hb)); (try simp only [World.size_alloc, World.size_setCell] at HA)) | (go_at_call 58; refine (q2 _).mono ?_; rintro e w1 ⟨rfl, hb⟩; have hsz := hb.size; (try simp at hsz); (first | (have hbl := blater2 HA (by first | exact Nat.le_refl _ | (simp; done) | (simp; omega)) hb; obtain ⟨hcc, hff, HA, hne, hne'⟩ := hbl) | (obtain ⟨hcc, hff, HA, hne, hne'⟩ := blater1 hb)); (try simp only [World.size_alloc, World.size_setCell] at HA)))
        go_light
        refine bodyPost_ret (v := .int .i64 (0)) (by simp [results, Try.results32, go_sem, *]) rfl ⟨rfl, ?_⟩
        repeat' (first | exact Below.refl _ _ | refine Below.drew ?_ | refine below_drewN ?_ _ | refine Below.alloc ?_ (by first | omega | (simp <;> omega)) _ | refine Below.setCell ?_ (by first | omega | (simp <;> omega)) _ | refine Below.trans ?_ (Below.mono (by assumption) (by first | omega | (simp <;> omega))))
      · have h3 : (C1 != ml) = true := by simpa using h2
        rw [if_pos h2]
        clear h2
        go_enter Try.func32, Try.ntmps32
        go_wp2_with (first | (go_at_call 55; refine (q1 _).mono ?_; rintro e w1 ⟨rfl, hb⟩; have hsz := hb.size; (try simp at hsz); (first | (have hbl := blater2 HA (by first | exact Nat.le_refl _ | (simp; done) | (simp; omega)) hb; obtain ⟨hcc, hff, HA, hne, hne'⟩ := hbl) | (obtain ⟨hcc, hff, HA, hne, hne'⟩ := blater1 hb)); (try simp only [World.size_alloc, World.size_setCell] at HA)) | (go_at_call 58; refine (q2 _).mono ?_; rintro e w1 ⟨rfl, hb⟩; have hsz := hb.size; (try simp at hsz); (first | (have hbl := blater2 HA (by first | exact Nat.le_refl _ | (simp; done) | (simp; omega)) hb; obtain ⟨hcc, hff, HA, hne, hne'⟩ := hbl) | (obtain ⟨hcc, hff, HA, hne, hne'⟩ := blater1 hb)); (try simp only [World.size_alloc, World.size_setCell] at HA)))
        go_light
        refine bodyPost_ret (v := .int .i64 (10)) (by simp [results, Try.results32, go_sem, *]) rfl ⟨rfl, ?_⟩
        repeat' (first | exact Below.refl _ _ | refine Below.drew ?_ | refine below_drewN ?_ _ | refine Below.alloc ?_ (by first | omega | (simp <;> omega)) _ | refine Below.setCell ?_ (by first | omega | (simp <;> omega)) _ | refine Below.trans ?_ (Below.mono (by assumption) (by first | omega | (simp <;> omega))))
  · rw [if_pos h0]
    obtain ⟨z, hz⟩ : ∃ z, wchk s.size p e l = z := ⟨_, rfl⟩
    rw [hz] at q1 h0 ⊢
    have h1 : (z != 0) = true := by simpa using h0
    clear hz h0
    go_enter Try.func32, Try.ntmps32
    go_wp2_with (first | (go_at_call 55; refine (q1 _).mono ?_; rintro e w1 ⟨rfl, hb⟩; have hsz := hb.size; (try simp at hsz); (first | (have hbl := blater2 HA (by first | exact Nat.le_refl _ | (simp; done) | (simp; omega)) hb; obtain ⟨hcc, hff, HA, hne, hne'⟩ := hbl) | (obtain ⟨hcc, hff, HA, hne, hne'⟩ := blater1 hb)); (try simp only [World.size_alloc, World.size_setCell] at HA)) | (go_at_call 58; refine (q2 _).mono ?_; rintro e w1 ⟨rfl, hb⟩; have hsz := hb.size; (try simp at hsz); (first | (have hbl := blater2 HA (by first | exact Nat.le_refl _ | (simp; done) | (simp; omega)) hb; obtain ⟨hcc, hff, HA, hne, hne'⟩ := hbl) | (obtain ⟨hcc, hff, HA, hne, hne'⟩ := blater1 hb)); (try simp only [World.size_alloc, World.size_setCell] at HA)))
    go_light
    refine bodyPost_ret (v := .int .i64 (z)) (by simp [results, Try.results32, go_sem, *]) rfl ⟨rfl, ?_⟩
    repeat' (first | exact Below.refl _ _ | refine Below.drew ?_ | refine below_drewN ?_ _ | refine Below.alloc ?_ (by first | omega | (simp <;> omega)) _ | refine Below.setCell ?_ (by first | omega | (simp <;> omega)) _ | refine Below.trans ?_ (Below.mono (by assumption) (by first | omega | (simp <;> omega))))
end Go.Proofs.Ytammacofhdbgcaa
