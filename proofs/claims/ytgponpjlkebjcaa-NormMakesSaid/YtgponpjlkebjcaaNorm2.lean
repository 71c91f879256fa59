/-
  Bits of numbers, walked.
-/
import Derived.Test.YtgponpjlkebjcaaRows
import Derived.Test.YtgponpjlkebjcaaNorm1
import Derived.Test.YtgponpjlkebjcaaCommon
import Derived.Deep.Light
import Derived.Shelf.Abstract
import Derived.Shelf.RegionOpen
import Derived.OwnWalkIn
import Derived.TacticsInMore
import Derived.LoopNIn
import Derived.LoopIn
import Derived.Outline
namespace Go.Proofs.Ytgponpjlkebjcaa
open Go.RowKit
set_option linter.unusedSimpArgs false
set_option linter.unusedVariables false
attribute [local go_sem] Oper.semAt_some

theorem rhigh_s (n : Nat) (w : World) (hn : n < 2 ^ 62) : Calls Try.prog 64 #[.int .i64 (n : Int)] w fun e w' => e = .returned (.int .i64 (hi n)) ∧ w' = w := by
  have hbd := hi_bd n hn
  go_enter Try.func64, Try.ntmps64
  go_wp2
  go_loop [0, 3] (fun v vh => ∃ (m : Nat) (h : Int), v = .int .i64 (m : Int) ∧ vh = .int .i64 h ∧ Hid (hi n = h + 1 + hi m) ∧ -1 ≤ h ∧ h ≤ 61 ∧ m < 2 ^ 62) (fun v _ => (intOf v).toNat)
  case atStart => exact ⟨n, -1, rfl, rfl, Lib.hid (by omega), by omega, by omega, hn⟩
  case round =>
    obtain ⟨m, h, rfl, rfl, HH, h1, h2, hm⟩ := hrel
    by_cases h0 : 0 < m
    · have hh := hi_half m h0
      have hb2 := hi_bd (m / 2) (by omega)
      have hq := HH.out
      have H2 : Hid (hi n = (h + 1) + 1 + hi (m / 2)) := Lib.hid (by omega)
      have h3 : h + 1 ≤ 61 := by omega
      have i0 : (0 : Int) < (m : Int) := by omega
      clear hh hb2 hq
      go_wp2
      go_round
      case rel => exact ⟨m / 2, h + 1, by rw [show (m : Int) / 2 = ((m / 2 : Nat) : Int) by omega], rfl, H2, by omega, h3, by omega⟩
      case measure => go_light; simp [intOf] <;> omega
    · obtain rfl : m = 0 := by omega
      have hz : hi 0 = -1 := rfl
      have hq := HH.out
      rw [hz] at hq
      have HQ : Hid (hi n = h) := Lib.hid (by omega)
      clear hq hz
      go_wp2
      go_ret
      exact ⟨by rw [HQ.out]; rfl, rfl⟩

theorem high_s (n : Nat) (w : World) (hn : n < 2 ^ 62) : Calls Try.prog 61 #[.int .i64 (n : Int)] w fun e w' => e = .returned (.int .i64 (hi n)) ∧ w' = w := by
  have hbd := hi_bd n hn
  go_enter Try.func61, Try.ntmps61
  go_wp2
  go_loop [3, 5] (fun vh v => ∃ (k : Nat) (h : Int), v = .int .i64 (k : Int) ∧ k ≤ 63 ∧ vh = .int .i64 h ∧ Hid (h = if (k : Int) - 1 ≤ hi n then (k : Int) - 1 else hi n)) (fun _ v => 63 - (intOf v).toNat)
  case atStart => exact ⟨0, -1, rfl, by omega, rfl, Lib.hid (by split <;> omega)⟩
  case round =>
    obtain ⟨k, h, rfl, hk, rfl, HH⟩ := hrel
    by_cases hlt : k < 63
    · have i1 : (k : Int) < 63 := by omega
      have hsh := hi_shift n k
      have hcast : (n : Int) / 2 ^ k = ((n / 2 ^ k : Nat) : Int) := by simp
      by_cases hp : 0 < n / 2 ^ k
      · have H2 : Hid ((k : Int) = if ((k + 1 : Nat) : Int) - 1 ≤ hi n then ((k + 1 : Nat) : Int) - 1 else hi n) := Lib.hid (by have := hsh.1 hp; rw [if_pos (by omega)]; omega)
        have j1 : (0 : Int) < (n : Int) / 2 ^ k := by omega
        have J1 := Lib.hid j1
        clear hsh hcast hp
        go_wp2
        go_round
        case rel => exact ⟨k + 1, k, by go_num, by omega, rfl, H2⟩
        case measure => go_light; simp [intOf] <;> omega
      · have H2 : Hid (h = if ((k + 1 : Nat) : Int) - 1 ≤ hi n then ((k + 1 : Nat) : Int) - 1 else hi n) := Lib.hid (by
          have h5 : ¬ (k : Int) ≤ hi n := fun h6 => hp (hsh.2 h6)
          have h7 := HH.out
          rw [if_neg (by omega)]
          by_cases h8 : (k : Int) - 1 ≤ hi n
          · rw [if_pos h8] at h7; omega
          · rw [if_neg h8] at h7; omega)
        have j1 : ¬ (0 : Int) < (n : Int) / 2 ^ k := by omega
        clear hsh hcast hp
        go_wp2
        go_round
        case rel => exact ⟨k + 1, h, by go_num, by omega, rfl, H2⟩
        case measure => go_light; simp [intOf] <;> omega
    · obtain rfl : k = 63 := by omega
      have HQ : Hid (h = hi n) := Lib.hid (by have h7 := HH.out; rw [if_neg (by omega)] at h7; exact h7)
      go_wp2
      go_ret
      exact ⟨by rw [HQ.out]; rfl, rfl⟩

theorem rbits_s (n : Nat) (w : World) (hn : n < 2 ^ 62) : Calls Try.prog 63 #[.int .i64 (n : Int)] w fun e w' => e = .returned (.int .i64 (hi n + 1)) ∧ w' = w := by
  have hbd := hi_bd n hn
  have q := fun w => rhigh_s n w hn
  generalize hi n = h at hbd q
  go_enter Try.func63, Try.ntmps63
  go_wp2_with (go_at_call 64; refine (q _).mono ?_; rintro e w' ⟨rfl, rfl⟩)
  go_ret
  exact ⟨rfl, rfl⟩

theorem bits_s (n : Nat) (w : World) (hn : n < 2 ^ 62) : Calls Try.prog 60 #[.int .i64 (n : Int)] w fun e w' => e = .returned (.int .i64 (hi n + 1)) ∧ w' = w := by
  have hbd := hi_bd n hn
  have q := fun w => high_s n w hn
  generalize hi n = h at hbd q
  go_enter Try.func60, Try.ntmps60
  go_wp2_with (go_at_call 61; refine (q _).mono ?_; rintro e w' ⟨rfl, rfl⟩)
  go_ret
  exact ⟨rfl, rfl⟩

/-- What checked counts are: the sum, how many occur, the error. -/
def rChk (xs : List Int) : Int × Int × Int := if cchk xs = 0 then (if (occ 0 xs).length = 0 then (0, 0, 7) else (xs.sum, (((occ 0 xs).length : Nat) : Int), 0)) else (0, 0, cchk xs)
theorem occ_sum {xs : List Int} (hr : rng xs = true) : (occ 0 xs).length = 0 ↔ xs.sum = 0 := by
  rw [occ_len]
  have key : ∀ ys : List Int, rng ys = true → ((ys.filter fun n => decide (0 < n)).length = 0 ↔ ys.sum = 0) := by
    intro ys
    induction ys with
    | nil => intro _; simp
    | cons y r ih =>
      intro h
      have h1 : (0 ≤ y ∧ y ≤ 1099511627776) ∧ rng r = true := by simpa [rng] using h
      have h2 := ih h1.2
      have h3 := (rng_sum h1.2).1
      by_cases hy : 0 < y
      · simp [List.filter_cons, hy]
        omega
      · have : y = 0 := by omega
        subst this
        simpa [List.filter_cons] using h2
  exact key xs hr

theorem checked_p (a : Option Addr) (xs : List Int) (cap : Nat) (w : World) (ha : Row .i64 w a xs) (hl : xs.length ≤ 9223372036854775807) :
    Calls Try.prog 59 #[.slice a xs.length cap] w fun e w' => e = .returned (.tuple #[.int .i64 (rChk xs).1, .int .i64 (rChk xs).2.1, .int .i64 (rChk xs).2.2]) ∧ Below w.heap.size w w' := by
  unfold rChk
  by_cases h : cchk xs = 0
  · have e1 : rTot xs = (xs.sum, 0) := by unfold rTot; rw [if_pos h]
    have e2 : rDist xs = ((((occ 0 xs).length : Nat) : Int), 0) := by unfold rDist; rw [if_pos h]
    rw [if_pos h]
    have hos := occ_sum (cchk_ok h).2.1
    by_cases h0 : (occ 0 xs).length = 0
    · rw [if_pos h0]
      have e3 : ((((occ 0 xs).length : Nat) : Int) == 0) = true := by rw [h0]; rfl
      have e4 : (xs.sum == 0) = true := by simpa using hos.1 h0
      clear h h0 hos
      go_enter Try.func59, Try.ntmps59
      go_wp2_with (first | (go_at_call 25; refine (total_p _ _ _ _ (ha.later (by repeat' (first | exact Below.refl _ _ | refine Below.drew ?_ | refine below_drewN ?_ _ | refine Below.alloc ?_ (by first | omega | (simp <;> omega)) _ | refine Below.setCell ?_ (by first | omega | (simp <;> omega)) _ | refine Below.trans ?_ (Below.mono (by assumption) (by first | omega | (simp <;> omega)))))) hl).mono ?_; rintro e w1 ⟨rfl, hb⟩; have hsz := hb.size; (try simp at hsz)) | (go_at_call 27; refine (distinct_p _ _ _ _ (ha.later (by repeat' (first | exact Below.refl _ _ | refine Below.drew ?_ | refine below_drewN ?_ _ | refine Below.alloc ?_ (by first | omega | (simp <;> omega)) _ | refine Below.setCell ?_ (by first | omega | (simp <;> omega)) _ | refine Below.trans ?_ (Below.mono (by assumption) (by first | omega | (simp <;> omega)))))) hl).mono ?_; rintro e w1 ⟨rfl, hb⟩; have hsz := hb.size; (try simp at hsz)))
      repeat' (first | (go_region <;> go_wp2_with (first | (go_at_call 25; refine (total_p _ _ _ _ (ha.later (by repeat' (first | exact Below.refl _ _ | refine Below.drew ?_ | refine below_drewN ?_ _ | refine Below.alloc ?_ (by first | omega | (simp <;> omega)) _ | refine Below.setCell ?_ (by first | omega | (simp <;> omega)) _ | refine Below.trans ?_ (Below.mono (by assumption) (by first | omega | (simp <;> omega)))))) hl).mono ?_; rintro e w1 ⟨rfl, hb⟩; have hsz := hb.size; (try simp at hsz)) | (go_at_call 27; refine (distinct_p _ _ _ _ (ha.later (by repeat' (first | exact Below.refl _ _ | refine Below.drew ?_ | refine below_drewN ?_ _ | refine Below.alloc ?_ (by first | omega | (simp <;> omega)) _ | refine Below.setCell ?_ (by first | omega | (simp <;> omega)) _ | refine Below.trans ?_ (Below.mono (by assumption) (by first | omega | (simp <;> omega)))))) hl).mono ?_; rintro e w1 ⟨rfl, hb⟩; have hsz := hb.size; (try simp at hsz)))))
      all_goals go_light
      all_goals (try simp only [beq_iff_eq, beq_eq_false_iff_ne, bne_iff_ne, bne_eq_false_iff_eq, ne_eq] at *)
      all_goals
        refine bodyPost_ret (v := .tuple #[.int .i64 0, .int .i64 0, .int .i64 7]) (by simp [results, Try.results59, go_sem, *]) rfl ⟨rfl, ?_⟩
        repeat' (first | exact Below.refl _ _ | refine Below.drew ?_ | refine below_drewN ?_ _ | refine Below.alloc ?_ (by first | omega | (simp <;> omega)) _ | refine Below.setCell ?_ (by first | omega | (simp <;> omega)) _ | refine Below.trans ?_ (Below.mono (by assumption) (by first | omega | (simp <;> omega))))
    · rw [if_neg h0]
      have e3 : ((((occ 0 xs).length : Nat) : Int) == 0) = false := by rw [beq_eq_false_iff_ne]; omega
      have e4 : (xs.sum == 0) = false := by simpa using fun h => h0 (hos.2 h)
      clear h h0 hos
      generalize (((occ 0 xs).length : Nat) : Int) = D at e2 e3
      go_enter Try.func59, Try.ntmps59
      go_wp2_with (first | (go_at_call 25; refine (total_p _ _ _ _ (ha.later (by repeat' (first | exact Below.refl _ _ | refine Below.drew ?_ | refine below_drewN ?_ _ | refine Below.alloc ?_ (by first | omega | (simp <;> omega)) _ | refine Below.setCell ?_ (by first | omega | (simp <;> omega)) _ | refine Below.trans ?_ (Below.mono (by assumption) (by first | omega | (simp <;> omega)))))) hl).mono ?_; rintro e w1 ⟨rfl, hb⟩; have hsz := hb.size; (try simp at hsz)) | (go_at_call 27; refine (distinct_p _ _ _ _ (ha.later (by repeat' (first | exact Below.refl _ _ | refine Below.drew ?_ | refine below_drewN ?_ _ | refine Below.alloc ?_ (by first | omega | (simp <;> omega)) _ | refine Below.setCell ?_ (by first | omega | (simp <;> omega)) _ | refine Below.trans ?_ (Below.mono (by assumption) (by first | omega | (simp <;> omega)))))) hl).mono ?_; rintro e w1 ⟨rfl, hb⟩; have hsz := hb.size; (try simp at hsz)))
      repeat' (first | (go_region <;> go_wp2_with (first | (go_at_call 25; refine (total_p _ _ _ _ (ha.later (by repeat' (first | exact Below.refl _ _ | refine Below.drew ?_ | refine below_drewN ?_ _ | refine Below.alloc ?_ (by first | omega | (simp <;> omega)) _ | refine Below.setCell ?_ (by first | omega | (simp <;> omega)) _ | refine Below.trans ?_ (Below.mono (by assumption) (by first | omega | (simp <;> omega)))))) hl).mono ?_; rintro e w1 ⟨rfl, hb⟩; have hsz := hb.size; (try simp at hsz)) | (go_at_call 27; refine (distinct_p _ _ _ _ (ha.later (by repeat' (first | exact Below.refl _ _ | refine Below.drew ?_ | refine below_drewN ?_ _ | refine Below.alloc ?_ (by first | omega | (simp <;> omega)) _ | refine Below.setCell ?_ (by first | omega | (simp <;> omega)) _ | refine Below.trans ?_ (Below.mono (by assumption) (by first | omega | (simp <;> omega)))))) hl).mono ?_; rintro e w1 ⟨rfl, hb⟩; have hsz := hb.size; (try simp at hsz)))))
      all_goals go_light
      all_goals (try simp only [beq_iff_eq, beq_eq_false_iff_ne, bne_iff_ne, bne_eq_false_iff_eq, ne_eq] at *)
      all_goals
        refine bodyPost_ret (v := .tuple #[.int .i64 (xs.sum), .int .i64 D, .int .i64 0]) (by simp [results, Try.results59, go_sem, *]) rfl ⟨rfl, ?_⟩
        repeat' (first | exact Below.refl _ _ | refine Below.drew ?_ | refine below_drewN ?_ _ | refine Below.alloc ?_ (by first | omega | (simp <;> omega)) _ | refine Below.setCell ?_ (by first | omega | (simp <;> omega)) _ | refine Below.trans ?_ (Below.mono (by assumption) (by first | omega | (simp <;> omega))))
  · rw [if_neg h]
    have e1 : rTot xs = (0, cchk xs) := by unfold rTot; rw [if_neg h]
    have e3 : (cchk xs != 0) = true := by simpa using h
    clear h
    go_enter Try.func59, Try.ntmps59
    go_wp2_with (first | (go_at_call 25; refine (total_p _ _ _ _ (ha.later (by repeat' (first | exact Below.refl _ _ | refine Below.drew ?_ | refine below_drewN ?_ _ | refine Below.alloc ?_ (by first | omega | (simp <;> omega)) _ | refine Below.setCell ?_ (by first | omega | (simp <;> omega)) _ | refine Below.trans ?_ (Below.mono (by assumption) (by first | omega | (simp <;> omega)))))) hl).mono ?_; rintro e w1 ⟨rfl, hb⟩; have hsz := hb.size; (try simp at hsz)) | (go_at_call 27; refine (distinct_p _ _ _ _ (ha.later (by repeat' (first | exact Below.refl _ _ | refine Below.drew ?_ | refine below_drewN ?_ _ | refine Below.alloc ?_ (by first | omega | (simp <;> omega)) _ | refine Below.setCell ?_ (by first | omega | (simp <;> omega)) _ | refine Below.trans ?_ (Below.mono (by assumption) (by first | omega | (simp <;> omega)))))) hl).mono ?_; rintro e w1 ⟨rfl, hb⟩; have hsz := hb.size; (try simp at hsz)))
    repeat' (first | (go_region <;> go_wp2_with (first | (go_at_call 25; refine (total_p _ _ _ _ (ha.later (by repeat' (first | exact Below.refl _ _ | refine Below.drew ?_ | refine below_drewN ?_ _ | refine Below.alloc ?_ (by first | omega | (simp <;> omega)) _ | refine Below.setCell ?_ (by first | omega | (simp <;> omega)) _ | refine Below.trans ?_ (Below.mono (by assumption) (by first | omega | (simp <;> omega)))))) hl).mono ?_; rintro e w1 ⟨rfl, hb⟩; have hsz := hb.size; (try simp at hsz)) | (go_at_call 27; refine (distinct_p _ _ _ _ (ha.later (by repeat' (first | exact Below.refl _ _ | refine Below.drew ?_ | refine below_drewN ?_ _ | refine Below.alloc ?_ (by first | omega | (simp <;> omega)) _ | refine Below.setCell ?_ (by first | omega | (simp <;> omega)) _ | refine Below.trans ?_ (Below.mono (by assumption) (by first | omega | (simp <;> omega)))))) hl).mono ?_; rintro e w1 ⟨rfl, hb⟩; have hsz := hb.size; (try simp at hsz)))))
    all_goals go_light
    all_goals (try simp only [beq_iff_eq, beq_eq_false_iff_ne, bne_iff_ne, bne_eq_false_iff_eq, ne_eq] at *)
    all_goals
      refine bodyPost_ret (v := .tuple #[.int .i64 0, .int .i64 0, .int .i64 (cchk xs)]) (by simp [results, Try.results59, go_sem, *]) rfl ⟨rfl, ?_⟩
      repeat' (first | exact Below.refl _ _ | refine Below.drew ?_ | refine below_drewN ?_ _ | refine Below.alloc ?_ (by first | omega | (simp <;> omega)) _ | refine Below.setCell ?_ (by first | omega | (simp <;> omega)) _ | refine Below.trans ?_ (Below.mono (by assumption) (by first | omega | (simp <;> omega))))

theorem given_p (a : Option Addr) (xs : List Int) (cap : Nat) (w : World) (ha : Row .i64 w a xs) (hl : xs.length ≤ 9223372036854775807) :
    Calls Try.prog 62 #[.slice a xs.length cap] w fun e w' => e = .returned (.tuple #[.int .i64 (rChk xs).1, .int .i64 (rChk xs).2.1, .int .i64 (rChk xs).2.2]) ∧ Below w.heap.size w w' := by
  unfold rChk
  by_cases h : cchk xs = 0
  · have e1 : rTot xs = (xs.sum, 0) := by unfold rTot; rw [if_pos h]
    have e2 : rDist xs = ((((occ 0 xs).length : Nat) : Int), 0) := by unfold rDist; rw [if_pos h]
    rw [if_pos h]
    have hos := occ_sum (cchk_ok h).2.1
    by_cases h0 : (occ 0 xs).length = 0
    · rw [if_pos h0]
      have e3 : ((((occ 0 xs).length : Nat) : Int) == 0) = true := by rw [h0]; rfl
      have e4 : (xs.sum == 0) = true := by simpa using hos.1 h0
      clear h h0 hos
      go_enter Try.func62, Try.ntmps62
      go_wp2_with (first | (go_at_call 26; refine (rtotal_p _ _ _ _ (ha.later (by repeat' (first | exact Below.refl _ _ | refine Below.drew ?_ | refine below_drewN ?_ _ | refine Below.alloc ?_ (by first | omega | (simp <;> omega)) _ | refine Below.setCell ?_ (by first | omega | (simp <;> omega)) _ | refine Below.trans ?_ (Below.mono (by assumption) (by first | omega | (simp <;> omega)))))) hl).mono ?_; rintro e w1 ⟨rfl, hb⟩; have hsz := hb.size; (try simp at hsz)) | (go_at_call 28; refine (rdistinct_p _ _ _ _ (ha.later (by repeat' (first | exact Below.refl _ _ | refine Below.drew ?_ | refine below_drewN ?_ _ | refine Below.alloc ?_ (by first | omega | (simp <;> omega)) _ | refine Below.setCell ?_ (by first | omega | (simp <;> omega)) _ | refine Below.trans ?_ (Below.mono (by assumption) (by first | omega | (simp <;> omega)))))) hl).mono ?_; rintro e w1 ⟨rfl, hb⟩; have hsz := hb.size; (try simp at hsz)))
      repeat' (first | (go_region <;> go_wp2_with (first | (go_at_call 26; refine (rtotal_p _ _ _ _ (ha.later (by repeat' (first | exact Below.refl _ _ | refine Below.drew ?_ | refine below_drewN ?_ _ | refine Below.alloc ?_ (by first | omega | (simp <;> omega)) _ | refine Below.setCell ?_ (by first | omega | (simp <;> omega)) _ | refine Below.trans ?_ (Below.mono (by assumption) (by first | omega | (simp <;> omega)))))) hl).mono ?_; rintro e w1 ⟨rfl, hb⟩; have hsz := hb.size; (try simp at hsz)) | (go_at_call 28; refine (rdistinct_p _ _ _ _ (ha.later (by repeat' (first | exact Below.refl _ _ | refine Below.drew ?_ | refine below_drewN ?_ _ | refine Below.alloc ?_ (by first | omega | (simp <;> omega)) _ | refine Below.setCell ?_ (by first | omega | (simp <;> omega)) _ | refine Below.trans ?_ (Below.mono (by assumption) (by first | omega | (simp <;> omega)))))) hl).mono ?_; rintro e w1 ⟨rfl, hb⟩; have hsz := hb.size; (try simp at hsz)))))
      all_goals go_light
      all_goals (try simp only [beq_iff_eq, beq_eq_false_iff_ne, bne_iff_ne, bne_eq_false_iff_eq, ne_eq] at *)
      all_goals
        refine bodyPost_ret (v := .tuple #[.int .i64 0, .int .i64 0, .int .i64 7]) (by simp [results, Try.results62, go_sem, *]) rfl ⟨rfl, ?_⟩
        repeat' (first | exact Below.refl _ _ | refine Below.drew ?_ | refine below_drewN ?_ _ | refine Below.alloc ?_ (by first | omega | (simp <;> omega)) _ | refine Below.setCell ?_ (by first | omega | (simp <;> omega)) _ | refine Below.trans ?_ (Below.mono (by assumption) (by first | omega | (simp <;> omega))))
    · rw [if_neg h0]
      have e3 : ((((occ 0 xs).length : Nat) : Int) == 0) = false := by rw [beq_eq_false_iff_ne]; omega
      have e4 : (xs.sum == 0) = false := by simpa using fun h => h0 (hos.2 h)
      clear h h0 hos
      generalize (((occ 0 xs).length : Nat) : Int) = D at e2 e3
      go_enter Try.func62, Try.ntmps62
      go_wp2_with (first | (go_at_call 26; refine (rtotal_p _ _ _ _ (ha.later (by repeat' (first | exact Below.refl _ _ | refine Below.drew ?_ | refine below_drewN ?_ _ | refine Below.alloc ?_ (by first | omega | (simp <;> omega)) _ | refine Below.setCell ?_ (by first | omega | (simp <;> omega)) _ | refine Below.trans ?_ (Below.mono (by assumption) (by first | omega | (simp <;> omega)))))) hl).mono ?_; rintro e w1 ⟨rfl, hb⟩; have hsz := hb.size; (try simp at hsz)) | (go_at_call 28; refine (rdistinct_p _ _ _ _ (ha.later (by repeat' (first | exact Below.refl _ _ | refine Below.drew ?_ | refine below_drewN ?_ _ | refine Below.alloc ?_ (by first | omega | (simp <;> omega)) _ | refine Below.setCell ?_ (by first | omega | (simp <;> omega)) _ | refine Below.trans ?_ (Below.mono (by assumption) (by first | omega | (simp <;> omega)))))) hl).mono ?_; rintro e w1 ⟨rfl, hb⟩; have hsz := hb.size; (try simp at hsz)))
      repeat' (first | (go_region <;> go_wp2_with (first | (go_at_call 26; refine (rtotal_p _ _ _ _ (ha.later (by repeat' (first | exact Below.refl _ _ | refine Below.drew ?_ | refine below_drewN ?_ _ | refine Below.alloc ?_ (by first | omega | (simp <;> omega)) _ | refine Below.setCell ?_ (by first | omega | (simp <;> omega)) _ | refine Below.trans ?_ (Below.mono (by assumption) (by first | omega | (simp <;> omega)))))) hl).mono ?_; rintro e w1 ⟨rfl, hb⟩; have hsz := hb.size; (try simp at hsz)) | (go_at_call 28; refine (rdistinct_p _ _ _ _ (ha.later (by repeat' (first | exact Below.refl _ _ | refine Below.drew ?_ | refine below_drewN ?_ _ | refine Below.alloc ?_ (by first | omega | (simp <;> omega)) _ | refine Below.setCell ?_ (by first | omega | (simp <;> omega)) _ | refine Below.trans ?_ (Below.mono (by assumption) (by first | omega | (simp <;> omega)))))) hl).mono ?_; rintro e w1 ⟨rfl, hb⟩; have hsz := hb.size; (try simp at hsz)))))
      all_goals go_light
      all_goals (try simp only [beq_iff_eq, beq_eq_false_iff_ne, bne_iff_ne, bne_eq_false_iff_eq, ne_eq] at *)
      all_goals
        refine bodyPost_ret (v := .tuple #[.int .i64 (xs.sum), .int .i64 D, .int .i64 0]) (by simp [results, Try.results62, go_sem, *]) rfl ⟨rfl, ?_⟩
        repeat' (first | exact Below.refl _ _ | refine Below.drew ?_ | refine below_drewN ?_ _ | refine Below.alloc ?_ (by first | omega | (simp <;> omega)) _ | refine Below.setCell ?_ (by first | omega | (simp <;> omega)) _ | refine Below.trans ?_ (Below.mono (by assumption) (by first | omega | (simp <;> omega))))
  · rw [if_neg h]
    have e1 : rTot xs = (0, cchk xs) := by unfold rTot; rw [if_neg h]
    have e3 : (cchk xs != 0) = true := by simpa using h
    clear h
    go_enter Try.func62, Try.ntmps62
    go_wp2_with (first | (go_at_call 26; refine (rtotal_p _ _ _ _ (ha.later (by repeat' (first | exact Below.refl _ _ | refine Below.drew ?_ | refine below_drewN ?_ _ | refine Below.alloc ?_ (by first | omega | (simp <;> omega)) _ | refine Below.setCell ?_ (by first | omega | (simp <;> omega)) _ | refine Below.trans ?_ (Below.mono (by assumption) (by first | omega | (simp <;> omega)))))) hl).mono ?_; rintro e w1 ⟨rfl, hb⟩; have hsz := hb.size; (try simp at hsz)) | (go_at_call 28; refine (rdistinct_p _ _ _ _ (ha.later (by repeat' (first | exact Below.refl _ _ | refine Below.drew ?_ | refine below_drewN ?_ _ | refine Below.alloc ?_ (by first | omega | (simp <;> omega)) _ | refine Below.setCell ?_ (by first | omega | (simp <;> omega)) _ | refine Below.trans ?_ (Below.mono (by assumption) (by first | omega | (simp <;> omega)))))) hl).mono ?_; rintro e w1 ⟨rfl, hb⟩; have hsz := hb.size; (try simp at hsz)))
    repeat' (first | (go_region <;> go_wp2_with (first | (go_at_call 26; refine (rtotal_p _ _ _ _ (ha.later (by repeat' (first | exact Below.refl _ _ | refine Below.drew ?_ | refine below_drewN ?_ _ | refine Below.alloc ?_ (by first | omega | (simp <;> omega)) _ | refine Below.setCell ?_ (by first | omega | (simp <;> omega)) _ | refine Below.trans ?_ (Below.mono (by assumption) (by first | omega | (simp <;> omega)))))) hl).mono ?_; rintro e w1 ⟨rfl, hb⟩; have hsz := hb.size; (try simp at hsz)) | (go_at_call 28; refine (rdistinct_p _ _ _ _ (ha.later (by repeat' (first | exact Below.refl _ _ | refine Below.drew ?_ | refine below_drewN ?_ _ | refine Below.alloc ?_ (by first | omega | (simp <;> omega)) _ | refine Below.setCell ?_ (by first | omega | (simp <;> omega)) _ | refine Below.trans ?_ (Below.mono (by assumption) (by first | omega | (simp <;> omega)))))) hl).mono ?_; rintro e w1 ⟨rfl, hb⟩; have hsz := hb.size; (try simp at hsz)))))
    all_goals go_light
    all_goals (try simp only [beq_iff_eq, beq_eq_false_iff_ne, bne_iff_ne, bne_eq_false_iff_eq, ne_eq] at *)
    all_goals
      refine bodyPost_ret (v := .tuple #[.int .i64 0, .int .i64 0, .int .i64 (cchk xs)]) (by simp [results, Try.results62, go_sem, *]) rfl ⟨rfl, ?_⟩
      repeat' (first | exact Below.refl _ _ | refine Below.drew ?_ | refine below_drewN ?_ _ | refine Below.alloc ?_ (by first | omega | (simp <;> omega)) _ | refine Below.setCell ?_ (by first | omega | (simp <;> omega)) _ | refine Below.trans ?_ (Below.mono (by assumption) (by first | omega | (simp <;> omega))))
end Go.Proofs.Ytgponpjlkebjcaa
