/-
  Accuracies, and sums of probabilities, walked.
-/
import Derived.Test.YtgponpjlkebjcaaRows
import Derived.Test.YtgponpjlkebjcaaNorm2
import Derived.Test.YtgponpjlkebjcaaCommon
import Derived.Deep.Light
import Derived.Shelf.Abstract
import Derived.Shelf.RegionOpen
import Derived.OwnWalkIn
import Derived.TacticsInMore
import Derived.LoopNIn
import Derived.LoopIn
import Derived.Outline
namespace Go.Proofs.Ytgponpjlkebjcaa
open Go.RowKit
set_option linter.unusedSimpArgs false
set_option linter.unusedVariables false
attribute [local go_sem] Oper.semAt_some

theorem ret_i {k : IntKind} {a b : Int} (h : a = b) : Ending.returned (.int k a) = .returned (.int k b) := by rw [h]
theorem ret_i2 {k : IntKind} {a b : Int} {v : Value} (h : a = b) : Ending.returned (.tuple #[.int k a, v]) = .returned (.tuple #[.int k b, v]) := by rw [h]
/-- The accuracy that counts of this sum, so many of which occur, want. -/
def lgw (t d : Nat) : Int := if 1 < t then max (max 5 (hi d + 1)) (hi (t - 1) - 2) else max 5 (hi d + 1)
/-- What Log returns. -/
def rLog (xs : List Int) (most : Int) : Int × Int :=
  if (rChk xs).2.2 ≠ 0 then (0, (rChk xs).2.2) else if most < 5 ∨ 12 < most then (0, 31) else if (2 : Int) ^ most.toNat < (rChk xs).2.1 then (0, 2) else (min most (lgw (rChk xs).1.toNat (rChk xs).2.1.toNat), 0)
theorem rChk_ok {xs : List Int} (h : (rChk xs).2.2 = 0) : ∃ t d : Nat, rChk xs = ((t : Int), (d : Int), 0) ∧ Hid (cchk xs = 0) ∧ Hid ((t : Int) = xs.sum) ∧ Hid (d = (occ 0 xs).length) ∧ 0 < d ∧ 0 < t ∧ t ≤ 1099511627776 ∧ d ≤ 256 ∧ d ≤ xs.length := by
  unfold rChk at h ⊢
  by_cases hc : cchk xs = 0
  · rw [if_pos hc] at h ⊢
    obtain ⟨h1, h2, h3, h4⟩ := cchk_ok hc
    have hos := occ_sum h2
    have hol : (occ 0 xs).length ≤ xs.length := by rw [occ_len]; exact List.length_filter_le _ _
    by_cases h0 : (occ 0 xs).length = 0
    · rw [if_pos h0] at h; simp at h
    · rw [if_neg h0]
      have : xs.sum ≠ 0 := fun e => h0 (hos.2 e)
      exact ⟨xs.sum.toNat, (occ 0 xs).length, by rw [show (xs.sum.toNat : Int) = xs.sum by omega], hc, Lib.hid (by omega), rfl, by omega, by omega, by omega, by omega, hol⟩
  · rw [if_neg hc] at h
    exact absurd h hc

set_option maxHeartbeats 2000000 in
theorem log_p (a : Option Addr) (xs : List Int) (cap : Nat) (most : Int) (w : World) (ha : Row .i64 w a xs) (hl : xs.length ≤ 9223372036854775807) :
    Calls Try.prog 43 #[.slice a xs.length cap, .int .i64 most] w fun e w' => e = .returned (.tuple #[.int .i64 (rLog xs most).1, .int .i64 (rLog xs most).2]) ∧ Below w.heap.size w w' := by
  have q1 := fun w h => checked_p a xs cap w h hl
  unfold rLog
  by_cases h0 : (rChk xs).2.2 = 0
  · rw [if_neg (by simpa using h0)]
    obtain ⟨t, d, e1, _, _, _, hd, ht, ht2, hd2, _⟩ := rChk_ok h0
    rw [e1] at q1 ⊢
    dsimp only at q1 ⊢
    by_cases h1 : most < 5 ∨ 12 < most
    · rw [if_pos h1]
      have h2 : most < 5 ∨ (¬ most < 5 ∧ 12 < most) := by omega
      clear h1 h0 e1
      rcases h2 with g1 | ⟨g1, g2⟩
      all_goals
        go_enter Try.func43, Try.ntmps43
        go_wp2_with (first | (go_at_call 59; refine (q1 _ (ha.later (by repeat' (first | exact Below.refl _ _ | refine Below.drew ?_ | refine below_drewN ?_ _ | refine Below.alloc ?_ (by first | omega | (simp <;> omega)) _ | refine Below.setCell ?_ (by first | omega | (simp <;> omega)) _ | refine Below.trans ?_ (Below.mono (by assumption) (by first | omega | (simp <;> omega))))))).mono ?_; rintro e w1 ⟨rfl, hb⟩; have hsz := hb.size; (try simp at hsz)) | (go_at_call 60; refine (qB _).mono ?_; rintro e w' ⟨rfl, rfl⟩) | (go_at_call 61; refine (qH _).mono ?_; rintro e w' ⟨rfl, rfl⟩))
        repeat' (first | (go_region <;> go_wp2_with (first | (go_at_call 59; refine (q1 _ (ha.later (by repeat' (first | exact Below.refl _ _ | refine Below.drew ?_ | refine below_drewN ?_ _ | refine Below.alloc ?_ (by first | omega | (simp <;> omega)) _ | refine Below.setCell ?_ (by first | omega | (simp <;> omega)) _ | refine Below.trans ?_ (Below.mono (by assumption) (by first | omega | (simp <;> omega))))))).mono ?_; rintro e w1 ⟨rfl, hb⟩; have hsz := hb.size; (try simp at hsz)) | (go_at_call 60; refine (qB _).mono ?_; rintro e w' ⟨rfl, rfl⟩) | (go_at_call 61; refine (qH _).mono ?_; rintro e w' ⟨rfl, rfl⟩))))
        all_goals go_light
        all_goals (try simp only [beq_iff_eq, beq_eq_false_iff_ne, bne_iff_ne, bne_eq_false_iff_eq, ne_eq] at *)
        all_goals
          refine bodyPost_ret (v := .tuple #[.int .i64 0, .int .i64 31]) (by simp [results, Try.results43, go_sem, *]) rfl ⟨rfl, ?_⟩
          repeat' (first | exact Below.refl _ _ | refine Below.drew ?_ | refine below_drewN ?_ _ | refine Below.alloc ?_ (by first | omega | (simp <;> omega)) _ | refine Below.setCell ?_ (by first | omega | (simp <;> omega)) _ | refine Below.trans ?_ (Below.mono (by assumption) (by first | omega | (simp <;> omega))))
    · rw [if_neg h1]
      obtain ⟨m, rfl⟩ : ∃ m : Nat, most = (m : Int) := ⟨most.toNat, by omega⟩
      rw [Int.toNat_natCast]
      have hp := pow12 m (by omega)
      have g1 : ¬ (m : Int) < 5 := by omega
      have g2 : ¬ (12 : Int) < (m : Int) := by omega
      obtain ⟨P, hP⟩ : ∃ P, (2 : Int) ^ m = P := ⟨_, rfl⟩
      rw [hP] at hp ⊢
      obtain ⟨p1, p2⟩ := hp
      by_cases h3 : P < (d : Int)
      · rw [if_pos h3]
        clear h0 e1 h1
        go_enter Try.func43, Try.ntmps43
        go_wp2_with (first | (go_at_call 59; refine (q1 _ (ha.later (by repeat' (first | exact Below.refl _ _ | refine Below.drew ?_ | refine below_drewN ?_ _ | refine Below.alloc ?_ (by first | omega | (simp <;> omega)) _ | refine Below.setCell ?_ (by first | omega | (simp <;> omega)) _ | refine Below.trans ?_ (Below.mono (by assumption) (by first | omega | (simp <;> omega))))))).mono ?_; rintro e w1 ⟨rfl, hb⟩; have hsz := hb.size; (try simp at hsz)) | (go_at_call 60; refine (qB _).mono ?_; rintro e w' ⟨rfl, rfl⟩) | (go_at_call 61; refine (qH _).mono ?_; rintro e w' ⟨rfl, rfl⟩))
        repeat' (first | (go_region <;> go_wp2_with (first | (go_at_call 59; refine (q1 _ (ha.later (by repeat' (first | exact Below.refl _ _ | refine Below.drew ?_ | refine below_drewN ?_ _ | refine Below.alloc ?_ (by first | omega | (simp <;> omega)) _ | refine Below.setCell ?_ (by first | omega | (simp <;> omega)) _ | refine Below.trans ?_ (Below.mono (by assumption) (by first | omega | (simp <;> omega))))))).mono ?_; rintro e w1 ⟨rfl, hb⟩; have hsz := hb.size; (try simp at hsz)) | (go_at_call 60; refine (qB _).mono ?_; rintro e w' ⟨rfl, rfl⟩) | (go_at_call 61; refine (qH _).mono ?_; rintro e w' ⟨rfl, rfl⟩))))
        all_goals go_light
        all_goals (try simp only [beq_iff_eq, beq_eq_false_iff_ne, bne_iff_ne, bne_eq_false_iff_eq, ne_eq] at *)
        all_goals
          refine bodyPost_ret (v := .tuple #[.int .i64 0, .int .i64 2]) (by simp [results, Try.results43, go_sem, *]) rfl ⟨rfl, ?_⟩
          repeat' (first | exact Below.refl _ _ | refine Below.drew ?_ | refine below_drewN ?_ _ | refine Below.alloc ?_ (by first | omega | (simp <;> omega)) _ | refine Below.setCell ?_ (by first | omega | (simp <;> omega)) _ | refine Below.trans ?_ (Below.mono (by assumption) (by first | omega | (simp <;> omega))))
      · rw [if_neg h3]
        simp only [Int.toNat_natCast]
        have qB := fun w => bits_s d w (by omega)
        have qH := fun w => high_s (t - 1) w (by omega)
        rw [show ((t - 1 : Nat) : Int) = (t : Int) - 1 by omega] at qH
        have b1 := hi_bd d (by omega)
        have b2 := hi_bd (t - 1) (by omega)
        unfold lgw
        obtain ⟨H1, hH1⟩ : ∃ H1, hi d = H1 := ⟨_, rfl⟩
        obtain ⟨H2, hH2⟩ : ∃ H2, hi (t - 1) = H2 := ⟨_, rfl⟩
        rw [hH1] at qB b1 ⊢
        rw [hH2] at qH b2 ⊢
        obtain ⟨b3, b4⟩ := b1
        obtain ⟨b5, b6⟩ := b2
        obtain ⟨Z, hZ⟩ : ∃ Z, (min (m : Int) (if 1 < t then max (max 5 (H1 + 1)) (H2 - 2) else max 5 (H1 + 1))) = Z := ⟨_, rfl⟩
        rw [hZ]
        have HZ := Lib.hid hZ
        clear h0 e1 h1 hH1 hH2 hZ
        by_cases ht1 : (1 : Int) < (t : Int)
        · have HZ2 : Hid (Z = min (m : Int) (max (max 5 (H1 + 1)) (H2 - 2))) := Lib.hid (by rw [← HZ.out, if_pos (by omega)])
          go_enter Try.func43, Try.ntmps43
          go_wp2_with (first | (go_at_call 59; refine (q1 _ (ha.later (by repeat' (first | exact Below.refl _ _ | refine Below.drew ?_ | refine below_drewN ?_ _ | refine Below.alloc ?_ (by first | omega | (simp <;> omega)) _ | refine Below.setCell ?_ (by first | omega | (simp <;> omega)) _ | refine Below.trans ?_ (Below.mono (by assumption) (by first | omega | (simp <;> omega))))))).mono ?_; rintro e w1 ⟨rfl, hb⟩; have hsz := hb.size; (try simp at hsz)) | (go_at_call 60; refine (qB _).mono ?_; rintro e w' ⟨rfl, rfl⟩) | (go_at_call 61; refine (qH _).mono ?_; rintro e w' ⟨rfl, rfl⟩))
          all_goals go_light
          all_goals (refine bodyPost_ret (v := .tuple #[.int .i64 Z, .int .i64 0]) (by have h9 := HZ2.out; simp [results, Try.results43, go_sem]; omega) rfl ⟨rfl, ?_⟩; repeat' (first | exact Below.refl _ _ | refine Below.drew ?_ | refine below_drewN ?_ _ | refine Below.alloc ?_ (by first | omega | (simp <;> omega)) _ | refine Below.setCell ?_ (by first | omega | (simp <;> omega)) _ | refine Below.trans ?_ (Below.mono (by assumption) (by first | omega | (simp <;> omega)))))
        · have HZ2 : Hid (Z = min (m : Int) (max 5 (H1 + 1))) := Lib.hid (by rw [← HZ.out, if_neg (by omega)])
          go_enter Try.func43, Try.ntmps43
          go_wp2_with (first | (go_at_call 59; refine (q1 _ (ha.later (by repeat' (first | exact Below.refl _ _ | refine Below.drew ?_ | refine below_drewN ?_ _ | refine Below.alloc ?_ (by first | omega | (simp <;> omega)) _ | refine Below.setCell ?_ (by first | omega | (simp <;> omega)) _ | refine Below.trans ?_ (Below.mono (by assumption) (by first | omega | (simp <;> omega))))))).mono ?_; rintro e w1 ⟨rfl, hb⟩; have hsz := hb.size; (try simp at hsz)) | (go_at_call 60; refine (qB _).mono ?_; rintro e w' ⟨rfl, rfl⟩) | (go_at_call 61; refine (qH _).mono ?_; rintro e w' ⟨rfl, rfl⟩))
          all_goals go_light
          all_goals (refine bodyPost_ret (v := .tuple #[.int .i64 Z, .int .i64 0]) (by have h9 := HZ2.out; simp [results, Try.results43, go_sem]; omega) rfl ⟨rfl, ?_⟩; repeat' (first | exact Below.refl _ _ | refine Below.drew ?_ | refine below_drewN ?_ _ | refine Below.alloc ?_ (by first | omega | (simp <;> omega)) _ | refine Below.setCell ?_ (by first | omega | (simp <;> omega)) _ | refine Below.trans ?_ (Below.mono (by assumption) (by first | omega | (simp <;> omega)))))
  · rw [if_pos h0]
    obtain ⟨E, hE⟩ : ∃ E, rChk xs = E := ⟨_, rfl⟩
    have hz : (rChk xs).1 = 0 ∧ (rChk xs).2.1 = 0 := by
      unfold rChk at h0 ⊢
      split
      · split
        · exact ⟨rfl, rfl⟩
        · rename_i h1 h2
          rw [if_pos h1, if_neg h2] at h0
          exact absurd rfl h0
      · exact ⟨rfl, rfl⟩
    rw [hE] at q1 h0 hz ⊢
    clear hE
    obtain ⟨E1, E2, E3⟩ := E
    dsimp only at q1 h0 hz ⊢
    obtain ⟨rfl, rfl⟩ := hz
    have h3 : (E3 != 0) = true := by simpa using h0
    clear h0
    go_enter Try.func43, Try.ntmps43
    go_wp2_with (first | (go_at_call 59; refine (q1 _ (ha.later (by repeat' (first | exact Below.refl _ _ | refine Below.drew ?_ | refine below_drewN ?_ _ | refine Below.alloc ?_ (by first | omega | (simp <;> omega)) _ | refine Below.setCell ?_ (by first | omega | (simp <;> omega)) _ | refine Below.trans ?_ (Below.mono (by assumption) (by first | omega | (simp <;> omega))))))).mono ?_; rintro e w1 ⟨rfl, hb⟩; have hsz := hb.size; (try simp at hsz)) | (go_at_call 60; refine (qB _).mono ?_; rintro e w' ⟨rfl, rfl⟩) | (go_at_call 61; refine (qH _).mono ?_; rintro e w' ⟨rfl, rfl⟩))
    repeat' (first | (go_region <;> go_wp2_with (first | (go_at_call 59; refine (q1 _ (ha.later (by repeat' (first | exact Below.refl _ _ | refine Below.drew ?_ | refine below_drewN ?_ _ | refine Below.alloc ?_ (by first | omega | (simp <;> omega)) _ | refine Below.setCell ?_ (by first | omega | (simp <;> omega)) _ | refine Below.trans ?_ (Below.mono (by assumption) (by first | omega | (simp <;> omega))))))).mono ?_; rintro e w1 ⟨rfl, hb⟩; have hsz := hb.size; (try simp at hsz)) | (go_at_call 60; refine (qB _).mono ?_; rintro e w' ⟨rfl, rfl⟩) | (go_at_call 61; refine (qH _).mono ?_; rintro e w' ⟨rfl, rfl⟩))))
    all_goals go_light
    all_goals (try simp only [beq_iff_eq, beq_eq_false_iff_ne, bne_iff_ne, bne_eq_false_iff_eq, ne_eq] at *)
    all_goals
      refine bodyPost_ret (v := .tuple #[.int .i64 0, .int .i64 E3]) (by simp [results, Try.results43, go_sem, *]) rfl ⟨rfl, ?_⟩
      repeat' (first | exact Below.refl _ _ | refine Below.drew ?_ | refine below_drewN ?_ _ | refine Below.alloc ?_ (by first | omega | (simp <;> omega)) _ | refine Below.setCell ?_ (by first | omega | (simp <;> omega)) _ | refine Below.trans ?_ (Below.mono (by assumption) (by first | omega | (simp <;> omega))))

set_option maxHeartbeats 2000000 in
theorem rlog_p (a : Option Addr) (xs : List Int) (cap : Nat) (most : Int) (w : World) (ha : Row .i64 w a xs) (hl : xs.length ≤ 9223372036854775807) :
    Calls Try.prog 44 #[.slice a xs.length cap, .int .i64 most] w fun e w' => e = .returned (.tuple #[.int .i64 (rLog xs most).1, .int .i64 (rLog xs most).2]) ∧ Below w.heap.size w w' := by
  have q1 := fun w h => given_p a xs cap w h hl
  unfold rLog
  by_cases h0 : (rChk xs).2.2 = 0
  · rw [if_neg (by simpa using h0)]
    obtain ⟨t, d, e1, _, _, _, hd, ht, ht2, hd2, _⟩ := rChk_ok h0
    rw [e1] at q1 ⊢
    dsimp only at q1 ⊢
    by_cases h1 : most < 5 ∨ 12 < most
    · rw [if_pos h1]
      have h2 : most < 5 ∨ (¬ most < 5 ∧ 12 < most) := by omega
      clear h1 h0 e1
      rcases h2 with g1 | ⟨g1, g2⟩
      all_goals
        go_enter Try.func44, Try.ntmps44
        go_wp2_with (first | (go_at_call 62; refine (q1 _ (ha.later (by repeat' (first | exact Below.refl _ _ | refine Below.drew ?_ | refine below_drewN ?_ _ | refine Below.alloc ?_ (by first | omega | (simp <;> omega)) _ | refine Below.setCell ?_ (by first | omega | (simp <;> omega)) _ | refine Below.trans ?_ (Below.mono (by assumption) (by first | omega | (simp <;> omega))))))).mono ?_; rintro e w1 ⟨rfl, hb⟩; have hsz := hb.size; (try simp at hsz)) | (go_at_call 63; refine (qB _).mono ?_; rintro e w' ⟨rfl, rfl⟩) | (go_at_call 64; refine (qH _).mono ?_; rintro e w' ⟨rfl, rfl⟩))
        repeat' (first | (go_region <;> go_wp2_with (first | (go_at_call 62; refine (q1 _ (ha.later (by repeat' (first | exact Below.refl _ _ | refine Below.drew ?_ | refine below_drewN ?_ _ | refine Below.alloc ?_ (by first | omega | (simp <;> omega)) _ | refine Below.setCell ?_ (by first | omega | (simp <;> omega)) _ | refine Below.trans ?_ (Below.mono (by assumption) (by first | omega | (simp <;> omega))))))).mono ?_; rintro e w1 ⟨rfl, hb⟩; have hsz := hb.size; (try simp at hsz)) | (go_at_call 63; refine (qB _).mono ?_; rintro e w' ⟨rfl, rfl⟩) | (go_at_call 64; refine (qH _).mono ?_; rintro e w' ⟨rfl, rfl⟩))))
        all_goals go_light
        all_goals (try simp only [beq_iff_eq, beq_eq_false_iff_ne, bne_iff_ne, bne_eq_false_iff_eq, ne_eq] at *)
        all_goals
          refine bodyPost_ret (v := .tuple #[.int .i64 0, .int .i64 31]) (by simp [results, Try.results44, go_sem, *]) rfl ⟨rfl, ?_⟩
          repeat' (first | exact Below.refl _ _ | refine Below.drew ?_ | refine below_drewN ?_ _ | refine Below.alloc ?_ (by first | omega | (simp <;> omega)) _ | refine Below.setCell ?_ (by first | omega | (simp <;> omega)) _ | refine Below.trans ?_ (Below.mono (by assumption) (by first | omega | (simp <;> omega))))
    · rw [if_neg h1]
      obtain ⟨m, rfl⟩ : ∃ m : Nat, most = (m : Int) := ⟨most.toNat, by omega⟩
      rw [Int.toNat_natCast]
      have hp := pow12 m (by omega)
      have g1 : ¬ (m : Int) < 5 := by omega
      have g2 : ¬ (12 : Int) < (m : Int) := by omega
      obtain ⟨P, hP⟩ : ∃ P, (2 : Int) ^ m = P := ⟨_, rfl⟩
      rw [hP] at hp ⊢
      obtain ⟨p1, p2⟩ := hp
      by_cases h3 : P < (d : Int)
      · rw [if_pos h3]
        clear h0 e1 h1
        go_enter Try.func44, Try.ntmps44
        go_wp2_with (first | (go_at_call 62; refine (q1 _ (ha.later (by repeat' (first | exact Below.refl _ _ | refine Below.drew ?_ | refine below_drewN ?_ _ | refine Below.alloc ?_ (by first | omega | (simp <;> omega)) _ | refine Below.setCell ?_ (by first | omega | (simp <;> omega)) _ | refine Below.trans ?_ (Below.mono (by assumption) (by first | omega | (simp <;> omega))))))).mono ?_; rintro e w1 ⟨rfl, hb⟩; have hsz := hb.size; (try simp at hsz)) | (go_at_call 63; refine (qB _).mono ?_; rintro e w' ⟨rfl, rfl⟩) | (go_at_call 64; refine (qH _).mono ?_; rintro e w' ⟨rfl, rfl⟩))
        repeat' (first | (go_region <;> go_wp2_with (first | (go_at_call 62; refine (q1 _ (ha.later (by repeat' (first | exact Below.refl _ _ | refine Below.drew ?_ | refine below_drewN ?_ _ | refine Below.alloc ?_ (by first | omega | (simp <;> omega)) _ | refine Below.setCell ?_ (by first | omega | (simp <;> omega)) _ | refine Below.trans ?_ (Below.mono (by assumption) (by first | omega | (simp <;> omega))))))).mono ?_; rintro e w1 ⟨rfl, hb⟩; have hsz := hb.size; (try simp at hsz)) | (go_at_call 63; refine (qB _).mono ?_; rintro e w' ⟨rfl, rfl⟩) | (go_at_call 64; refine (qH _).mono ?_; rintro e w' ⟨rfl, rfl⟩))))
        all_goals go_light
        all_goals (try simp only [beq_iff_eq, beq_eq_false_iff_ne, bne_iff_ne, bne_eq_false_iff_eq, ne_eq] at *)
        all_goals
          refine bodyPost_ret (v := .tuple #[.int .i64 0, .int .i64 2]) (by simp [results, Try.results44, go_sem, *]) rfl ⟨rfl, ?_⟩
          repeat' (first | exact Below.refl _ _ | refine Below.drew ?_ | refine below_drewN ?_ _ | refine Below.alloc ?_ (by first | omega | (simp <;> omega)) _ | refine Below.setCell ?_ (by first | omega | (simp <;> omega)) _ | refine Below.trans ?_ (Below.mono (by assumption) (by first | omega | (simp <;> omega))))
      · rw [if_neg h3]
        simp only [Int.toNat_natCast]
        have qB := fun w => rbits_s d w (by omega)
        have qH := fun w => rhigh_s (t - 1) w (by omega)
        rw [show ((t - 1 : Nat) : Int) = (t : Int) - 1 by omega] at qH
        have b1 := hi_bd d (by omega)
        have b2 := hi_bd (t - 1) (by omega)
        unfold lgw
        obtain ⟨H1, hH1⟩ : ∃ H1, hi d = H1 := ⟨_, rfl⟩
        obtain ⟨H2, hH2⟩ : ∃ H2, hi (t - 1) = H2 := ⟨_, rfl⟩
        rw [hH1] at qB b1 ⊢
        rw [hH2] at qH b2 ⊢
        obtain ⟨b3, b4⟩ := b1
        obtain ⟨b5, b6⟩ := b2
        obtain ⟨Z, hZ⟩ : ∃ Z, (min (m : Int) (if 1 < t then max (max 5 (H1 + 1)) (H2 - 2) else max 5 (H1 + 1))) = Z := ⟨_, rfl⟩
        rw [hZ]
        have HZ := Lib.hid hZ
        clear h0 e1 h1 hH1 hH2 hZ
        by_cases ht1 : (1 : Int) < (t : Int)
        · have HZ2 : Hid (Z = min (m : Int) (max (max 5 (H1 + 1)) (H2 - 2))) := Lib.hid (by rw [← HZ.out, if_pos (by omega)])
          go_enter Try.func44, Try.ntmps44
          go_wp2_with (first | (go_at_call 62; refine (q1 _ (ha.later (by repeat' (first | exact Below.refl _ _ | refine Below.drew ?_ | refine below_drewN ?_ _ | refine Below.alloc ?_ (by first | omega | (simp <;> omega)) _ | refine Below.setCell ?_ (by first | omega | (simp <;> omega)) _ | refine Below.trans ?_ (Below.mono (by assumption) (by first | omega | (simp <;> omega))))))).mono ?_; rintro e w1 ⟨rfl, hb⟩; have hsz := hb.size; (try simp at hsz)) | (go_at_call 63; refine (qB _).mono ?_; rintro e w' ⟨rfl, rfl⟩) | (go_at_call 64; refine (qH _).mono ?_; rintro e w' ⟨rfl, rfl⟩))
          all_goals go_light
          all_goals (refine bodyPost_ret (v := .tuple #[.int .i64 Z, .int .i64 0]) (by have h9 := HZ2.out; simp [results, Try.results44, go_sem]; omega) rfl ⟨rfl, ?_⟩; repeat' (first | exact Below.refl _ _ | refine Below.drew ?_ | refine below_drewN ?_ _ | refine Below.alloc ?_ (by first | omega | (simp <;> omega)) _ | refine Below.setCell ?_ (by first | omega | (simp <;> omega)) _ | refine Below.trans ?_ (Below.mono (by assumption) (by first | omega | (simp <;> omega)))))
        · have HZ2 : Hid (Z = min (m : Int) (max 5 (H1 + 1))) := Lib.hid (by rw [← HZ.out, if_neg (by omega)])
          go_enter Try.func44, Try.ntmps44
          go_wp2_with (first | (go_at_call 62; refine (q1 _ (ha.later (by repeat' (first | exact Below.refl _ _ | refine Below.drew ?_ | refine below_drewN ?_ _ | refine Below.alloc ?_ (by first | omega | (simp <;> omega)) _ | refine Below.setCell ?_ (by first | omega | (simp <;> omega)) _ | refine Below.trans ?_ (Below.mono (by assumption) (by first | omega | (simp <;> omega))))))).mono ?_; rintro e w1 ⟨rfl, hb⟩; have hsz := hb.size; (try simp at hsz)) | (go_at_call 63; refine (qB _).mono ?_; rintro e w' ⟨rfl, rfl⟩) | (go_at_call 64; refine (qH _).mono ?_; rintro e w' ⟨rfl, rfl⟩))
          all_goals go_light
          all_goals (refine bodyPost_ret (v := .tuple #[.int .i64 Z, .int .i64 0]) (by have h9 := HZ2.out; simp [results, Try.results44, go_sem]; omega) rfl ⟨rfl, ?_⟩; repeat' (first | exact Below.refl _ _ | refine Below.drew ?_ | refine below_drewN ?_ _ | refine Below.alloc ?_ (by first | omega | (simp <;> omega)) _ | refine Below.setCell ?_ (by first | omega | (simp <;> omega)) _ | refine Below.trans ?_ (Below.mono (by assumption) (by first | omega | (simp <;> omega)))))
  · rw [if_pos h0]
    obtain ⟨E, hE⟩ : ∃ E, rChk xs = E := ⟨_, rfl⟩
    have hz : (rChk xs).1 = 0 ∧ (rChk xs).2.1 = 0 := by
      unfold rChk at h0 ⊢
      split
      · split
        · exact ⟨rfl, rfl⟩
        · rename_i h1 h2
          rw [if_pos h1, if_neg h2] at h0
          exact absurd rfl h0
      · exact ⟨rfl, rfl⟩
    rw [hE] at q1 h0 hz ⊢
    clear hE
    obtain ⟨E1, E2, E3⟩ := E
    dsimp only at q1 h0 hz ⊢
    obtain ⟨rfl, rfl⟩ := hz
    have h3 : (E3 != 0) = true := by simpa using h0
    clear h0
    go_enter Try.func44, Try.ntmps44
    go_wp2_with (first | (go_at_call 62; refine (q1 _ (ha.later (by repeat' (first | exact Below.refl _ _ | refine Below.drew ?_ | refine below_drewN ?_ _ | refine Below.alloc ?_ (by first | omega | (simp <;> omega)) _ | refine Below.setCell ?_ (by first | omega | (simp <;> omega)) _ | refine Below.trans ?_ (Below.mono (by assumption) (by first | omega | (simp <;> omega))))))).mono ?_; rintro e w1 ⟨rfl, hb⟩; have hsz := hb.size; (try simp at hsz)) | (go_at_call 63; refine (qB _).mono ?_; rintro e w' ⟨rfl, rfl⟩) | (go_at_call 64; refine (qH _).mono ?_; rintro e w' ⟨rfl, rfl⟩))
    repeat' (first | (go_region <;> go_wp2_with (first | (go_at_call 62; refine (q1 _ (ha.later (by repeat' (first | exact Below.refl _ _ | refine Below.drew ?_ | refine below_drewN ?_ _ | refine Below.alloc ?_ (by first | omega | (simp <;> omega)) _ | refine Below.setCell ?_ (by first | omega | (simp <;> omega)) _ | refine Below.trans ?_ (Below.mono (by assumption) (by first | omega | (simp <;> omega))))))).mono ?_; rintro e w1 ⟨rfl, hb⟩; have hsz := hb.size; (try simp at hsz)) | (go_at_call 63; refine (qB _).mono ?_; rintro e w' ⟨rfl, rfl⟩) | (go_at_call 64; refine (qH _).mono ?_; rintro e w' ⟨rfl, rfl⟩))))
    all_goals go_light
    all_goals (try simp only [beq_iff_eq, beq_eq_false_iff_ne, bne_iff_ne, bne_eq_false_iff_eq, ne_eq] at *)
    all_goals
      refine bodyPost_ret (v := .tuple #[.int .i64 0, .int .i64 E3]) (by simp [results, Try.results44, go_sem, *]) rfl ⟨rfl, ?_⟩
      repeat' (first | exact Below.refl _ _ | refine Below.drew ?_ | refine below_drewN ?_ _ | refine Below.alloc ?_ (by first | omega | (simp <;> omega)) _ | refine Below.setCell ?_ (by first | omega | (simp <;> omega)) _ | refine Below.trans ?_ (Below.mono (by assumption) (by first | omega | (simp <;> omega))))
end Go.Proofs.Ytgponpjlkebjcaa
