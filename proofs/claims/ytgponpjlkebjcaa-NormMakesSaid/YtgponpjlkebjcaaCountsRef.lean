/-
  The reference's functions of counts, walked.
-/
import Derived.Test.YtgponpjlkebjcaaRows
import Derived.Test.YtgponpjlkebjcaaCountsRange
import Derived.Test.YtgponpjlkebjcaaAppend
import Derived.Test.YtgponpjlkebjcaaCommon
import Derived.Deep.Light
import Derived.Shelf.Abstract
import Derived.Shelf.RegionOpen
import Derived.OwnWalkIn
import Derived.TacticsInMore
import Derived.LoopNIn
import Derived.LoopIn
namespace Go.Proofs.Ytgponpjlkebjcaa
open Go.RowKit
set_option linter.unusedSimpArgs false
set_option linter.unusedVariables false
attribute [local go_sem] Oper.semAt_some

theorem cchk_full {xs : List Int} (h : 256 < xs.length) : cchk xs = 6 := by unfold cchk; rw [if_pos h]
theorem cchk_bad {xs : List Int} (h : ¬ 256 < xs.length) (hr : rng xs = false) : cchk xs = 2 := by
  unfold cchk
  rw [if_neg h, cok_iff _ _ (by omega), hr]
  rfl
theorem cchk_sum {xs : List Int} (h : ¬ 256 < xs.length) (hr : 1099511627776 < xs.sum) : cchk xs = 2 := by
  unfold cchk
  rw [if_neg h, cok_iff _ _ (by omega), if_neg]
  simp
  omega
theorem cchk_zero {xs : List Int} (h : ¬ 256 < xs.length) (hr : rng xs = true) (hs : xs.sum ≤ 1099511627776) : cchk xs = 0 := by
  unfold cchk
  rw [if_neg h, cok_iff _ _ (by omega), hr, if_pos]
  simp
  omega
set_option maxHeartbeats 1000000 in
theorem rcheck_p (a : Option Addr) (xs : List Int) (cap : Nat) (w : World) (ha : Row .i64 w a xs) (hl : xs.length ≤ 9223372036854775807) :
    Calls Try.prog 24 #[.slice a xs.length cap] w fun e w' => e = .returned (.int .i64 (cchk xs)) ∧ Below w.heap.size w w' := by
  by_cases h : 256 < xs.length
  · rw [cchk_full h]
    go_enter Try.func24, Try.ntmps24
    go_wp2
    repeat' (first | (go_region <;> go_wp2))
    all_goals go_light
    all_goals (try simp only [beq_iff_eq, beq_eq_false_iff_ne, bne_iff_ne, bne_eq_false_iff_eq, ne_eq] at *)
    all_goals
      refine bodyPost_ret (v := .int .i64 6) (by simp [results, Try.results24, go_sem, *]) rfl ⟨rfl, ?_⟩
      repeat' (first | exact Below.refl _ _ | refine Below.drew ?_ | refine below_drewN ?_ _ | refine Below.alloc ?_ (by first | omega | (simp <;> omega)) _ | refine Below.setCell ?_ (by first | omega | (simp <;> omega)) _ | refine Below.trans ?_ (Below.mono (by assumption) (by first | omega | (simp <;> omega))))
  · have hl2 : (xs.length : Int) ≤ 256 := by omega
    have H6 := Lib.hid h
    go_enter Try.func24, Try.ntmps24
    go_wp2
    go_loopw [3, 4] (fun n i wr => ∃ (k : Nat) (s : Int), k ≤ xs.length ∧ i = .int .i64 k ∧ n = .int .i64 s ∧ 0 ≤ s ∧ s ≤ 1099511627776 * (k : Int) ∧ Hid ((xs.take k).sum = s) ∧ Hid (rng (xs.take k) = true) ∧ Below w.heap.size w wr) (fun _ i _ => xs.length - (intOf i).toNat)
    case atStart => exact ⟨0, 0, by omega, rfl, rfl, by omega, by omega, rfl, rfl, Below.refl _ _⟩
    case round =>
      obtain ⟨k, s, hk, rfl, rfl, s0, s1, HS, HR, hb⟩ := hrel
      by_cases hlt : k < xs.length
      · obtain ⟨b1, o1, rfl, hb1, hc1⟩ := (ha.later hb).at hlt
        have c1 := hc1 k hlt
        obtain ⟨x, hx1⟩ : ∃ x, xs.getD k 0 = x := ⟨_, rfl⟩
        rw [hx1] at c1
        have HX1 := Lib.hid hx1
        clear hc1 hx1
        have i01 : (0 : Int) ≤ (k : Int) := by omega
        have i11 : (k : Int) < (xs.length : Int) := by omega
        have hs2 : s ≤ 1099511627776 * 256 := by omega
        by_cases hx0 : x < 0
        · have e2 := Lib.hid (cchk_bad H6.out (rng_take_bad hlt HX1.out (by omega)))
          clear h
          go_wp2
          go_ret
          exact ⟨by rw [e2.out]; rfl, hb⟩
        · by_cases hx1 : 1099511627776 < x
          · have e2 := Lib.hid (cchk_bad H6.out (rng_take_bad hlt HX1.out (by omega)))
            clear h
            go_wp2
            go_ret
            exact ⟨by rw [e2.out]; rfl, hb⟩
          · clear h
            go_wp2
            go_roundw
            case rel => exact ⟨k + 1, s + x, by omega, by go_num, rfl, by omega, by push_cast; omega, by show _ = _; rw [sum_take_succ hlt HX1.out, HS.out], by show _ = _; rw [rng_take_succ hlt HX1.out, HR.out]; simp; omega, hb⟩
            case measure => go_light; simp [intOf] <;> omega
      · have hkk : k = xs.length := by omega
        have e1 : xs.sum = s := by have := HS.out; rwa [hkk, List.take_length] at this
        have e2 : rng xs = true := by have := HR.out; rwa [hkk, List.take_length] at this
        have hs2 : s ≤ 1099511627776 * 256 := by omega
        by_cases hx1 : 1099511627776 < s
        · have e3 := Lib.hid (cchk_sum h (by rw [e1]; exact hx1))
          clear h e1 e2 hkk
          go_wp2
          go_ret
          exact ⟨by rw [e3.out]; rfl, hb⟩
        · have e3 := Lib.hid (cchk_zero h e2 (by rw [e1]; omega))
          clear h e1 e2 hkk
          go_wp2
          go_ret
          exact ⟨by rw [e3.out]; rfl, hb⟩

theorem rtotal_e (a : Option Addr) (xs : List Int) (cap : Nat) (w : World) (ha : Row .i64 w a xs) (hl : xs.length ≤ 9223372036854775807) (h0 : (cchk xs != 0) = true) :
    Calls Try.prog 26 #[.slice a xs.length cap] w fun e w' => e = .returned (.tuple #[.int .i64 0, .int .i64 (cchk xs)]) ∧ Below w.heap.size w w' := by
  go_enter Try.func26, Try.ntmps26
  go_wp2_with ((go_at_call 24; refine (rcheck_p _ _ _ _ ha hl).mono ?_; rintro e w1 ⟨rfl, hb⟩; have hsz := hb.size; (try simp at hsz); (first | (have hbl := blater2 HA (by first | exact Nat.le_refl _ | (simp; done) | (simp; omega)) hb; obtain ⟨hcc, hff, HA, hne, hne'⟩ := hbl) | (obtain ⟨hcc, hff, HA, hne, hne'⟩ := blater1 hb)); (try simp only [World.size_alloc, World.size_setCell] at HA)))
  repeat' (first | (go_region <;> go_wp2_with ((go_at_call 24; refine (rcheck_p _ _ _ _ ha hl).mono ?_; rintro e w1 ⟨rfl, hb⟩; have hsz := hb.size; (try simp at hsz); (first | (have hbl := blater2 HA (by first | exact Nat.le_refl _ | (simp; done) | (simp; omega)) hb; obtain ⟨hcc, hff, HA, hne, hne'⟩ := hbl) | (obtain ⟨hcc, hff, HA, hne, hne'⟩ := blater1 hb)); (try simp only [World.size_alloc, World.size_setCell] at HA)))))
  all_goals go_light
  all_goals (try simp only [beq_iff_eq, beq_eq_false_iff_ne, bne_iff_ne, bne_eq_false_iff_eq, ne_eq] at *)
  all_goals
    refine bodyPost_ret (v := .tuple #[.int .i64 0, .int .i64 (cchk xs)]) (by simp [results, Try.results26, go_sem, *]) rfl ⟨rfl, ?_⟩
    repeat' (first | exact Below.refl _ _ | refine Below.drew ?_ | refine below_drewN ?_ _ | refine Below.alloc ?_ (by first | omega | (simp <;> omega)) _ | refine Below.setCell ?_ (by first | omega | (simp <;> omega)) _ | refine Below.trans ?_ (Below.mono (by assumption) (by first | omega | (simp <;> omega))))

theorem rng_at {xs : List Int} {k : Nat} {x : Int} (hr : rng xs = true) (h : k < xs.length) (hx : xs.getD k 0 = x) : 0 ≤ x ∧ x ≤ 1099511627776 := by
  simp [h] at hx
  simp [rng] at hr
  have := hr xs[k] (by simp)
  rwa [hx] at this
theorem occTo_le (xs : List Int) (k : Nat) : occTo xs k ≤ k := by
  unfold occTo
  exact Nat.le_trans (List.length_filter_le _ _) (List.length_take_le _ _)
set_option maxHeartbeats 1000000 in
theorem rtotal_1 (a : Option Addr) (xs : List Int) (cap : Nat) (w : World) (ha : Row .i64 w a xs) (hl : xs.length ≤ 9223372036854775807) (hc : cchk xs = 0) :
    Calls Try.prog 26 #[.slice a xs.length cap] w fun e w' => e = .returned (.tuple #[.int .i64 xs.sum, .int .i64 0]) ∧ Below w.heap.size w w' := by
  obtain ⟨h1, h2, h3, h4⟩ := cchk_ok hc
  have hl2 : (xs.length : Int) ≤ 256 := by omega
  have HR := Lib.hid h2
  clear h2 h3 h4 h1
  go_enter Try.func26, Try.ntmps26
  go_wp2_with ((go_at_call 24; refine (rcheck_p _ _ _ _ ha hl).mono ?_; rintro e w1 ⟨rfl, hb⟩; have hsz := hb.size; (try simp at hsz); (first | (have hbl := blater2 HA (by first | exact Nat.le_refl _ | (simp; done) | (simp; omega)) hb; obtain ⟨hcc, hff, HA, hne, hne'⟩ := hbl) | (obtain ⟨hcc, hff, HA, hne, hne'⟩ := blater1 hb)); (try simp only [World.size_alloc, World.size_setCell] at HA)))
  go_loopw [5, 6] (fun n i wr => ∃ (k : Nat) (s : Int), k ≤ xs.length ∧ i = .int .i64 k ∧ n = .int .i64 s ∧ 0 ≤ s ∧ s ≤ 1099511627776 * (k : Int) ∧ Hid ((xs.take k).sum = s) ∧ Below w.heap.size w wr) (fun _ i _ => xs.length - (intOf i).toNat)
  case atStart => exact ⟨0, 0, by omega, rfl, rfl, by omega, by omega, rfl, hb⟩
  case round =>
    clear hcc hff hne hne' HA hsz hb
    obtain ⟨k, s, hk, rfl, rfl, s0, s1, HS, hb⟩ := hrel
    by_cases hlt : k < xs.length
    · have hrx := fun x hx => rng_at HR.out hlt (x := x) hx
      obtain ⟨b1, o1, rfl, hb1, hc1⟩ := (ha.later hb).at hlt
      have c1 := hc1 k hlt
      obtain ⟨x, hx1⟩ : ∃ x, xs.getD k 0 = x := ⟨_, rfl⟩
      rw [hx1] at c1
      have HX1 := Lib.hid hx1
      clear hc1 hx1
      have i01 : (0 : Int) ≤ (k : Int) := by omega
      have i11 : (k : Int) < (xs.length : Int) := by omega
      have hx2 := hrx x HX1.out
      clear hrx
      go_wp2
      go_roundw
      case rel => exact ⟨k + 1, s + x, by omega, by go_num, rfl, by omega, by push_cast; omega, by show _ = _; rw [sum_take_succ hlt HX1.out, HS.out], hb⟩
      case measure => go_light; simp [intOf] <;> omega
    · have hkk : k = xs.length := by omega
      have e1 := Lib.hid (show xs.sum = s by have := HS.out; rwa [hkk, List.take_length] at this)
      clear hkk
      go_wp2
      go_ret2
      exact ⟨by rw [e1.out]; rfl, hb⟩
theorem rtotal_p (a : Option Addr) (xs : List Int) (cap : Nat) (w : World) (ha : Row .i64 w a xs) (hl : xs.length ≤ 9223372036854775807) :
    Calls Try.prog 26 #[.slice a xs.length cap] w fun e w' => e = .returned (.tuple #[.int .i64 (rTot xs).1, .int .i64 (rTot xs).2]) ∧ Below w.heap.size w w' := by
  unfold rTot
  by_cases h : cchk xs = 0
  · simp only [h, if_true]; exact rtotal_1 a xs cap w ha hl h
  · simp only [h, if_false]; exact rtotal_e a xs cap w ha hl (by simpa using h)

theorem rdistinct_e (a : Option Addr) (xs : List Int) (cap : Nat) (w : World) (ha : Row .i64 w a xs) (hl : xs.length ≤ 9223372036854775807) (h0 : (cchk xs != 0) = true) :
    Calls Try.prog 28 #[.slice a xs.length cap] w fun e w' => e = .returned (.tuple #[.int .i64 0, .int .i64 (cchk xs)]) ∧ Below w.heap.size w w' := by
  go_enter Try.func28, Try.ntmps28
  go_wp2_with ((go_at_call 24; refine (rcheck_p _ _ _ _ ha hl).mono ?_; rintro e w1 ⟨rfl, hb⟩; have hsz := hb.size; (try simp at hsz); (first | (have hbl := blater2 HA (by first | exact Nat.le_refl _ | (simp; done) | (simp; omega)) hb; obtain ⟨hcc, hff, HA, hne, hne'⟩ := hbl) | (obtain ⟨hcc, hff, HA, hne, hne'⟩ := blater1 hb)); (try simp only [World.size_alloc, World.size_setCell] at HA)))
  repeat' (first | (go_region <;> go_wp2_with ((go_at_call 24; refine (rcheck_p _ _ _ _ ha hl).mono ?_; rintro e w1 ⟨rfl, hb⟩; have hsz := hb.size; (try simp at hsz); (first | (have hbl := blater2 HA (by first | exact Nat.le_refl _ | (simp; done) | (simp; omega)) hb; obtain ⟨hcc, hff, HA, hne, hne'⟩ := hbl) | (obtain ⟨hcc, hff, HA, hne, hne'⟩ := blater1 hb)); (try simp only [World.size_alloc, World.size_setCell] at HA)))))
  all_goals go_light
  all_goals (try simp only [beq_iff_eq, beq_eq_false_iff_ne, bne_iff_ne, bne_eq_false_iff_eq, ne_eq] at *)
  all_goals
    refine bodyPost_ret (v := .tuple #[.int .i64 0, .int .i64 (cchk xs)]) (by simp [results, Try.results28, go_sem, *]) rfl ⟨rfl, ?_⟩
    repeat' (first | exact Below.refl _ _ | refine Below.drew ?_ | refine below_drewN ?_ _ | refine Below.alloc ?_ (by first | omega | (simp <;> omega)) _ | refine Below.setCell ?_ (by first | omega | (simp <;> omega)) _ | refine Below.trans ?_ (Below.mono (by assumption) (by first | omega | (simp <;> omega))))

set_option maxHeartbeats 1000000 in
theorem rdistinct_1 (a : Option Addr) (xs : List Int) (cap : Nat) (w : World) (ha : Row .i64 w a xs) (hl : xs.length ≤ 9223372036854775807) (hc : cchk xs = 0) :
    Calls Try.prog 28 #[.slice a xs.length cap] w fun e w' => e = .returned (.tuple #[.int .i64 ((occ 0 xs).length : Nat), .int .i64 0]) ∧ Below w.heap.size w w' := by
  go_enter Try.func28, Try.ntmps28
  go_wp2_with ((go_at_call 24; refine (rcheck_p _ _ _ _ ha hl).mono ?_; rintro e w1 ⟨rfl, hb⟩; have hsz := hb.size; (try simp at hsz); (first | (have hbl := blater2 HA (by first | exact Nat.le_refl _ | (simp; done) | (simp; omega)) hb; obtain ⟨hcc, hff, HA, hne, hne'⟩ := hbl) | (obtain ⟨hcc, hff, HA, hne, hne'⟩ := blater1 hb)); (try simp only [World.size_alloc, World.size_setCell] at HA)))
  go_loopw [5, 6] (fun n i wr => ∃ (k s : Nat), k ≤ xs.length ∧ i = .int .i64 k ∧ n = .int .i64 s ∧ s ≤ k ∧ Hid (occTo xs k = s) ∧ Below w.heap.size w wr) (fun _ i _ => xs.length - (intOf i).toNat)
  case atStart => exact ⟨0, 0, by omega, rfl, rfl, by omega, rfl, hb⟩
  case round =>
    clear hcc hff hne hne' HA hsz hb
    obtain ⟨k, s, hk, rfl, rfl, s0, HS, hb⟩ := hrel
    by_cases hlt : k < xs.length
    · have hsu := occTo_succ xs k hlt
      obtain ⟨b1, o1, rfl, hb1, hc1⟩ := (ha.later hb).at hlt
      have c1 := hc1 k hlt
      obtain ⟨x, hx1⟩ : ∃ x, xs.getD k 0 = x := ⟨_, rfl⟩
      rw [hx1] at c1
      have HX1 := Lib.hid hx1
      clear hc1 hx1
      have i01 : (0 : Int) ≤ (k : Int) := by omega
      have i11 : (k : Int) < (xs.length : Int) := by omega
      rw [HX1.out, HS.out] at hsu
      by_cases hx0 : 0 < x
      · rw [if_pos hx0] at hsu
        have HU := Lib.hid hsu
        clear hsu
        go_wp2
        go_roundw
        case rel => exact ⟨k + 1, s + 1, by omega, by go_num, by go_num, by omega, HU.out, hb⟩
        case measure => go_light; simp [intOf] <;> omega
      · rw [if_neg hx0] at hsu
        have HU := Lib.hid hsu
        clear hsu
        go_wp2
        go_roundw
        case rel => exact ⟨k + 1, s, by omega, by go_num, rfl, by omega, HU.out, hb⟩
        case measure => go_light; simp [intOf] <;> omega
    · have hkk : k = xs.length := by omega
      have e1 := Lib.hid (show (occ 0 xs).length = s by rw [← occTo_all, ← hkk]; exact HS.out)
      clear hkk
      go_wp2
      go_ret2
      exact ⟨by rw [e1.out]; rfl, hb⟩
theorem rdistinct_p (a : Option Addr) (xs : List Int) (cap : Nat) (w : World) (ha : Row .i64 w a xs) (hl : xs.length ≤ 9223372036854775807) :
    Calls Try.prog 28 #[.slice a xs.length cap] w fun e w' => e = .returned (.tuple #[.int .i64 (rDist xs).1, .int .i64 (rDist xs).2]) ∧ Below w.heap.size w w' := by
  unfold rDist
  by_cases h : cchk xs = 0
  · simp only [h, if_true]; exact rdistinct_1 a xs cap w ha hl h
  · simp only [h, if_false]; exact rdistinct_e a xs cap w ha hl (by simpa using h)

theorem rlast_e (a : Option Addr) (xs : List Int) (cap : Nat) (w : World) (ha : Row .i64 w a xs) (hl : xs.length ≤ 9223372036854775807) (h0 : (cchk xs != 0) = true) :
    Calls Try.prog 30 #[.slice a xs.length cap] w fun e w' => e = .returned (.tuple #[.int .i64 0, .int .i64 (cchk xs)]) ∧ Below w.heap.size w w' := by
  go_enter Try.func30, Try.ntmps30
  go_wp2_with ((go_at_call 24; refine (rcheck_p _ _ _ _ ha hl).mono ?_; rintro e w1 ⟨rfl, hb⟩; have hsz := hb.size; (try simp at hsz); (first | (have hbl := blater2 HA (by first | exact Nat.le_refl _ | (simp; done) | (simp; omega)) hb; obtain ⟨hcc, hff, HA, hne, hne'⟩ := hbl) | (obtain ⟨hcc, hff, HA, hne, hne'⟩ := blater1 hb)); (try simp only [World.size_alloc, World.size_setCell] at HA)))
  repeat' (first | (go_region <;> go_wp2_with ((go_at_call 24; refine (rcheck_p _ _ _ _ ha hl).mono ?_; rintro e w1 ⟨rfl, hb⟩; have hsz := hb.size; (try simp at hsz); (first | (have hbl := blater2 HA (by first | exact Nat.le_refl _ | (simp; done) | (simp; omega)) hb; obtain ⟨hcc, hff, HA, hne, hne'⟩ := hbl) | (obtain ⟨hcc, hff, HA, hne, hne'⟩ := blater1 hb)); (try simp only [World.size_alloc, World.size_setCell] at HA)))))
  all_goals go_light
  all_goals (try simp only [beq_iff_eq, beq_eq_false_iff_ne, bne_iff_ne, bne_eq_false_iff_eq, ne_eq] at *)
  all_goals
    refine bodyPost_ret (v := .tuple #[.int .i64 0, .int .i64 (cchk xs)]) (by simp [results, Try.results30, go_sem, *]) rfl ⟨rfl, ?_⟩
    repeat' (first | exact Below.refl _ _ | refine Below.drew ?_ | refine below_drewN ?_ _ | refine Below.alloc ?_ (by first | omega | (simp <;> omega)) _ | refine Below.setCell ?_ (by first | omega | (simp <;> omega)) _ | refine Below.trans ?_ (Below.mono (by assumption) (by first | omega | (simp <;> omega))))

set_option maxHeartbeats 1000000 in
theorem rlast_1 (a : Option Addr) (xs : List Int) (cap : Nat) (w : World) (ha : Row .i64 w a xs) (hl : xs.length ≤ 9223372036854775807) (hc : cchk xs = 0) :
    Calls Try.prog 30 #[.slice a xs.length cap] w fun e w' => e = .returned (.tuple #[.int .i64 (rLast xs).1, .int .i64 (rLast xs).2]) ∧ Below w.heap.size w w' := by
  go_enter Try.func30, Try.ntmps30
  go_wp2_with ((go_at_call 24; refine (rcheck_p _ _ _ _ ha hl).mono ?_; rintro e w1 ⟨rfl, hb⟩; have hsz := hb.size; (try simp at hsz); (first | (have hbl := blater2 HA (by first | exact Nat.le_refl _ | (simp; done) | (simp; omega)) hb; obtain ⟨hcc, hff, HA, hne, hne'⟩ := hbl) | (obtain ⟨hcc, hff, HA, hne, hne'⟩ := blater1 hb)); (try simp only [World.size_alloc, World.size_setCell] at HA)))
  go_loopw [5] (fun i wr => ∃ (k : Nat), k ≤ xs.length ∧ i = .int .i64 ((k : Int) - 1) ∧ Hid (lst xs = lst (xs.take k)) ∧ Below w.heap.size w wr) (fun i _ => (intOf i + 1).toNat)
  case atStart => exact ⟨xs.length, by omega, rfl, by show _ = _; rw [List.take_length], hb⟩
  case round =>
    clear hcc hff hne hne' HA hsz hb
    obtain ⟨k, hk, rfl, HS, hb⟩ := hrel
    rcases k with _ | k
    · have e1 : rLast xs = (0, 7) := by
        have h1 : lst xs = -1 := HS.out
        unfold rLast
        rw [if_pos hc, h1]; rfl
      have E1 := Lib.hid e1
      clear e1
      go_wp2
      go_ret2
      exact ⟨by rw [E1.out]; rfl, hb⟩
    · have hlt : k < xs.length := by omega
      have hsu := fun x hx => lst_take_succ hlt (x := x) hx
      obtain ⟨b1, o1, rfl, hb1, hc1⟩ := (ha.later hb).at hlt
      have c1 := hc1 k hlt
      obtain ⟨x, hx1⟩ : ∃ x, xs.getD k 0 = x := ⟨_, rfl⟩
      rw [hx1] at c1
      have HX1 := Lib.hid hx1
      clear hc1 hx1
      have i01 : (0 : Int) ≤ (k : Int) := by omega
      have i11 : (k : Int) < (xs.length : Int) := by omega
      have hsu2 := hsu x HX1.out
      clear hsu
      have ek : ((k + 1 : Nat) : Int) - 1 = (k : Int) := by omega
      rw [ek]
      by_cases hx0 : 0 < x
      · rw [if_pos hx0] at hsu2
        have e1 : rLast xs = ((k : Int), 0) := by
          have h1 := HS.out
          rw [hsu2] at h1
          unfold rLast
          rw [if_pos hc, h1, if_neg (by omega), if_neg (by omega)]
        have E1 := Lib.hid e1
        clear e1 hsu2 ek
        go_wp2
        go_ret2
        exact ⟨by rw [E1.out]; rfl, hb⟩
      · rw [if_neg hx0] at hsu2
        have HU := Lib.hid hsu2
        clear hsu2 ek
        go_wp2
        go_roundw
        case rel => exact ⟨k, by omega, by first | rfl | go_num, by show _ = _; rw [HS.out, HU.out], hb⟩
        case measure => go_light; simp [intOf] <;> omega
theorem rlast_p (a : Option Addr) (xs : List Int) (cap : Nat) (w : World) (ha : Row .i64 w a xs) (hl : xs.length ≤ 9223372036854775807) :
    Calls Try.prog 30 #[.slice a xs.length cap] w fun e w' => e = .returned (.tuple #[.int .i64 (rLast xs).1, .int .i64 (rLast xs).2]) ∧ Below w.heap.size w w' := by
  by_cases h : cchk xs = 0
  · exact rlast_1 a xs cap w ha hl h
  · unfold rLast; simp only [h, if_false]; exact rlast_e a xs cap w ha hl (by simpa using h)

theorem rgreatest_e (a : Option Addr) (xs : List Int) (cap : Nat) (w : World) (ha : Row .i64 w a xs) (hl : xs.length ≤ 9223372036854775807) (h0 : ((rLast xs).2 != 0) = true) :
    Calls Try.prog 32 #[.slice a xs.length cap] w fun e w' => e = .returned (.tuple #[.int .i64 0, .int .i64 0, .int .i64 (rLast xs).2]) ∧ Below w.heap.size w w' := by
  go_enter Try.func32, Try.ntmps32
  go_wp2_with ((go_at_call 30; refine (rlast_p _ _ _ _ ha hl).mono ?_; rintro e w1 ⟨rfl, hb⟩; have hsz := hb.size; (try simp at hsz); (first | (have hbl := blater2 HA (by first | exact Nat.le_refl _ | (simp; done) | (simp; omega)) hb; obtain ⟨hcc, hff, HA, hne, hne'⟩ := hbl) | (obtain ⟨hcc, hff, HA, hne, hne'⟩ := blater1 hb)); (try simp only [World.size_alloc, World.size_setCell] at HA)))
  repeat' (first | (go_region <;> go_wp2_with ((go_at_call 30; refine (rlast_p _ _ _ _ ha hl).mono ?_; rintro e w1 ⟨rfl, hb⟩; have hsz := hb.size; (try simp at hsz); (first | (have hbl := blater2 HA (by first | exact Nat.le_refl _ | (simp; done) | (simp; omega)) hb; obtain ⟨hcc, hff, HA, hne, hne'⟩ := hbl) | (obtain ⟨hcc, hff, HA, hne, hne'⟩ := blater1 hb)); (try simp only [World.size_alloc, World.size_setCell] at HA)))))
  all_goals go_light
  all_goals (try simp only [beq_iff_eq, beq_eq_false_iff_ne, bne_iff_ne, bne_eq_false_iff_eq, ne_eq] at *)
  all_goals
    refine bodyPost_ret (v := .tuple #[.int .i64 0, .int .i64 0, .int .i64 (rLast xs).2]) (by simp [results, Try.results32, go_sem, *]) rfl ⟨rfl, ?_⟩
    repeat' (first | exact Below.refl _ _ | refine Below.drew ?_ | refine below_drewN ?_ _ | refine Below.alloc ?_ (by first | omega | (simp <;> omega)) _ | refine Below.setCell ?_ (by first | omega | (simp <;> omega)) _ | refine Below.trans ?_ (Below.mono (by assumption) (by first | omega | (simp <;> omega))))
theorem gf_get {xs : List Int} (h0 : 0 < (gf 0 (0, 0) xs).2 ∨ 0 < xs.length) (hr : rng xs = true) : ∃ b : Nat, b < xs.length ∧ (gf 0 (0, 0) xs).1 = (b : Int) ∧ (gf 0 (0, 0) xs).2 = xs.getD b 0 := by
  have key : ∀ (ys : List Int), rng ys = true → (gf 0 (0, 0) ys = (0, 0) ∧ (0 < ys.length → ys.getD 0 0 = 0)) ∨ ∃ b : Nat, b < ys.length ∧ (gf 0 (0, 0) ys).1 = (b : Int) ∧ (gf 0 (0, 0) ys).2 = ys.getD b 0 := by
    intro ys
    induction h : ys.length generalizing ys with
    | zero => intro _; left; simp at h; subst h; exact ⟨rfl, by simp⟩
    | succ n ih =>
      intro hr
      have hlt : n < ys.length := by omega
      have e1 := gf_take_succ (k := n) hlt rfl
      have e2 : ys.take (n + 1) = ys := List.take_of_length_le (by omega)
      rw [e2] at e1
      have hrt : rng (ys.take n) = true := by
        simp [rng] at hr ⊢
        intro x hx
        exact hr x (List.mem_of_mem_take hx)
      have hlen : (ys.take n).length = n := by simp; omega
      have hx := rng_at hr hlt rfl
      rw [e1]
      by_cases hp : (gf 0 (0, 0) (ys.take n)).2 < ys.getD n 0
      · rw [if_pos hp]
        exact .inr ⟨n, by omega, rfl, rfl⟩
      · rw [if_neg hp]
        rcases ih (ys.take n) hlen hrt with ⟨h1, h2⟩ | ⟨b, hb, h1, h2⟩
        · left
          refine ⟨h1, fun _ => ?_⟩
          rcases n with _ | n
          · rw [h1] at hp
            simp only at hp
            omega
          · have := h2 (by omega)
            rw [List.getD_eq_getElem?_getD, List.getElem?_take] at this
            simpa using this
        · right
          refine ⟨b, by omega, h1, ?_⟩
          rw [h2, List.getD_eq_getElem?_getD, List.getElem?_take]
          simp [show b < n by omega]
  rcases key xs hr with ⟨h1, h2⟩ | h
  · rcases h0 with h0 | h0
    · rw [h1] at h0; simp at h0
    · exact ⟨0, h0, by rw [h1]; rfl, by rw [h1, h2 h0]⟩
  · exact h

set_option maxHeartbeats 1000000 in
theorem rgreatest_1 (a : Option Addr) (xs : List Int) (cap : Nat) (w : World) (ha : Row .i64 w a xs) (hl : xs.length ≤ 9223372036854775807) (hc : cchk xs = 0) (hp : 0 ≤ lst xs) :
    Calls Try.prog 32 #[.slice a xs.length cap] w fun e w' => e = .returned (.tuple #[.int .i64 (gr xs).1, .int .i64 (gr xs).2, .int .i64 0]) ∧ Below w.heap.size w w' := by
  have e2 : (rLast xs).2 = 0 := by unfold rLast; rw [if_pos hc, if_neg (by omega)]; rw [if_neg (by omega)]
  have hlen : 1 ≤ xs.length := by have := lst_lt xs; omega
  obtain ⟨_, hr, _, _⟩ := cchk_ok hc
  have HR := Lib.hid hr
  clear hr hp
  go_enter Try.func32, Try.ntmps32
  go_wp2_with ((go_at_call 30; refine (rlast_p _ _ _ _ ha hl).mono ?_; rintro e w1 ⟨rfl, hb⟩; have hsz := hb.size; (try simp at hsz); (first | (have hbl := blater2 HA (by first | exact Nat.le_refl _ | (simp; done) | (simp; omega)) hb; obtain ⟨hcc, hff, HA, hne, hne'⟩ := hbl) | (obtain ⟨hcc, hff, HA, hne, hne'⟩ := blater1 hb)); (try simp only [World.size_alloc, World.size_setCell] at HA)))
  go_loopw [7, 8] (fun n i wr => ∃ (k b : Nat), 1 ≤ k ∧ k ≤ xs.length ∧ i = .int .i64 k ∧ n = .int .i64 b ∧ b < k ∧ Hid (gf 0 (0, 0) (xs.take k) = ((b : Int), xs.getD b 0)) ∧ Below w.heap.size w wr) (fun _ i _ => xs.length - (intOf i).toNat)
  case atStart =>
    refine ⟨1, 0, by omega, by omega, rfl, rfl, by omega, ?_, hb⟩
    have h1 := gf_take_succ (xs := xs) (k := 0) (by omega) rfl
    have h2 := rng_at (k := 0) HR.out (by omega) rfl
    show _ = _
    rw [h1]
    simp only [List.take_zero, gf]
    split
    · rfl
    · have : xs.getD 0 0 = 0 := by omega
      rw [this]; rfl
  case round =>
    clear hcc hff hne hne' HA hsz hb
    obtain ⟨k, b, hk1, hk, rfl, rfl, hbk, HS, hb⟩ := hrel
    have hbl : b < xs.length := by omega
    obtain ⟨b1, o1, rfl, hb1, hc1⟩ := (ha.later hb).at hbl
    have c2 := hc1 b hbl
    by_cases hlt : k < xs.length
    · have c1 := hc1 k hlt
      have hsu := gf_take_succ hlt rfl
      rw [HS.out] at hsu
      obtain ⟨x, hx⟩ : ∃ x, xs.getD k 0 = x := ⟨_, rfl⟩
      obtain ⟨y, hy⟩ : ∃ y, xs.getD b 0 = y := ⟨_, rfl⟩
      rw [hx, hy] at hsu
      rw [hx] at c1
      rw [hy] at c2
      have HX := Lib.hid hx
      have HY := Lib.hid hy
      clear hx hy hc1
      have i0 : (0 : Int) ≤ (k : Int) := by omega
      have i1 : (k : Int) < (xs.length : Int) := by omega
      have i2 : (0 : Int) ≤ (b : Int) := by omega
      have i3 : (b : Int) < (xs.length : Int) := by omega
      by_cases hxy : y < x
      · rw [if_pos hxy] at hsu
        have HU := Lib.hid hsu
        clear hsu
        go_wp2
        go_quiet (fail)
        go_wp2
        go_roundw
        case rel => exact ⟨k + 1, k, by omega, by omega, by go_num, rfl, by omega, by show _ = _; rw [HU.out, HX.out], below_drewN hb _⟩
        case measure => go_light; simp [intOf] <;> omega
      · rw [if_neg hxy] at hsu
        have HU := Lib.hid hsu
        clear hsu
        go_wp2
        go_quiet (fail)
        go_wp2
        go_roundw
        case rel => exact ⟨k + 1, b, by omega, by omega, by go_num, rfl, by omega, by show _ = _; rw [HU.out, HY.out], below_drewN hb _⟩
        case measure => go_light; simp [intOf] <;> omega
    · have hkk : k = xs.length := by omega
      have e1 := Lib.hid (show gr xs = ((b : Int), xs.getD b 0) by have := HS.out; rwa [hkk, List.take_length] at this)
      obtain ⟨y, hy⟩ : ∃ y, xs.getD b 0 = y := ⟨_, rfl⟩
      rw [hy] at c2 e1
      have i2 : (0 : Int) ≤ (b : Int) := by omega
      have i3 : (b : Int) < (xs.length : Int) := by omega
      clear hkk hc1 hy
      go_wp2
      go_quiet (fail)
      go_wp2
      go_light
      refine bodyPost_ret (v := .tuple #[.int .i64 b, .int .i64 y, .int .i64 0]) (by simp [results, Try.results32, go_sem, *]) rfl ⟨by rw [e1.out], ?_⟩
      repeat' (first | exact Below.refl _ _ | refine Below.drew ?_ | refine below_drewN ?_ _ | refine Below.alloc ?_ (by first | omega | (simp <;> omega)) _ | refine Below.setCell ?_ (by first | omega | (simp <;> omega)) _ | refine Below.trans ?_ (Below.mono (by assumption) (by first | omega | (simp <;> omega))))
theorem rgreatest_p (a : Option Addr) (xs : List Int) (cap : Nat) (w : World) (ha : Row .i64 w a xs) (hl : xs.length ≤ 9223372036854775807) :
    Calls Try.prog 32 #[.slice a xs.length cap] w fun e w' => e = .returned (.tuple #[.int .i64 (rGr xs).1, .int .i64 (rGr xs).2.1, .int .i64 (rGr xs).2.2]) ∧ Below w.heap.size w w' := by
  by_cases h : cchk xs = 0
  · by_cases hp : 0 ≤ lst xs
    · have e : rGr xs = ((gr xs).1, (gr xs).2, 0) := by
        unfold rGr gE
        rw [if_pos h, if_neg]
        intro hz
        have := (gf_zero_iff 0 xs 0).1 hz
        have h2 := (occ_nil_iff xs).1 (by rw [this]; rfl)
        omega
      rw [e]
      exact rgreatest_1 a xs cap w ha hl h hp
    · have hl1 : lst xs = -1 := by have := lst_ge xs; omega
      have h0 : occ 0 xs = [] := by have := (occ_nil_iff xs).2 hl1; simpa using this
      have h2 : (gr xs).2 = 0 := (gf_zero_iff 0 xs 0).2 h0
      have e : rGr xs = (0, 0, 7) := by
        unfold rGr gE
        rw [if_pos h, if_pos h2, gr_zero h2, h2]
      have e2 : rLast xs = (0, 7) := by unfold rLast; rw [if_pos h, hl1]; rfl
      have := rgreatest_e a xs cap w ha hl (by rw [e2]; rfl)
      rw [e2] at this
      rw [e]
      exact this
  · have e2 : rLast xs = (0, cchk xs) := by unfold rLast; rw [if_neg h]
    have := rgreatest_e a xs cap w ha hl (by rw [e2]; simpa using h)
    rw [e2] at this
    unfold rGr
    rw [if_neg h]
    exact this

theorem ronly_p (a : Option Addr) (xs : List Int) (cap : Nat) (w : World) (ha : Row .i64 w a xs) (hl : xs.length ≤ 9223372036854775807) :
    Calls Try.prog 34 #[.slice a xs.length cap] w fun e w' => e = .returned (.tuple #[.int .i64 (rOnly xs).1, .bool (rOnly xs).2.1, .int .i64 (rOnly xs).2.2]) ∧ Below w.heap.size w w' := by
  by_cases h : cchk xs = 0
  · by_cases h1 : (occ 0 xs).length = 1
    · have e1 : rOnly xs = (lst xs, true, 0) := by unfold rOnly; rw [if_pos h, if_pos h1]
      have e2 : rDist xs = (1, 0) := by unfold rDist; rw [if_pos h, h1]; rfl
      have e3 : rLast xs = (lst xs, 0) := by
        have h2 : lst xs ≠ -1 := fun e => by have := (occ_nil_iff xs).2 e; omega
        have h3 := lst_ge xs
        unfold rLast; rw [if_pos h, if_neg (by omega), if_neg (by omega)]
      rw [e1]
      clear h h1 e1
      go_enter Try.func34, Try.ntmps34
      go_wp2_with (first | (go_at_call 28; refine (rdistinct_p _ _ _ _ (ha.later (by repeat' (first | exact Below.refl _ _ | refine Below.drew ?_ | refine below_drewN ?_ _ | refine Below.alloc ?_ (by first | omega | (simp <;> omega)) _ | refine Below.setCell ?_ (by first | omega | (simp <;> omega)) _ | refine Below.trans ?_ (Below.mono (by assumption) (by first | omega | (simp <;> omega)))))) hl).mono ?_; rintro e w1 ⟨rfl, hb⟩; have hsz := hb.size; (try simp at hsz); (first | (have hbl := blater2 HA (by first | exact Nat.le_refl _ | (simp; done) | (simp; omega)) hb; obtain ⟨hcc, hff, HA, hne, hne'⟩ := hbl) | (obtain ⟨hcc, hff, HA, hne, hne'⟩ := blater1 hb)); (try simp only [World.size_alloc, World.size_setCell] at HA)) | (go_at_call 30; refine (rlast_p _ _ _ _ (ha.later (by repeat' (first | exact Below.refl _ _ | refine Below.drew ?_ | refine below_drewN ?_ _ | refine Below.alloc ?_ (by first | omega | (simp <;> omega)) _ | refine Below.setCell ?_ (by first | omega | (simp <;> omega)) _ | refine Below.trans ?_ (Below.mono (by assumption) (by first | omega | (simp <;> omega)))))) hl).mono ?_; rintro e w1 ⟨rfl, hb⟩; have hsz := hb.size; (try simp at hsz); (first | (have hbl := blater2 HA (by first | exact Nat.le_refl _ | (simp; done) | (simp; omega)) hb; obtain ⟨hcc, hff, HA, hne, hne'⟩ := hbl) | (obtain ⟨hcc, hff, HA, hne, hne'⟩ := blater1 hb)); (try simp only [World.size_alloc, World.size_setCell] at HA)))
      repeat' (first | (go_region <;> go_wp2_with (first | (go_at_call 28; refine (rdistinct_p _ _ _ _ (ha.later (by repeat' (first | exact Below.refl _ _ | refine Below.drew ?_ | refine below_drewN ?_ _ | refine Below.alloc ?_ (by first | omega | (simp <;> omega)) _ | refine Below.setCell ?_ (by first | omega | (simp <;> omega)) _ | refine Below.trans ?_ (Below.mono (by assumption) (by first | omega | (simp <;> omega)))))) hl).mono ?_; rintro e w1 ⟨rfl, hb⟩; have hsz := hb.size; (try simp at hsz); (first | (have hbl := blater2 HA (by first | exact Nat.le_refl _ | (simp; done) | (simp; omega)) hb; obtain ⟨hcc, hff, HA, hne, hne'⟩ := hbl) | (obtain ⟨hcc, hff, HA, hne, hne'⟩ := blater1 hb)); (try simp only [World.size_alloc, World.size_setCell] at HA)) | (go_at_call 30; refine (rlast_p _ _ _ _ (ha.later (by repeat' (first | exact Below.refl _ _ | refine Below.drew ?_ | refine below_drewN ?_ _ | refine Below.alloc ?_ (by first | omega | (simp <;> omega)) _ | refine Below.setCell ?_ (by first | omega | (simp <;> omega)) _ | refine Below.trans ?_ (Below.mono (by assumption) (by first | omega | (simp <;> omega)))))) hl).mono ?_; rintro e w1 ⟨rfl, hb⟩; have hsz := hb.size; (try simp at hsz); (first | (have hbl := blater2 HA (by first | exact Nat.le_refl _ | (simp; done) | (simp; omega)) hb; obtain ⟨hcc, hff, HA, hne, hne'⟩ := hbl) | (obtain ⟨hcc, hff, HA, hne, hne'⟩ := blater1 hb)); (try simp only [World.size_alloc, World.size_setCell] at HA)))))
      all_goals go_light
      all_goals (try simp only [beq_iff_eq, beq_eq_false_iff_ne, bne_iff_ne, bne_eq_false_iff_eq, ne_eq] at *)
      all_goals
        refine bodyPost_ret (v := .tuple #[.int .i64 (lst xs), .bool true, .int .i64 0]) (by simp [results, Try.results34, go_sem, *]) rfl ⟨rfl, ?_⟩
        repeat' (first | exact Below.refl _ _ | refine Below.drew ?_ | refine below_drewN ?_ _ | refine Below.alloc ?_ (by first | omega | (simp <;> omega)) _ | refine Below.setCell ?_ (by first | omega | (simp <;> omega)) _ | refine Below.trans ?_ (Below.mono (by assumption) (by first | omega | (simp <;> omega))))
    · have e1 : rOnly xs = (0, false, 0) := by unfold rOnly; rw [if_pos h, if_neg h1]
      have e2 : rDist xs = ((((occ 0 xs).length : Nat) : Int), 0) := by unfold rDist; rw [if_pos h]
      have hb : ((((occ 0 xs).length : Nat) : Int) != 1) = true := by simp; omega
      rw [e1]
      clear h h1 e1
      go_enter Try.func34, Try.ntmps34
      go_wp2_with (first | (go_at_call 28; refine (rdistinct_p _ _ _ _ (ha.later (by repeat' (first | exact Below.refl _ _ | refine Below.drew ?_ | refine below_drewN ?_ _ | refine Below.alloc ?_ (by first | omega | (simp <;> omega)) _ | refine Below.setCell ?_ (by first | omega | (simp <;> omega)) _ | refine Below.trans ?_ (Below.mono (by assumption) (by first | omega | (simp <;> omega)))))) hl).mono ?_; rintro e w1 ⟨rfl, hb⟩; have hsz := hb.size; (try simp at hsz); (first | (have hbl := blater2 HA (by first | exact Nat.le_refl _ | (simp; done) | (simp; omega)) hb; obtain ⟨hcc, hff, HA, hne, hne'⟩ := hbl) | (obtain ⟨hcc, hff, HA, hne, hne'⟩ := blater1 hb)); (try simp only [World.size_alloc, World.size_setCell] at HA)) | (go_at_call 30; refine (rlast_p _ _ _ _ (ha.later (by repeat' (first | exact Below.refl _ _ | refine Below.drew ?_ | refine below_drewN ?_ _ | refine Below.alloc ?_ (by first | omega | (simp <;> omega)) _ | refine Below.setCell ?_ (by first | omega | (simp <;> omega)) _ | refine Below.trans ?_ (Below.mono (by assumption) (by first | omega | (simp <;> omega)))))) hl).mono ?_; rintro e w1 ⟨rfl, hb⟩; have hsz := hb.size; (try simp at hsz); (first | (have hbl := blater2 HA (by first | exact Nat.le_refl _ | (simp; done) | (simp; omega)) hb; obtain ⟨hcc, hff, HA, hne, hne'⟩ := hbl) | (obtain ⟨hcc, hff, HA, hne, hne'⟩ := blater1 hb)); (try simp only [World.size_alloc, World.size_setCell] at HA)))
      repeat' (first | (go_region <;> go_wp2_with (first | (go_at_call 28; refine (rdistinct_p _ _ _ _ (ha.later (by repeat' (first | exact Below.refl _ _ | refine Below.drew ?_ | refine below_drewN ?_ _ | refine Below.alloc ?_ (by first | omega | (simp <;> omega)) _ | refine Below.setCell ?_ (by first | omega | (simp <;> omega)) _ | refine Below.trans ?_ (Below.mono (by assumption) (by first | omega | (simp <;> omega)))))) hl).mono ?_; rintro e w1 ⟨rfl, hb⟩; have hsz := hb.size; (try simp at hsz); (first | (have hbl := blater2 HA (by first | exact Nat.le_refl _ | (simp; done) | (simp; omega)) hb; obtain ⟨hcc, hff, HA, hne, hne'⟩ := hbl) | (obtain ⟨hcc, hff, HA, hne, hne'⟩ := blater1 hb)); (try simp only [World.size_alloc, World.size_setCell] at HA)) | (go_at_call 30; refine (rlast_p _ _ _ _ (ha.later (by repeat' (first | exact Below.refl _ _ | refine Below.drew ?_ | refine below_drewN ?_ _ | refine Below.alloc ?_ (by first | omega | (simp <;> omega)) _ | refine Below.setCell ?_ (by first | omega | (simp <;> omega)) _ | refine Below.trans ?_ (Below.mono (by assumption) (by first | omega | (simp <;> omega)))))) hl).mono ?_; rintro e w1 ⟨rfl, hb⟩; have hsz := hb.size; (try simp at hsz); (first | (have hbl := blater2 HA (by first | exact Nat.le_refl _ | (simp; done) | (simp; omega)) hb; obtain ⟨hcc, hff, HA, hne, hne'⟩ := hbl) | (obtain ⟨hcc, hff, HA, hne, hne'⟩ := blater1 hb)); (try simp only [World.size_alloc, World.size_setCell] at HA)))))
      all_goals go_light
      all_goals (try simp only [beq_iff_eq, beq_eq_false_iff_ne, bne_iff_ne, bne_eq_false_iff_eq, ne_eq] at *)
      all_goals
        refine bodyPost_ret (v := .tuple #[.int .i64 0, .bool false, .int .i64 0]) (by simp [results, Try.results34, go_sem, *]) rfl ⟨rfl, ?_⟩
        repeat' (first | exact Below.refl _ _ | refine Below.drew ?_ | refine below_drewN ?_ _ | refine Below.alloc ?_ (by first | omega | (simp <;> omega)) _ | refine Below.setCell ?_ (by first | omega | (simp <;> omega)) _ | refine Below.trans ?_ (Below.mono (by assumption) (by first | omega | (simp <;> omega))))
  · have e1 : rOnly xs = (0, false, cchk xs) := by unfold rOnly; rw [if_neg h]
    have e2 : rDist xs = (0, cchk xs) := by unfold rDist; rw [if_neg h]
    have h0 : (cchk xs != 0) = true := by simpa using h
    rw [e1]
    clear h e1
    go_enter Try.func34, Try.ntmps34
    go_wp2_with (first | (go_at_call 28; refine (rdistinct_p _ _ _ _ (ha.later (by repeat' (first | exact Below.refl _ _ | refine Below.drew ?_ | refine below_drewN ?_ _ | refine Below.alloc ?_ (by first | omega | (simp <;> omega)) _ | refine Below.setCell ?_ (by first | omega | (simp <;> omega)) _ | refine Below.trans ?_ (Below.mono (by assumption) (by first | omega | (simp <;> omega)))))) hl).mono ?_; rintro e w1 ⟨rfl, hb⟩; have hsz := hb.size; (try simp at hsz); (first | (have hbl := blater2 HA (by first | exact Nat.le_refl _ | (simp; done) | (simp; omega)) hb; obtain ⟨hcc, hff, HA, hne, hne'⟩ := hbl) | (obtain ⟨hcc, hff, HA, hne, hne'⟩ := blater1 hb)); (try simp only [World.size_alloc, World.size_setCell] at HA)) | (go_at_call 30; refine (rlast_p _ _ _ _ (ha.later (by repeat' (first | exact Below.refl _ _ | refine Below.drew ?_ | refine below_drewN ?_ _ | refine Below.alloc ?_ (by first | omega | (simp <;> omega)) _ | refine Below.setCell ?_ (by first | omega | (simp <;> omega)) _ | refine Below.trans ?_ (Below.mono (by assumption) (by first | omega | (simp <;> omega)))))) hl).mono ?_; rintro e w1 ⟨rfl, hb⟩; have hsz := hb.size; (try simp at hsz); (first | (have hbl := blater2 HA (by first | exact Nat.le_refl _ | (simp; done) | (simp; omega)) hb; obtain ⟨hcc, hff, HA, hne, hne'⟩ := hbl) | (obtain ⟨hcc, hff, HA, hne, hne'⟩ := blater1 hb)); (try simp only [World.size_alloc, World.size_setCell] at HA)))
    repeat' (first | (go_region <;> go_wp2_with (first | (go_at_call 28; refine (rdistinct_p _ _ _ _ (ha.later (by repeat' (first | exact Below.refl _ _ | refine Below.drew ?_ | refine below_drewN ?_ _ | refine Below.alloc ?_ (by first | omega | (simp <;> omega)) _ | refine Below.setCell ?_ (by first | omega | (simp <;> omega)) _ | refine Below.trans ?_ (Below.mono (by assumption) (by first | omega | (simp <;> omega)))))) hl).mono ?_; rintro e w1 ⟨rfl, hb⟩; have hsz := hb.size; (try simp at hsz); (first | (have hbl := blater2 HA (by first | exact Nat.le_refl _ | (simp; done) | (simp; omega)) hb; obtain ⟨hcc, hff, HA, hne, hne'⟩ := hbl) | (obtain ⟨hcc, hff, HA, hne, hne'⟩ := blater1 hb)); (try simp only [World.size_alloc, World.size_setCell] at HA)) | (go_at_call 30; refine (rlast_p _ _ _ _ (ha.later (by repeat' (first | exact Below.refl _ _ | refine Below.drew ?_ | refine below_drewN ?_ _ | refine Below.alloc ?_ (by first | omega | (simp <;> omega)) _ | refine Below.setCell ?_ (by first | omega | (simp <;> omega)) _ | refine Below.trans ?_ (Below.mono (by assumption) (by first | omega | (simp <;> omega)))))) hl).mono ?_; rintro e w1 ⟨rfl, hb⟩; have hsz := hb.size; (try simp at hsz); (first | (have hbl := blater2 HA (by first | exact Nat.le_refl _ | (simp; done) | (simp; omega)) hb; obtain ⟨hcc, hff, HA, hne, hne'⟩ := hbl) | (obtain ⟨hcc, hff, HA, hne, hne'⟩ := blater1 hb)); (try simp only [World.size_alloc, World.size_setCell] at HA)))))
    all_goals go_light
    all_goals (try simp only [beq_iff_eq, beq_eq_false_iff_ne, bne_iff_ne, bne_eq_false_iff_eq, ne_eq] at *)
    all_goals
      refine bodyPost_ret (v := .tuple #[.int .i64 0, .bool false, .int .i64 (cchk xs)]) (by simp [results, Try.results34, go_sem, *]) rfl ⟨rfl, ?_⟩
      repeat' (first | exact Below.refl _ _ | refine Below.drew ?_ | refine below_drewN ?_ _ | refine Below.alloc ?_ (by first | omega | (simp <;> omega)) _ | refine Below.setCell ?_ (by first | omega | (simp <;> omega)) _ | refine Below.trans ?_ (Below.mono (by assumption) (by first | omega | (simp <;> omega))))

theorem rcovers_e (a b : Option Addr) (xs : List Int) (bs : List Bool) (cap capb : Nat) (w : World) (ha : Row .i64 w a xs) (hbs : RowB w b bs) (hl : xs.length ≤ 9223372036854775807) (hlb : bs.length ≤ 9223372036854775807) (h0 : (cchk xs != 0) = true) :
    Calls Try.prog 36 #[.slice a xs.length cap, .slice b bs.length capb] w fun e w' => e = .returned (.tuple #[.bool false, .int .i64 (cchk xs)]) ∧ Below w.heap.size w w' := by
  go_enter Try.func36, Try.ntmps36
  go_wp2_with ((go_at_call 24; refine (rcheck_p _ _ _ _ ha hl).mono ?_; rintro e w1 ⟨rfl, hb⟩; have hsz := hb.size; (try simp at hsz); (first | (have hbl := blater2 HA (by first | exact Nat.le_refl _ | (simp; done) | (simp; omega)) hb; obtain ⟨hcc, hff, HA, hne, hne'⟩ := hbl) | (obtain ⟨hcc, hff, HA, hne, hne'⟩ := blater1 hb)); (try simp only [World.size_alloc, World.size_setCell] at HA)))
  repeat' (first | (go_region <;> go_wp2_with ((go_at_call 24; refine (rcheck_p _ _ _ _ ha hl).mono ?_; rintro e w1 ⟨rfl, hb⟩; have hsz := hb.size; (try simp at hsz); (first | (have hbl := blater2 HA (by first | exact Nat.le_refl _ | (simp; done) | (simp; omega)) hb; obtain ⟨hcc, hff, HA, hne, hne'⟩ := hbl) | (obtain ⟨hcc, hff, HA, hne, hne'⟩ := blater1 hb)); (try simp only [World.size_alloc, World.size_setCell] at HA)))))
  all_goals go_light
  all_goals (try simp only [beq_iff_eq, beq_eq_false_iff_ne, bne_iff_ne, bne_eq_false_iff_eq, ne_eq] at *)
  all_goals
    refine bodyPost_ret (v := .tuple #[.bool false, .int .i64 (cchk xs)]) (by simp [results, Try.results36, go_sem, *]) rfl ⟨rfl, ?_⟩
    repeat' (first | exact Below.refl _ _ | refine Below.drew ?_ | refine below_drewN ?_ _ | refine Below.alloc ?_ (by first | omega | (simp <;> omega)) _ | refine Below.setCell ?_ (by first | omega | (simp <;> omega)) _ | refine Below.trans ?_ (Below.mono (by assumption) (by first | omega | (simp <;> omega))))

set_option maxHeartbeats 1000000 in
theorem rcovers_1 (a b : Option Addr) (xs : List Int) (bs : List Bool) (cap capb : Nat) (w : World) (ha : Row .i64 w a xs) (hbs : RowB w b bs) (hl : xs.length ≤ 9223372036854775807) (hlb : bs.length ≤ 9223372036854775807) (hc : cchk xs = 0) :
    Calls Try.prog 36 #[.slice a xs.length cap, .slice b bs.length capb] w fun e w' => e = .returned (.tuple #[.bool (cov xs bs), .int .i64 0]) ∧ Below w.heap.size w w' := by
  go_enter Try.func36, Try.ntmps36
  go_wp2_with ((go_at_call 24; refine (rcheck_p _ _ _ _ ha hl).mono ?_; rintro e w1 ⟨rfl, hb⟩; have hsz := hb.size; (try simp at hsz); (first | (have hbl := blater2 HA (by first | exact Nat.le_refl _ | (simp; done) | (simp; omega)) hb; obtain ⟨hcc, hff, HA, hne, hne'⟩ := hbl) | (obtain ⟨hcc, hff, HA, hne, hne'⟩ := blater1 hb)); (try simp only [World.size_alloc, World.size_setCell] at HA)))
  go_loopw [7] (fun i wr => ∃ (k : Nat), k ≤ xs.length ∧ i = .int .i64 k ∧ Hid (cov (xs.take k) bs = true) ∧ Below w.heap.size w wr) (fun i _ => xs.length - (intOf i).toNat)
  case atStart => exact ⟨0, by omega, rfl, rfl, hb⟩
  case round =>
    clear hcc hff hne hne' HA hsz hb
    obtain ⟨k, hk, rfl, HS, hb⟩ := hrel
    by_cases hlt : k < xs.length
    · have hsu := fun x hx => cov_take_succ (bs := bs) hlt (x := x) hx
      rw [HS.out] at hsu
      obtain ⟨b1, o1, rfl, hb1, hc1⟩ := (ha.later hb).at hlt
      have c1 := hc1 k hlt
      obtain ⟨x, hx1⟩ : ∃ x, xs.getD k 0 = x := ⟨_, rfl⟩
      rw [hx1] at c1
      have HX1 := Lib.hid hx1
      clear hc1 hx1
      have i01 : (0 : Int) ≤ (k : Int) := by omega
      have i11 : (k : Int) < (xs.length : Int) := by omega
      have hsu2 := hsu x HX1.out
      clear hsu
      by_cases hx0 : 0 < x
      · by_cases hs : k < bs.length
        · obtain ⟨b2, o2, rfl, hb2, hc2⟩ := (hbs.later hb).at hs
          have c2 := hc2 k hs
          obtain ⟨t, ht⟩ : ∃ t, bs.getD k false = t := ⟨_, rfl⟩
          rw [ht] at c2 hsu2
          have HT := Lib.hid ht
          have i2 : (k : Int) < (bs.length : Int) := by omega
          clear hc2 ht
          cases t
          · have E1 := Lib.hid (cov_bad_at hlt HX1.out hx0 HT.out)
            clear hsu2
            go_wp2
            go_ret2
            exact ⟨by rw [E1.out]; rfl, hb⟩
          · have HU := Lib.hid hsu2
            clear hsu2
            go_wp2
            go_roundw
            case rel => exact ⟨k + 1, by omega, by go_num, by show _ = _; rw [HU.out]; simp, hb⟩
            case measure => go_light; simp [intOf] <;> omega
        · have i2 : ¬ (k : Int) < (bs.length : Int) := by omega
          have E1 := Lib.hid (cov_bad_at (bs := bs) hlt HX1.out hx0 (by simp [show bs.length ≤ k by omega]))
          clear hsu2
          go_wp2
          go_ret2
          exact ⟨by rw [E1.out]; rfl, hb⟩
      · have HU := Lib.hid hsu2
        clear hsu2
        go_wp2
        go_roundw
        case rel => exact ⟨k + 1, by omega, by go_num, by show _ = _; rw [HU.out]; simp; omega, hb⟩
        case measure => go_light; simp [intOf] <;> omega
    · have hkk : k = xs.length := by omega
      have e1 := Lib.hid (show cov xs bs = true by have := HS.out; rwa [hkk, List.take_length] at this)
      clear hkk
      go_wp2
      go_ret2
      exact ⟨by rw [e1.out]; rfl, hb⟩
theorem rcovers_p (a b : Option Addr) (xs : List Int) (bs : List Bool) (cap capb : Nat) (w : World) (ha : Row .i64 w a xs) (hbs : RowB w b bs) (hl : xs.length ≤ 9223372036854775807) (hlb : bs.length ≤ 9223372036854775807) :
    Calls Try.prog 36 #[.slice a xs.length cap, .slice b bs.length capb] w fun e w' => e = .returned (.tuple #[.bool (rCov xs bs).1, .int .i64 (rCov xs bs).2]) ∧ Below w.heap.size w w' := by
  unfold rCov
  by_cases h : cchk xs = 0
  · simp only [h, if_true]; exact rcovers_1 a b xs bs cap capb w ha hbs hl hlb h
  · simp only [h, if_false]; exact rcovers_e a b xs bs cap capb w ha hbs hl hlb (by simpa using h)

theorem rhalve_e (a : Option Addr) (xs : List Int) (cap : Nat) (w : World) (ha : Row .i64 w a xs) (hl : xs.length ≤ 9223372036854775807) (h0 : (cchk xs != 0) = true) :
    Calls Try.prog 38 #[.slice a xs.length cap] w fun e w' => e = .returned (.tuple #[.slice none 0 0, .int .i64 (cchk xs)]) ∧ Below w.heap.size w w' := by
  go_enter Try.func38, Try.ntmps38
  go_wp2_with ((go_at_call 24; refine (rcheck_p _ _ _ _ ha hl).mono ?_; rintro e w1 ⟨rfl, hb⟩; have hsz := hb.size; (try simp at hsz); (first | (have hbl := blater2 HA (by first | exact Nat.le_refl _ | (simp; done) | (simp; omega)) hb; obtain ⟨hcc, hff, HA, hne, hne'⟩ := hbl) | (obtain ⟨hcc, hff, HA, hne, hne'⟩ := blater1 hb)); (try simp only [World.size_alloc, World.size_setCell] at HA)))
  repeat' (first | (go_region <;> go_wp2_with ((go_at_call 24; refine (rcheck_p _ _ _ _ ha hl).mono ?_; rintro e w1 ⟨rfl, hb⟩; have hsz := hb.size; (try simp at hsz); (first | (have hbl := blater2 HA (by first | exact Nat.le_refl _ | (simp; done) | (simp; omega)) hb; obtain ⟨hcc, hff, HA, hne, hne'⟩ := hbl) | (obtain ⟨hcc, hff, HA, hne, hne'⟩ := blater1 hb)); (try simp only [World.size_alloc, World.size_setCell] at HA)))))
  all_goals go_light
  all_goals (try simp only [beq_iff_eq, beq_eq_false_iff_ne, bne_iff_ne, bne_eq_false_iff_eq, ne_eq] at *)
  all_goals
    refine bodyPost_ret (v := .tuple #[.slice none 0 0, .int .i64 (cchk xs)]) (by simp [results, Try.results38, go_sem, *]) rfl ⟨rfl, ?_⟩
    repeat' (first | exact Below.refl _ _ | refine Below.drew ?_ | refine below_drewN ?_ _ | refine Below.alloc ?_ (by first | omega | (simp <;> omega)) _ | refine Below.setCell ?_ (by first | omega | (simp <;> omega)) _ | refine Below.trans ?_ (Below.mono (by assumption) (by first | omega | (simp <;> omega))))

theorem half_eq (x : Int) : (x + 1) / 2 = x - x / 2 := by omega
set_option maxHeartbeats 1000000 in
theorem rhalve_1 (a : Option Addr) (xs : List Int) (cap : Nat) (w : World) (ha : Row .i64 w a xs) (hl : xs.length ≤ 9223372036854775807) (hc : cchk xs = 0) :
    Calls Try.prog 38 #[.slice a xs.length cap] w (ListPost (hlv xs, 0) w) := by
  obtain ⟨i0, hi, hz0, hz1, hz2⟩ := info_parts infoInt
  obtain ⟨h1, hr, _, _⟩ := cchk_ok hc
  have HR := Lib.hid hr
  clear hr
  go_enter Try.func38, Try.ntmps38
  go_wp2_with ((go_at_call 24; refine (rcheck_p _ _ _ _ ha hl).mono ?_; rintro e w1 ⟨rfl, hb⟩; have hsz := hb.size; (try simp at hsz); (first | (have hbl := blater2 HA (by first | exact Nat.le_refl _ | (simp; done) | (simp; omega)) hb; obtain ⟨hcc, hff, HA, hne, hne'⟩ := hbl) | (obtain ⟨hcc, hff, HA, hne, hne'⟩ := blater1 hb)); (try simp only [World.size_alloc, World.size_setCell] at HA)))
  go_loopw [5, 6] (fun v i wr => ∃ (k : Nat) (vs : List Int), k ≤ xs.length ∧ i = .int .i64 k ∧ wr.ownsRow w.heap.size 3 1 v vs.length (vs.map (Value.int .i64)) ∧ Hid (vs = hlv (xs.take k)) ∧ vs.length = k ∧ Below w.heap.size w wr) (fun _ i _ => xs.length - (intOf i).toNat)
  case atStart => exact ⟨0, [], by omega, rfl, World.ownsRow_nil _ _ _ _, rfl, rfl, hb⟩
  case round =>
    clear hcc hff hne hne' HA hsz hb
    obtain ⟨k, vs, hk, rfl, hown, HS, hvl, hb⟩ := hrel
    by_cases hlt : k < xs.length
    · have hrx := fun x hx => rng_at HR.out hlt (x := x) hx
      have hsu := fun x hx => hlv_take_succ hlt (x := x) hx
      rw [← HS.out] at hsu
      obtain ⟨b1, o1, rfl, hb1, hc1⟩ := (ha.later hb).at hlt
      have c1 := hc1 k hlt
      obtain ⟨x, hx1⟩ : ∃ x, xs.getD k 0 = x := ⟨_, rfl⟩
      rw [hx1] at c1
      have HX1 := Lib.hid hx1
      clear hc1 hx1
      have i01 : (0 : Int) ≤ (k : Int) := by omega
      have i11 : (k : Int) < (xs.length : Int) := by omega
      have hx2 := hrx x HX1.out
      have HU := Lib.hid (hsu x HX1.out)
      have hws := hb.size
      clear hrx hsu
      go_wp2_with (at_builtin; refine wpList_append_own _ rfl _ _ 22 rfl w.heap.size 3 i0 (.int .i64 0) 1 8 Try.underlying22 hi hz0 hz1 hz2 rfl (by decide) _ _ _ rfl (hown.alloc _) ⟨wr.heap.size, 0, none⟩ 1 1 [.int .i64 ((x + 1) / 2)] rfl rfl (cell_one_new _ _ _) (ints_oneCell .i64 [(x + 1) / 2]) (by unfold maxLen; omega) (by omega) (by simp; omega) ?_; intro v1 w1 hown1 hgrow1 hnil1)
      go_roundw
      case rel =>
        refine ⟨k + 1, vs ++ [(x + 1) / 2], by omega, by go_num, by simpa using hown1, ?_, by simp; omega, ?_⟩
        · show _ = _
          rw [HU.out, half_eq]
        · exact (hb.alloc (by omega) _).grown hgrow1 (by simp; omega) (fun k hk => (hown.lt k hk).1)
      case measure => go_light; simp [intOf] <;> omega
    · have hkk : k = xs.length := by omega
      have e1 := Lib.hid (show vs = hlv xs by have := HS.out; rwa [hkk, List.take_length] at this)
      clear hkk
      obtain ⟨pa, ca, rfl, _, hrow⟩ := Row.of_own hown
      go_wp2
      go_ret2
      exact ⟨pa, ca, by rw [← e1.out, hvl]; rfl, by rw [← e1.out]; exact hrow, hb⟩
theorem rhalve_p (a : Option Addr) (xs : List Int) (cap : Nat) (w : World) (ha : Row .i64 w a xs) (hl : xs.length ≤ 9223372036854775807) : Calls Try.prog 38 #[.slice a xs.length cap] w (ListPost (rHlv xs) w) := by
  unfold rHlv
  by_cases h : cchk xs = 0
  · simp only [h, if_true]; exact rhalve_1 a xs cap w ha hl h
  · simp only [h, if_false]
    refine (rhalve_e a xs cap w ha hl (by simpa using h)).mono ?_
    rintro e w' ⟨rfl, h3⟩
    exact ⟨none, 0, rfl, .inl rfl, h3⟩
end Go.Proofs.Ytgponpjlkebjcaa
