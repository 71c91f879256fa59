/-
  The reference's functions of layer reps, walked: the same plain functions.
-/
import Derived.Test.YtammacofhdbgcaaRows
import Derived.Test.YtammacofhdbgcaaRepsCheckR
import Derived.Test.YtammacofhdbgcaaRepsMean
import Derived.Test.YtammacofhdbgcaaCommon
import Derived.Deep.Light
namespace Go.Proofs.Ytammacofhdbgcaa
open Go.RowKit
set_option linter.unusedSimpArgs false
set_option linter.unusedVariables false
attribute [local go_sem] tup

set_option maxHeartbeats 1000000 in
theorem meant_r1l (a b c l : Int) (w : World) (ha : 0 ≤ a) (ha2 : a ≤ 2147483648) (h0 : (l == 0) = false) :
    Calls Try.prog 86 #[.agg #[.int .i64 a, .int .i64 b, .int .i64 c], .int .i64 1, .int .i64 l] w fun e w' => e = .returned (.tuple #[.int .i64 (Rmean a b c 1 l).1, .int .i64 (Rplace a b c 1 l), .int .i64 (Rmean a b c 1 l).2.2]) ∧ Below w.heap.size w w' := by
  go_enter Try.func86, Try.ntmps86
  go_wp2
  repeat' (first | (go_region <;> go_wp2) | (refine wp_loop_rounds 4 ?_; rw [rounds_succ]; go_wp2) | (rw [rounds_succ]; go_wp2))
  all_goals go_light
  all_goals (try simp only [beq_iff_eq, beq_eq_false_iff_ne, bne_iff_ne, bne_eq_false_iff_eq, ne_eq] at *)
  all_goals
    refine bodyPost_ret (v := .tuple #[.int .i64 (Rmean a b c 1 l).1, .int .i64 (Rplace a b c 1 l), .int .i64 (Rmean a b c 1 l).2.2]) (by simp [results, Try.results86, go_sem, Rmean, Rplace, rAt, *]) rfl ⟨rfl, ?_⟩
    repeat' (first | exact Below.refl _ _ | refine Below.drew ?_ | refine below_drewN ?_ _ | refine Below.alloc ?_ (by first | omega | (simp <;> omega)) _ | refine Below.setCell ?_ (by first | omega | (simp <;> omega)) _ | refine Below.trans ?_ (Below.mono (by assumption) (by first | omega | (simp <;> omega))))

set_option maxHeartbeats 1000000 in
theorem meant_r10 (a b c : Int) (w : World) (ha : 0 ≤ a) (ha2 : a ≤ 2147483648) :
    Calls Try.prog 86 #[.agg #[.int .i64 a, .int .i64 b, .int .i64 c], .int .i64 1, .int .i64 0] w fun e w' => e = .returned (.tuple #[.int .i64 (Rmean a b c 1 0).1, .int .i64 (Rplace a b c 1 0), .int .i64 (Rmean a b c 1 0).2.2]) ∧ Below w.heap.size w w' := by
  go_enter Try.func86, Try.ntmps86
  go_wp2
  repeat' (first | (go_region <;> go_wp2) | (refine wp_loop_rounds 4 ?_; rw [rounds_succ]; go_wp2) | (rw [rounds_succ]; go_wp2))
  all_goals go_light
  all_goals (try simp only [beq_iff_eq, beq_eq_false_iff_ne, bne_iff_ne, bne_eq_false_iff_eq, ne_eq] at *)
  all_goals
    refine bodyPost_ret (v := .tuple #[.int .i64 (Rmean a b c 1 0).1, .int .i64 (Rplace a b c 1 0), .int .i64 (Rmean a b c 1 0).2.2]) (by simp [results, Try.results86, go_sem, Rmean, Rplace, rAt, *]) rfl ⟨rfl, ?_⟩
    repeat' (first | exact Below.refl _ _ | refine Below.drew ?_ | refine below_drewN ?_ _ | refine Below.alloc ?_ (by first | omega | (simp <;> omega)) _ | refine Below.setCell ?_ (by first | omega | (simp <;> omega)) _ | refine Below.trans ?_ (Below.mono (by assumption) (by first | omega | (simp <;> omega))))

set_option maxHeartbeats 1000000 in
theorem meant_r2l (a b c l : Int) (w : World) (ha : 0 ≤ a) (ha2 : a ≤ 2147483648) (h0 : (l == 0) = false) :
    Calls Try.prog 86 #[.agg #[.int .i64 a, .int .i64 b, .int .i64 c], .int .i64 2, .int .i64 l] w fun e w' => e = .returned (.tuple #[.int .i64 (Rmean a b c 2 l).1, .int .i64 (Rplace a b c 2 l), .int .i64 (Rmean a b c 2 l).2.2]) ∧ Below w.heap.size w w' := by
  go_enter Try.func86, Try.ntmps86
  go_wp2
  repeat' (first | (go_region <;> go_wp2) | (refine wp_loop_rounds 4 ?_; rw [rounds_succ]; go_wp2) | (rw [rounds_succ]; go_wp2))
  all_goals go_light
  all_goals (try simp only [beq_iff_eq, beq_eq_false_iff_ne, bne_iff_ne, bne_eq_false_iff_eq, ne_eq] at *)
  all_goals
    refine bodyPost_ret (v := .tuple #[.int .i64 (Rmean a b c 2 l).1, .int .i64 (Rplace a b c 2 l), .int .i64 (Rmean a b c 2 l).2.2]) (by simp [results, Try.results86, go_sem, Rmean, Rplace, rAt, *]) rfl ⟨rfl, ?_⟩
    repeat' (first | exact Below.refl _ _ | refine Below.drew ?_ | refine below_drewN ?_ _ | refine Below.alloc ?_ (by first | omega | (simp <;> omega)) _ | refine Below.setCell ?_ (by first | omega | (simp <;> omega)) _ | refine Below.trans ?_ (Below.mono (by assumption) (by first | omega | (simp <;> omega))))

set_option maxHeartbeats 1000000 in
theorem meant_r20 (a b c : Int) (w : World) (ha : 0 ≤ a) (ha2 : a ≤ 2147483648) :
    Calls Try.prog 86 #[.agg #[.int .i64 a, .int .i64 b, .int .i64 c], .int .i64 2, .int .i64 0] w fun e w' => e = .returned (.tuple #[.int .i64 (Rmean a b c 2 0).1, .int .i64 (Rplace a b c 2 0), .int .i64 (Rmean a b c 2 0).2.2]) ∧ Below w.heap.size w w' := by
  go_enter Try.func86, Try.ntmps86
  go_wp2
  repeat' (first | (go_region <;> go_wp2) | (refine wp_loop_rounds 4 ?_; rw [rounds_succ]; go_wp2) | (rw [rounds_succ]; go_wp2))
  all_goals go_light
  all_goals (try simp only [beq_iff_eq, beq_eq_false_iff_ne, bne_iff_ne, bne_eq_false_iff_eq, ne_eq] at *)
  all_goals
    refine bodyPost_ret (v := .tuple #[.int .i64 (Rmean a b c 2 0).1, .int .i64 (Rplace a b c 2 0), .int .i64 (Rmean a b c 2 0).2.2]) (by simp [results, Try.results86, go_sem, Rmean, Rplace, rAt, *]) rfl ⟨rfl, ?_⟩
    repeat' (first | exact Below.refl _ _ | refine Below.drew ?_ | refine below_drewN ?_ _ | refine Below.alloc ?_ (by first | omega | (simp <;> omega)) _ | refine Below.setCell ?_ (by first | omega | (simp <;> omega)) _ | refine Below.trans ?_ (Below.mono (by assumption) (by first | omega | (simp <;> omega))))

set_option maxHeartbeats 1000000 in
theorem meant_r3l (a b c l : Int) (w : World) (ha : 0 ≤ a) (ha2 : a ≤ 2147483648) (h0 : (l == 0) = false) :
    Calls Try.prog 86 #[.agg #[.int .i64 a, .int .i64 b, .int .i64 c], .int .i64 3, .int .i64 l] w fun e w' => e = .returned (.tuple #[.int .i64 (Rmean a b c 3 l).1, .int .i64 (Rplace a b c 3 l), .int .i64 (Rmean a b c 3 l).2.2]) ∧ Below w.heap.size w w' := by
  go_enter Try.func86, Try.ntmps86
  go_wp2
  repeat' (first | (go_region <;> go_wp2) | (refine wp_loop_rounds 4 ?_; rw [rounds_succ]; go_wp2) | (rw [rounds_succ]; go_wp2))
  all_goals go_light
  all_goals (try simp only [beq_iff_eq, beq_eq_false_iff_ne, bne_iff_ne, bne_eq_false_iff_eq, ne_eq] at *)
  all_goals
    refine bodyPost_ret (v := .tuple #[.int .i64 (Rmean a b c 3 l).1, .int .i64 (Rplace a b c 3 l), .int .i64 (Rmean a b c 3 l).2.2]) (by simp [results, Try.results86, go_sem, Rmean, Rplace, rAt, *]) rfl ⟨rfl, ?_⟩
    repeat' (first | exact Below.refl _ _ | refine Below.drew ?_ | refine below_drewN ?_ _ | refine Below.alloc ?_ (by first | omega | (simp <;> omega)) _ | refine Below.setCell ?_ (by first | omega | (simp <;> omega)) _ | refine Below.trans ?_ (Below.mono (by assumption) (by first | omega | (simp <;> omega))))

set_option maxHeartbeats 1000000 in
theorem meant_r30 (a b c : Int) (w : World) (ha : 0 ≤ a) (ha2 : a ≤ 2147483648) :
    Calls Try.prog 86 #[.agg #[.int .i64 a, .int .i64 b, .int .i64 c], .int .i64 3, .int .i64 0] w fun e w' => e = .returned (.tuple #[.int .i64 (Rmean a b c 3 0).1, .int .i64 (Rplace a b c 3 0), .int .i64 (Rmean a b c 3 0).2.2]) ∧ Below w.heap.size w w' := by
  go_enter Try.func86, Try.ntmps86
  go_wp2
  repeat' (first | (go_region <;> go_wp2) | (refine wp_loop_rounds 4 ?_; rw [rounds_succ]; go_wp2) | (rw [rounds_succ]; go_wp2))
  all_goals go_light
  all_goals (try simp only [beq_iff_eq, beq_eq_false_iff_ne, bne_iff_ne, bne_eq_false_iff_eq, ne_eq] at *)
  all_goals
    refine bodyPost_ret (v := .tuple #[.int .i64 (Rmean a b c 3 0).1, .int .i64 (Rplace a b c 3 0), .int .i64 (Rmean a b c 3 0).2.2]) (by simp [results, Try.results86, go_sem, Rmean, Rplace, rAt, *]) rfl ⟨rfl, ?_⟩
    repeat' (first | exact Below.refl _ _ | refine Below.drew ?_ | refine below_drewN ?_ _ | refine Below.alloc ?_ (by first | omega | (simp <;> omega)) _ | refine Below.setCell ?_ (by first | omega | (simp <;> omega)) _ | refine Below.trans ?_ (Below.mono (by assumption) (by first | omega | (simp <;> omega))))

set_option maxHeartbeats 1000000 in
theorem meant_rb (a b c v l : Int) (w : World) (hv : 3 < v) (hv2 : v ≤ 2147483651) :
    Calls Try.prog 86 #[.agg #[.int .i64 a, .int .i64 b, .int .i64 c], .int .i64 v, .int .i64 l] w fun e w' => e = .returned (.tuple #[.int .i64 (Rmean a b c v l).1, .int .i64 (Rplace a b c v l), .int .i64 (Rmean a b c v l).2.2]) ∧ Below w.heap.size w w' := by
  go_enter Try.func86, Try.ntmps86
  go_wp2
  repeat' (first | (go_region <;> go_wp2) | (refine wp_loop_rounds 4 ?_; rw [rounds_succ]; go_wp2) | (rw [rounds_succ]; go_wp2))
  all_goals go_light
  all_goals (try simp only [beq_iff_eq, beq_eq_false_iff_ne, bne_iff_ne, bne_eq_false_iff_eq, ne_eq] at *)
  all_goals
    refine bodyPost_ret (v := .tuple #[.int .i64 (Rmean a b c v l).1, .int .i64 (Rplace a b c v l), .int .i64 (Rmean a b c v l).2.2]) (by simp [results, Try.results86, go_sem, Rmean, Rplace, rAt, *]) rfl ⟨rfl, ?_⟩
    repeat' (first | exact Below.refl _ _ | refine Below.drew ?_ | refine below_drewN ?_ _ | refine Below.alloc ?_ (by first | omega | (simp <;> omega)) _ | refine Below.setCell ?_ (by first | omega | (simp <;> omega)) _ | refine Below.trans ?_ (Below.mono (by assumption) (by first | omega | (simp <;> omega))))

theorem meant_r (a b c v l : Int) (w : World) (ha : 0 ≤ a) (ha2 : a ≤ 2147483648) (hv : 1 ≤ v) (hv2 : v ≤ 2147483651) :
    Calls Try.prog 86 #[.agg #[.int .i64 a, .int .i64 b, .int .i64 c], .int .i64 v, .int .i64 l] w fun e w' => e = .returned (.tuple #[.int .i64 (Rmean a b c v l).1, .int .i64 (Rplace a b c v l), .int .i64 (Rmean a b c v l).2.2]) ∧ Below w.heap.size w w' := by
  by_cases h3 : 3 < v
  · exact meant_rb a b c v l w h3 hv2
  · have : v = 1 ∨ v = 2 ∨ v = 3 := by omega
    by_cases h0 : l = 0
    · subst h0
      rcases this with rfl | rfl | rfl
      · exact meant_r10 a b c w ha ha2
      · exact meant_r20 a b c w ha ha2
      · exact meant_r30 a b c w ha ha2
    · have h0' : (l == 0) = false := by simpa using h0
      rcases this with rfl | rfl | rfl
      · exact meant_r1l a b c l w ha ha2 h0'
      · exact meant_r2l a b c l w ha ha2 h0'
      · exact meant_r3l a b c l w ha ha2 h0'

set_option maxHeartbeats 1000000 in
theorem asked_r (a b c v l : Int) (w : World) :
    Calls Try.prog 98 #[.agg #[.int .i64 a, .int .i64 b, .int .i64 c], .int .i64 v, .int .i64 l] w fun e w' => e = .returned (.int .i64 (Rarg a b c v l)) ∧ Below w.heap.size w w' := by
  go_enter Try.func98, Try.ntmps98
  go_wp2_with ((go_at_call 56; refine (check_r _ _ _ _).mono ?_; rintro e w1 ⟨rfl, hb⟩; have hsz := hb.size; (try simp at hsz); (first | (have hbl := blater2 HA (by first | exact Nat.le_refl _ | (simp; done) | (simp; omega)) hb; obtain ⟨hcc, hff, HA, hne, hne'⟩ := hbl) | (obtain ⟨hcc, hff, HA, hne, hne'⟩ := blater1 hb)); (try simp only [World.size_alloc, World.size_setCell] at HA)))
  repeat' (first | (go_region <;> go_wp2_with ((go_at_call 56; refine (check_r _ _ _ _).mono ?_; rintro e w1 ⟨rfl, hb⟩; have hsz := hb.size; (try simp at hsz); (first | (have hbl := blater2 HA (by first | exact Nat.le_refl _ | (simp; done) | (simp; omega)) hb; obtain ⟨hcc, hff, HA, hne, hne'⟩ := hbl) | (obtain ⟨hcc, hff, HA, hne, hne'⟩ := blater1 hb)); (try simp only [World.size_alloc, World.size_setCell] at HA)))))
  all_goals go_light
  all_goals (try simp only [beq_iff_eq, beq_eq_false_iff_ne, bne_iff_ne, bne_eq_false_iff_eq, ne_eq] at *)
  all_goals go_ret
  all_goals
    refine ⟨?_, ?_⟩
    · first | (simp [Rarg, *]; done) | (refine congrArg (fun n => Ending.returned (.int .i64 n)) ?_; unfold Rarg; (repeat' split) <;> first | rfl | omega)
    · repeat' (first | exact Below.refl _ _ | refine Below.drew ?_ | refine below_drewN ?_ _ | refine Below.alloc ?_ (by first | omega | (simp <;> omega)) _ | refine Below.setCell ?_ (by first | omega | (simp <;> omega)) _ | refine Below.trans ?_ (Below.mono (by assumption) (by first | omega | (simp <;> omega))))

set_option maxHeartbeats 1000000 in
theorem distance_r (a b c v l : Int) (w : World) :
    Calls Try.prog 100 #[.agg #[.int .i64 a, .int .i64 b, .int .i64 c], .int .i64 v, .int .i64 l] w fun e w' => e = .returned (.tuple #[.int .i64 (Rask a b c v l).1, .int .i64 (Rask a b c v l).2.2]) ∧ Below w.heap.size w w' := by
  by_cases hc : chkL true [a, b, c] = 0
  · obtain ⟨c1, c2, c3, c4, c5, c6, c7, c8⟩ := chk_ok hc
    by_cases hr : v < 1 ∨ 2147483651 < v ∨ l < 0
    · have ea : Rarg a b c v l = 2 := by unfold Rarg; rw [if_neg (by simpa using hc), if_pos hr]
      have HR := Lib.hid (rask_range hc hr)
      clear hr hc
      go_enter Try.func100, Try.ntmps100
      go_wp2_with (first | (go_at_call 98; refine (asked_r _ _ _ _ _ _).mono ?_; rintro e w1 ⟨rfl, hb⟩; have hsz := hb.size; (try simp at hsz); (first | (have hbl := blater2 HA (by first | exact Nat.le_refl _ | (simp; done) | (simp; omega)) hb; obtain ⟨hcc, hff, HA, hne, hne'⟩ := hbl) | (obtain ⟨hcc, hff, HA, hne, hne'⟩ := blater1 hb)); (try simp only [World.size_alloc, World.size_setCell] at HA)) | (go_at_call 86; refine (meant_r _ _ _ _ _ _ (by omega) (by omega) (by omega) (by omega)).mono ?_; rintro e w1 ⟨rfl, hb⟩; have hsz := hb.size; (try simp at hsz); (first | (have hbl := blater2 HA (by first | exact Nat.le_refl _ | (simp; done) | (simp; omega)) hb; obtain ⟨hcc, hff, HA, hne, hne'⟩ := hbl) | (obtain ⟨hcc, hff, HA, hne, hne'⟩ := blater1 hb)); (try simp only [World.size_alloc, World.size_setCell] at HA)))
      repeat' (first | (go_region <;> go_wp2_with (first | (go_at_call 98; refine (asked_r _ _ _ _ _ _).mono ?_; rintro e w1 ⟨rfl, hb⟩; have hsz := hb.size; (try simp at hsz); (first | (have hbl := blater2 HA (by first | exact Nat.le_refl _ | (simp; done) | (simp; omega)) hb; obtain ⟨hcc, hff, HA, hne, hne'⟩ := hbl) | (obtain ⟨hcc, hff, HA, hne, hne'⟩ := blater1 hb)); (try simp only [World.size_alloc, World.size_setCell] at HA)) | (go_at_call 86; refine (meant_r _ _ _ _ _ _ (by omega) (by omega) (by omega) (by omega)).mono ?_; rintro e w1 ⟨rfl, hb⟩; have hsz := hb.size; (try simp at hsz); (first | (have hbl := blater2 HA (by first | exact Nat.le_refl _ | (simp; done) | (simp; omega)) hb; obtain ⟨hcc, hff, HA, hne, hne'⟩ := hbl) | (obtain ⟨hcc, hff, HA, hne, hne'⟩ := blater1 hb)); (try simp only [World.size_alloc, World.size_setCell] at HA)))))
      all_goals go_light
      all_goals (try simp only [beq_iff_eq, beq_eq_false_iff_ne, bne_iff_ne, bne_eq_false_iff_eq, ne_eq] at *)
      all_goals
        refine bodyPost_ret (v := .tuple #[.int .i64 0, .int .i64 2]) (by simp [results, Try.results100, go_sem, *]) rfl ⟨by rw [HR.out], ?_⟩
        repeat' (first | exact Below.refl _ _ | refine Below.drew ?_ | refine below_drewN ?_ _ | refine Below.alloc ?_ (by first | omega | (simp <;> omega)) _ | refine Below.setCell ?_ (by first | omega | (simp <;> omega)) _ | refine Below.trans ?_ (Below.mono (by assumption) (by first | omega | (simp <;> omega))))
    · have ea : Rarg a b c v l = 0 := by unfold Rarg; rw [if_neg (by simpa using hc), if_neg hr]
      have hr1 : 1 ≤ v := by omega
      have hr2 : v ≤ 2147483651 := by omega
      have hr3 : 0 ≤ l := by omega
      have HC := Lib.hid hc
      have HN := Lib.hid hr
      clear hr hc
      go_enter Try.func100, Try.ntmps100
      go_wp2_with (first | (go_at_call 98; refine (asked_r _ _ _ _ _ _).mono ?_; rintro e w1 ⟨rfl, hb⟩; have hsz := hb.size; (try simp at hsz); (first | (have hbl := blater2 HA (by first | exact Nat.le_refl _ | (simp; done) | (simp; omega)) hb; obtain ⟨hcc, hff, HA, hne, hne'⟩ := hbl) | (obtain ⟨hcc, hff, HA, hne, hne'⟩ := blater1 hb)); (try simp only [World.size_alloc, World.size_setCell] at HA)) | (go_at_call 86; refine (meant_r _ _ _ _ _ _ (by omega) (by omega) (by omega) (by omega)).mono ?_; rintro e w1 ⟨rfl, hb⟩; have hsz := hb.size; (try simp at hsz); (first | (have hbl := blater2 HA (by first | exact Nat.le_refl _ | (simp; done) | (simp; omega)) hb; obtain ⟨hcc, hff, HA, hne, hne'⟩ := hbl) | (obtain ⟨hcc, hff, HA, hne, hne'⟩ := blater1 hb)); (try simp only [World.size_alloc, World.size_setCell] at HA)))
      repeat' (first | (go_region <;> go_wp2_with (first | (go_at_call 98; refine (asked_r _ _ _ _ _ _).mono ?_; rintro e w1 ⟨rfl, hb⟩; have hsz := hb.size; (try simp at hsz); (first | (have hbl := blater2 HA (by first | exact Nat.le_refl _ | (simp; done) | (simp; omega)) hb; obtain ⟨hcc, hff, HA, hne, hne'⟩ := hbl) | (obtain ⟨hcc, hff, HA, hne, hne'⟩ := blater1 hb)); (try simp only [World.size_alloc, World.size_setCell] at HA)) | (go_at_call 86; refine (meant_r _ _ _ _ _ _ (by omega) (by omega) (by omega) (by omega)).mono ?_; rintro e w1 ⟨rfl, hb⟩; have hsz := hb.size; (try simp at hsz); (first | (have hbl := blater2 HA (by first | exact Nat.le_refl _ | (simp; done) | (simp; omega)) hb; obtain ⟨hcc, hff, HA, hne, hne'⟩ := hbl) | (obtain ⟨hcc, hff, HA, hne, hne'⟩ := blater1 hb)); (try simp only [World.size_alloc, World.size_setCell] at HA)))))
      all_goals go_light
      all_goals (try simp only [beq_iff_eq, beq_eq_false_iff_ne, bne_iff_ne, bne_eq_false_iff_eq, ne_eq] at *)
      all_goals
        by_cases h2 : (Rmean a b c v l).2.2 = 0
        · rw [rask_ok HC.out HN.out h2]
          refine bodyPost_ret (v := .tuple #[.int .i64 (Rmean a b c v l).1, .int .i64 (Rmean a b c v l).2.2]) (by simp [results, Try.results100, go_sem]) rfl ⟨rfl, ?_⟩
          repeat' (first | exact Below.refl _ _ | refine Below.drew ?_ | refine below_drewN ?_ _ | refine Below.alloc ?_ (by first | omega | (simp <;> omega)) _ | refine Below.setCell ?_ (by first | omega | (simp <;> omega)) _ | refine Below.trans ?_ (Below.mono (by assumption) (by first | omega | (simp <;> omega))))
        · rw [rask_err HC.out HN.out h2]
          refine bodyPost_ret (v := .tuple #[.int .i64 (Rmean a b c v l).1, .int .i64 (Rmean a b c v l).2.2]) (by simp [results, Try.results100, go_sem]) rfl ⟨by rw [rmean_err h2], ?_⟩
          repeat' (first | exact Below.refl _ _ | refine Below.drew ?_ | refine below_drewN ?_ _ | refine Below.alloc ?_ (by first | omega | (simp <;> omega)) _ | refine Below.setCell ?_ (by first | omega | (simp <;> omega)) _ | refine Below.trans ?_ (Below.mono (by assumption) (by first | omega | (simp <;> omega))))
  · have ea : Rarg a b c v l = chkL true [a, b, c] := by unfold Rarg; rw [if_pos hc]
    have hb : (chkL true [a, b, c] != 0) = true := by simpa using hc
    have HR := Lib.hid (rask_chk (v := v) (l := l) hc)
    clear hc
    go_enter Try.func100, Try.ntmps100
    go_wp2_with (first | (go_at_call 98; refine (asked_r _ _ _ _ _ _).mono ?_; rintro e w1 ⟨rfl, hb⟩; have hsz := hb.size; (try simp at hsz); (first | (have hbl := blater2 HA (by first | exact Nat.le_refl _ | (simp; done) | (simp; omega)) hb; obtain ⟨hcc, hff, HA, hne, hne'⟩ := hbl) | (obtain ⟨hcc, hff, HA, hne, hne'⟩ := blater1 hb)); (try simp only [World.size_alloc, World.size_setCell] at HA)) | (go_at_call 86; refine (meant_r _ _ _ _ _ _ (by omega) (by omega) (by omega) (by omega)).mono ?_; rintro e w1 ⟨rfl, hb⟩; have hsz := hb.size; (try simp at hsz); (first | (have hbl := blater2 HA (by first | exact Nat.le_refl _ | (simp; done) | (simp; omega)) hb; obtain ⟨hcc, hff, HA, hne, hne'⟩ := hbl) | (obtain ⟨hcc, hff, HA, hne, hne'⟩ := blater1 hb)); (try simp only [World.size_alloc, World.size_setCell] at HA)))
    repeat' (first | (go_region <;> go_wp2_with (first | (go_at_call 98; refine (asked_r _ _ _ _ _ _).mono ?_; rintro e w1 ⟨rfl, hb⟩; have hsz := hb.size; (try simp at hsz); (first | (have hbl := blater2 HA (by first | exact Nat.le_refl _ | (simp; done) | (simp; omega)) hb; obtain ⟨hcc, hff, HA, hne, hne'⟩ := hbl) | (obtain ⟨hcc, hff, HA, hne, hne'⟩ := blater1 hb)); (try simp only [World.size_alloc, World.size_setCell] at HA)) | (go_at_call 86; refine (meant_r _ _ _ _ _ _ (by omega) (by omega) (by omega) (by omega)).mono ?_; rintro e w1 ⟨rfl, hb⟩; have hsz := hb.size; (try simp at hsz); (first | (have hbl := blater2 HA (by first | exact Nat.le_refl _ | (simp; done) | (simp; omega)) hb; obtain ⟨hcc, hff, HA, hne, hne'⟩ := hbl) | (obtain ⟨hcc, hff, HA, hne, hne'⟩ := blater1 hb)); (try simp only [World.size_alloc, World.size_setCell] at HA)))))
    all_goals go_light
    all_goals (try simp only [beq_iff_eq, beq_eq_false_iff_ne, bne_iff_ne, bne_eq_false_iff_eq, ne_eq] at *)
    all_goals
      refine bodyPost_ret (v := .tuple #[.int .i64 0, .int .i64 (chkL true [a, b, c])]) (by simp [results, Try.results100, go_sem, *]) rfl ⟨by rw [HR.out], ?_⟩
      repeat' (first | exact Below.refl _ _ | refine Below.drew ?_ | refine below_drewN ?_ _ | refine Below.alloc ?_ (by first | omega | (simp <;> omega)) _ | refine Below.setCell ?_ (by first | omega | (simp <;> omega)) _ | refine Below.trans ?_ (Below.mono (by assumption) (by first | omega | (simp <;> omega))))

set_option maxHeartbeats 1000000 in
theorem next_r (a b c v l : Int) (w : World) :
    Calls Try.prog 72 #[.agg #[.int .i64 a, .int .i64 b, .int .i64 c], .int .i64 v, .int .i64 l] w fun e w' => e = .returned (.tuple #[.agg #[.int .i64 (Rask a b c v l).2.1.1, .int .i64 (Rask a b c v l).2.1.2.1, .int .i64 (Rask a b c v l).2.1.2.2], .int .i64 (Rask a b c v l).2.2]) ∧ Below w.heap.size w w' := by
  by_cases hc : chkL true [a, b, c] = 0
  · obtain ⟨c1, c2, c3, c4, c5, c6, c7, c8⟩ := chk_ok hc
    by_cases hr : v < 1 ∨ 2147483651 < v ∨ l < 0
    · have ea : Rarg a b c v l = 2 := by unfold Rarg; rw [if_neg (by simpa using hc), if_pos hr]
      have HR := Lib.hid (rask_range hc hr)
      clear hr hc
      go_enter Try.func72, Try.ntmps72
      go_wp2_with (first | (go_at_call 98; refine (asked_r _ _ _ _ _ _).mono ?_; rintro e w1 ⟨rfl, hb⟩; have hsz := hb.size; (try simp at hsz); (first | (have hbl := blater2 HA (by first | exact Nat.le_refl _ | (simp; done) | (simp; omega)) hb; obtain ⟨hcc, hff, HA, hne, hne'⟩ := hbl) | (obtain ⟨hcc, hff, HA, hne, hne'⟩ := blater1 hb)); (try simp only [World.size_alloc, World.size_setCell] at HA)) | (go_at_call 86; refine (meant_r _ _ _ _ _ _ (by omega) (by omega) (by omega) (by omega)).mono ?_; rintro e w1 ⟨rfl, hb⟩; have hsz := hb.size; (try simp at hsz); (first | (have hbl := blater2 HA (by first | exact Nat.le_refl _ | (simp; done) | (simp; omega)) hb; obtain ⟨hcc, hff, HA, hne, hne'⟩ := hbl) | (obtain ⟨hcc, hff, HA, hne, hne'⟩ := blater1 hb)); (try simp only [World.size_alloc, World.size_setCell] at HA)))
      repeat' (first | (go_region <;> go_wp2_with (first | (go_at_call 98; refine (asked_r _ _ _ _ _ _).mono ?_; rintro e w1 ⟨rfl, hb⟩; have hsz := hb.size; (try simp at hsz); (first | (have hbl := blater2 HA (by first | exact Nat.le_refl _ | (simp; done) | (simp; omega)) hb; obtain ⟨hcc, hff, HA, hne, hne'⟩ := hbl) | (obtain ⟨hcc, hff, HA, hne, hne'⟩ := blater1 hb)); (try simp only [World.size_alloc, World.size_setCell] at HA)) | (go_at_call 86; refine (meant_r _ _ _ _ _ _ (by omega) (by omega) (by omega) (by omega)).mono ?_; rintro e w1 ⟨rfl, hb⟩; have hsz := hb.size; (try simp at hsz); (first | (have hbl := blater2 HA (by first | exact Nat.le_refl _ | (simp; done) | (simp; omega)) hb; obtain ⟨hcc, hff, HA, hne, hne'⟩ := hbl) | (obtain ⟨hcc, hff, HA, hne, hne'⟩ := blater1 hb)); (try simp only [World.size_alloc, World.size_setCell] at HA)))))
      all_goals go_light
      all_goals (try simp only [beq_iff_eq, beq_eq_false_iff_ne, bne_iff_ne, bne_eq_false_iff_eq, ne_eq] at *)
      all_goals
        refine bodyPost_ret (v := .tuple #[.agg #[.int .i64 0, .int .i64 0, .int .i64 0], .int .i64 2]) (by simp [results, Try.results72, go_sem, *]) rfl ⟨by rw [HR.out], ?_⟩
        repeat' (first | exact Below.refl _ _ | refine Below.drew ?_ | refine below_drewN ?_ _ | refine Below.alloc ?_ (by first | omega | (simp <;> omega)) _ | refine Below.setCell ?_ (by first | omega | (simp <;> omega)) _ | refine Below.trans ?_ (Below.mono (by assumption) (by first | omega | (simp <;> omega))))
    · have ea : Rarg a b c v l = 0 := by unfold Rarg; rw [if_neg (by simpa using hc), if_neg hr]
      have hr1 : 1 ≤ v := by omega
      have hr2 : v ≤ 2147483651 := by omega
      have hr3 : 0 ≤ l := by omega
      have HC := Lib.hid hc
      have HN := Lib.hid hr
      clear hr hc
      go_enter Try.func72, Try.ntmps72
      go_wp2_with (first | (go_at_call 98; refine (asked_r _ _ _ _ _ _).mono ?_; rintro e w1 ⟨rfl, hb⟩; have hsz := hb.size; (try simp at hsz); (first | (have hbl := blater2 HA (by first | exact Nat.le_refl _ | (simp; done) | (simp; omega)) hb; obtain ⟨hcc, hff, HA, hne, hne'⟩ := hbl) | (obtain ⟨hcc, hff, HA, hne, hne'⟩ := blater1 hb)); (try simp only [World.size_alloc, World.size_setCell] at HA)) | (go_at_call 86; refine (meant_r _ _ _ _ _ _ (by omega) (by omega) (by omega) (by omega)).mono ?_; rintro e w1 ⟨rfl, hb⟩; have hsz := hb.size; (try simp at hsz); (first | (have hbl := blater2 HA (by first | exact Nat.le_refl _ | (simp; done) | (simp; omega)) hb; obtain ⟨hcc, hff, HA, hne, hne'⟩ := hbl) | (obtain ⟨hcc, hff, HA, hne, hne'⟩ := blater1 hb)); (try simp only [World.size_alloc, World.size_setCell] at HA)))
      repeat' (first | (go_region <;> go_wp2_with (first | (go_at_call 98; refine (asked_r _ _ _ _ _ _).mono ?_; rintro e w1 ⟨rfl, hb⟩; have hsz := hb.size; (try simp at hsz); (first | (have hbl := blater2 HA (by first | exact Nat.le_refl _ | (simp; done) | (simp; omega)) hb; obtain ⟨hcc, hff, HA, hne, hne'⟩ := hbl) | (obtain ⟨hcc, hff, HA, hne, hne'⟩ := blater1 hb)); (try simp only [World.size_alloc, World.size_setCell] at HA)) | (go_at_call 86; refine (meant_r _ _ _ _ _ _ (by omega) (by omega) (by omega) (by omega)).mono ?_; rintro e w1 ⟨rfl, hb⟩; have hsz := hb.size; (try simp at hsz); (first | (have hbl := blater2 HA (by first | exact Nat.le_refl _ | (simp; done) | (simp; omega)) hb; obtain ⟨hcc, hff, HA, hne, hne'⟩ := hbl) | (obtain ⟨hcc, hff, HA, hne, hne'⟩ := blater1 hb)); (try simp only [World.size_alloc, World.size_setCell] at HA)))))
      all_goals go_light
      all_goals (try simp only [beq_iff_eq, beq_eq_false_iff_ne, bne_iff_ne, bne_eq_false_iff_eq, ne_eq] at *)
      all_goals
        first
          | (rw [rask_err HC.out HN.out (by assumption)]; refine bodyPost_ret (v := .tuple #[.agg #[.int .i64 0, .int .i64 0, .int .i64 0], .int .i64 (Rmean a b c v l).2.2]) (by simp [results, Try.results72, go_sem, *]) rfl ⟨rfl, ?_⟩)
          | (rw [rask_ok HC.out HN.out (by assumption), (rplace_spec (by assumption)).1 (by assumption)]; refine bodyPost_ret (v := .tuple #[.agg #[.int .i64 a, .int .i64 b, .int .i64 c], .int .i64 0]) (by simp [results, Try.results72, go_sem, *]) rfl ⟨by simp [*], ?_⟩)
          | (rw [rask_ok HC.out HN.out (by assumption), (rplace_spec (by assumption)).2.1 (by assumption)]; refine bodyPost_ret (v := .tuple #[.agg #[.int .i64 (Rmean a b c v l).1, .int .i64 a, .int .i64 c], .int .i64 0]) (by simp [results, Try.results72, go_sem, *]) rfl ⟨by simp [*], ?_⟩)
          | (rw [rask_ok HC.out HN.out (by assumption), (rplace_spec (by assumption)).2.2 (by assumption) (by assumption)]; refine bodyPost_ret (v := .tuple #[.agg #[.int .i64 (Rmean a b c v l).1, .int .i64 a, .int .i64 b], .int .i64 0]) (by simp [results, Try.results72, go_sem, *]) rfl ⟨by simp [*], ?_⟩)
        repeat' (first | exact Below.refl _ _ | refine Below.drew ?_ | refine below_drewN ?_ _ | refine Below.alloc ?_ (by first | omega | (simp <;> omega)) _ | refine Below.setCell ?_ (by first | omega | (simp <;> omega)) _ | refine Below.trans ?_ (Below.mono (by assumption) (by first | omega | (simp <;> omega))))
  · have ea : Rarg a b c v l = chkL true [a, b, c] := by unfold Rarg; rw [if_pos hc]
    have hb : (chkL true [a, b, c] != 0) = true := by simpa using hc
    have HR := Lib.hid (rask_chk (v := v) (l := l) hc)
    clear hc
    go_enter Try.func72, Try.ntmps72
    go_wp2_with (first | (go_at_call 98; refine (asked_r _ _ _ _ _ _).mono ?_; rintro e w1 ⟨rfl, hb⟩; have hsz := hb.size; (try simp at hsz); (first | (have hbl := blater2 HA (by first | exact Nat.le_refl _ | (simp; done) | (simp; omega)) hb; obtain ⟨hcc, hff, HA, hne, hne'⟩ := hbl) | (obtain ⟨hcc, hff, HA, hne, hne'⟩ := blater1 hb)); (try simp only [World.size_alloc, World.size_setCell] at HA)) | (go_at_call 86; refine (meant_r _ _ _ _ _ _ (by omega) (by omega) (by omega) (by omega)).mono ?_; rintro e w1 ⟨rfl, hb⟩; have hsz := hb.size; (try simp at hsz); (first | (have hbl := blater2 HA (by first | exact Nat.le_refl _ | (simp; done) | (simp; omega)) hb; obtain ⟨hcc, hff, HA, hne, hne'⟩ := hbl) | (obtain ⟨hcc, hff, HA, hne, hne'⟩ := blater1 hb)); (try simp only [World.size_alloc, World.size_setCell] at HA)))
    repeat' (first | (go_region <;> go_wp2_with (first | (go_at_call 98; refine (asked_r _ _ _ _ _ _).mono ?_; rintro e w1 ⟨rfl, hb⟩; have hsz := hb.size; (try simp at hsz); (first | (have hbl := blater2 HA (by first | exact Nat.le_refl _ | (simp; done) | (simp; omega)) hb; obtain ⟨hcc, hff, HA, hne, hne'⟩ := hbl) | (obtain ⟨hcc, hff, HA, hne, hne'⟩ := blater1 hb)); (try simp only [World.size_alloc, World.size_setCell] at HA)) | (go_at_call 86; refine (meant_r _ _ _ _ _ _ (by omega) (by omega) (by omega) (by omega)).mono ?_; rintro e w1 ⟨rfl, hb⟩; have hsz := hb.size; (try simp at hsz); (first | (have hbl := blater2 HA (by first | exact Nat.le_refl _ | (simp; done) | (simp; omega)) hb; obtain ⟨hcc, hff, HA, hne, hne'⟩ := hbl) | (obtain ⟨hcc, hff, HA, hne, hne'⟩ := blater1 hb)); (try simp only [World.size_alloc, World.size_setCell] at HA)))))
    all_goals go_light
    all_goals (try simp only [beq_iff_eq, beq_eq_false_iff_ne, bne_iff_ne, bne_eq_false_iff_eq, ne_eq] at *)
    all_goals
      refine bodyPost_ret (v := .tuple #[.agg #[.int .i64 0, .int .i64 0, .int .i64 0], .int .i64 (chkL true [a, b, c])]) (by simp [results, Try.results72, go_sem, *]) rfl ⟨by rw [HR.out], ?_⟩
      repeat' (first | exact Below.refl _ _ | refine Below.drew ?_ | refine below_drewN ?_ _ | refine Below.alloc ?_ (by first | omega | (simp <;> omega)) _ | refine Below.setCell ?_ (by first | omega | (simp <;> omega)) _ | refine Below.trans ?_ (Below.mono (by assumption) (by first | omega | (simp <;> omega))))

set_option maxHeartbeats 1000000 in
theorem value_r0 (a b c d l : Int) (w : World) (hc : (chkL true [a, b, c] != 0) = true) :
    Calls Try.prog 59 #[.agg #[.int .i64 a, .int .i64 b, .int .i64 c], .int .i64 d, .int .i64 l] w fun e w' => e = .returned (.tuple #[.int .i64 (Rval a b c d l).1, .int .i64 (Rval a b c d l).2]) ∧ Below w.heap.size w w' := by
  have HR : Hid (Rval a b c d l = (0, chkL true [a, b, c])) := rval_chk (by simpa using hc)
  have hc2 : (chkL true [a, b, c] == 0) = false := by simpa using hc
  go_enter Try.func59, Try.ntmps59
  go_wp2_with ((go_at_call 56; refine (check_r _ _ _ _).mono ?_; rintro e w1 ⟨rfl, hb⟩; have hsz := hb.size; (try simp at hsz); (first | (have hbl := blater2 HA (by first | exact Nat.le_refl _ | (simp; done) | (simp; omega)) hb; obtain ⟨hcc, hff, HA, hne, hne'⟩ := hbl) | (obtain ⟨hcc, hff, HA, hne, hne'⟩ := blater1 hb)); (try simp only [World.size_alloc, World.size_setCell] at HA)))
  repeat' (first | (go_region <;> go_wp2_with ((go_at_call 56; refine (check_r _ _ _ _).mono ?_; rintro e w1 ⟨rfl, hb⟩; have hsz := hb.size; (try simp at hsz); (first | (have hbl := blater2 HA (by first | exact Nat.le_refl _ | (simp; done) | (simp; omega)) hb; obtain ⟨hcc, hff, HA, hne, hne'⟩ := hbl) | (obtain ⟨hcc, hff, HA, hne, hne'⟩ := blater1 hb)); (try simp only [World.size_alloc, World.size_setCell] at HA)))))
  all_goals go_light
  all_goals (try simp only [beq_iff_eq, beq_eq_false_iff_ne, bne_iff_ne, bne_eq_false_iff_eq, ne_eq] at *)
  all_goals
    refine bodyPost_ret (v := .tuple #[.int .i64 0, .int .i64 (chkL true [a, b, c])]) (by simp [results, Try.results59, go_sem, tup, *]) rfl ⟨by rw [HR.out], ?_⟩
    repeat' (first | exact Below.refl _ _ | refine Below.drew ?_ | refine below_drewN ?_ _ | refine Below.alloc ?_ (by first | omega | (simp <;> omega)) _ | refine Below.setCell ?_ (by first | omega | (simp <;> omega)) _ | refine Below.trans ?_ (Below.mono (by assumption) (by first | omega | (simp <;> omega))))

set_option maxHeartbeats 4000000 in
theorem value_r1 (a b c d l : Int) (w : World) (hc : chkL true [a, b, c] = 0) :
    Calls Try.prog 59 #[.agg #[.int .i64 a, .int .i64 b, .int .i64 c], .int .i64 d, .int .i64 l] w fun e w' => e = .returned (.tuple #[.int .i64 (Rval a b c d l).1, .int .i64 (Rval a b c d l).2]) ∧ Below w.heap.size w w' := by
  obtain ⟨c1, c2, c3, c4, c5, c6, c7, c8⟩ := chk_ok hc
  go_enter Try.func59, Try.ntmps59
  go_wp2_with (first | (go_at_call 56; refine (check_r _ _ _ _).mono ?_; rintro e w1 ⟨rfl, hb⟩; have hsz := hb.size; (try simp at hsz); (first | (have hbl := blater2 HA (by first | exact Nat.le_refl _ | (simp; done) | (simp; omega)) hb; obtain ⟨hcc, hff, HA, hne, hne'⟩ := hbl) | (obtain ⟨hcc, hff, HA, hne, hne'⟩ := blater1 hb)); (try simp only [World.size_alloc, World.size_setCell] at HA)) | (go_at_call 86; refine (meant_r _ _ _ _ _ _ (by omega) (by omega) (by omega) (by omega)).mono ?_; rintro e w1 ⟨rfl, hb⟩; have hsz := hb.size; (try simp at hsz); (first | (have hbl := blater2 HA (by first | exact Nat.le_refl _ | (simp; done) | (simp; omega)) hb; obtain ⟨hcc, hff, HA, hne, hne'⟩ := hbl) | (obtain ⟨hcc, hff, HA, hne, hne'⟩ := blater1 hb)); (try simp only [World.size_alloc, World.size_setCell] at HA)))
  repeat' (first | (go_region <;> go_wp2_with (first | (go_at_call 56; refine (check_r _ _ _ _).mono ?_; rintro e w1 ⟨rfl, hb⟩; have hsz := hb.size; (try simp at hsz); (first | (have hbl := blater2 HA (by first | exact Nat.le_refl _ | (simp; done) | (simp; omega)) hb; obtain ⟨hcc, hff, HA, hne, hne'⟩ := hbl) | (obtain ⟨hcc, hff, HA, hne, hne'⟩ := blater1 hb)); (try simp only [World.size_alloc, World.size_setCell] at HA)) | (go_at_call 86; refine (meant_r _ _ _ _ _ _ (by omega) (by omega) (by omega) (by omega)).mono ?_; rintro e w1 ⟨rfl, hb⟩; have hsz := hb.size; (try simp at hsz); (first | (have hbl := blater2 HA (by first | exact Nat.le_refl _ | (simp; done) | (simp; omega)) hb; obtain ⟨hcc, hff, HA, hne, hne'⟩ := hbl) | (obtain ⟨hcc, hff, HA, hne, hne'⟩ := blater1 hb)); (try simp only [World.size_alloc, World.size_setCell] at HA)))) | (refine wp_loop_rounds 4 ?_; rw [rounds_succ]; go_wp2_with (first | (go_at_call 56; refine (check_r _ _ _ _).mono ?_; rintro e w1 ⟨rfl, hb⟩; have hsz := hb.size; (try simp at hsz); (first | (have hbl := blater2 HA (by first | exact Nat.le_refl _ | (simp; done) | (simp; omega)) hb; obtain ⟨hcc, hff, HA, hne, hne'⟩ := hbl) | (obtain ⟨hcc, hff, HA, hne, hne'⟩ := blater1 hb)); (try simp only [World.size_alloc, World.size_setCell] at HA)) | (go_at_call 86; refine (meant_r _ _ _ _ _ _ (by omega) (by omega) (by omega) (by omega)).mono ?_; rintro e w1 ⟨rfl, hb⟩; have hsz := hb.size; (try simp at hsz); (first | (have hbl := blater2 HA (by first | exact Nat.le_refl _ | (simp; done) | (simp; omega)) hb; obtain ⟨hcc, hff, HA, hne, hne'⟩ := hbl) | (obtain ⟨hcc, hff, HA, hne, hne'⟩ := blater1 hb)); (try simp only [World.size_alloc, World.size_setCell] at HA)))) | (rw [rounds_succ]; go_wp2_with (first | (go_at_call 56; refine (check_r _ _ _ _).mono ?_; rintro e w1 ⟨rfl, hb⟩; have hsz := hb.size; (try simp at hsz); (first | (have hbl := blater2 HA (by first | exact Nat.le_refl _ | (simp; done) | (simp; omega)) hb; obtain ⟨hcc, hff, HA, hne, hne'⟩ := hbl) | (obtain ⟨hcc, hff, HA, hne, hne'⟩ := blater1 hb)); (try simp only [World.size_alloc, World.size_setCell] at HA)) | (go_at_call 86; refine (meant_r _ _ _ _ _ _ (by omega) (by omega) (by omega) (by omega)).mono ?_; rintro e w1 ⟨rfl, hb⟩; have hsz := hb.size; (try simp at hsz); (first | (have hbl := blater2 HA (by first | exact Nat.le_refl _ | (simp; done) | (simp; omega)) hb; obtain ⟨hcc, hff, HA, hne, hne'⟩ := hbl) | (obtain ⟨hcc, hff, HA, hne, hne'⟩ := blater1 hb)); (try simp only [World.size_alloc, World.size_setCell] at HA)))))
  all_goals go_light
  all_goals (try simp only [beq_iff_eq, beq_eq_false_iff_ne, bne_iff_ne, bne_eq_false_iff_eq, ne_eq] at *)
  all_goals
    first
      | (rw [rval_range hc (by omega)]; refine bodyPost_ret (v := .tuple #[.int .i64 0, .int .i64 2]) (by simp [results, Try.results59, go_sem, tup, *]) rfl ⟨rfl, ?_⟩)
      | (rw [rval_in hc (by omega)]; simp only [*, and_self, and_false, false_and, if_true, if_false]; go_ret2; refine ⟨by first | rfl | simp [*], ?_⟩)
    repeat' (first | exact Below.refl _ _ | refine Below.drew ?_ | refine below_drewN ?_ _ | refine Below.alloc ?_ (by first | omega | (simp <;> omega)) _ | refine Below.setCell ?_ (by first | omega | (simp <;> omega)) _ | refine Below.trans ?_ (Below.mono (by assumption) (by first | omega | (simp <;> omega))))

theorem value_r (a b c d l : Int) (w : World) :
    Calls Try.prog 59 #[.agg #[.int .i64 a, .int .i64 b, .int .i64 c], .int .i64 d, .int .i64 l] w fun e w' => e = .returned (.tuple #[.int .i64 (Rval a b c d l).1, .int .i64 (Rval a b c d l).2]) ∧ Below w.heap.size w w' := by
  by_cases hc : chkL true [a, b, c] = 0
  · exact value_r1 a b c d l w hc
  · exact value_r0 a b c d l w (by simpa using hc)
end Go.Proofs.Ytammacofhdbgcaa
