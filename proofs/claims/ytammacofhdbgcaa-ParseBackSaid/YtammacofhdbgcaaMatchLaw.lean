/-
  The statements' helpers on matches, and MatchFinds, walked.
-/
import Derived.Test.YtammacofhdbgcaaRows
import Derived.Test.YtammacofhdbgcaaGMatB
import Derived.Test.YtammacofhdbgcaaGMatA
import Derived.Test.YtammacofhdbgcaaGBase
import Derived.Deep.Light
import Derived.Shelf.Abstract
import Derived.Shelf.RegionOpen
import Derived.OwnWalkIn
import Derived.TacticsInMore
import Derived.LoopNIn
import Derived.LoopIn
import Derived.Outline
namespace Go.Proofs.Ytammacofhdbgcaa
open Go.RowKit
set_option linter.unusedSimpArgs false
set_option linter.unusedVariables false
open Go.Shelf
attribute [local go_sem] eq32 Oper.semAt_some

set_option maxHeartbeats 2000000 in
theorem sameM_k (a b : Option Addr) (ms : List (Int × Int × Int × Int)) (n ca cb : Nat) (w : World) (hn : n = ms.length) (ha : RowM w a ms) (hb : RowM w b ms) (hl : ms.length ≤ 9223372036854775807) :
    Calls Try.prog 20 #[.slice a n ca, .slice b n cb] w fun e w' => e = .returned (.bool true) ∧ Below w.heap.size w w' := by
  subst hn
  go_enter Try.func20, Try.ntmps20
  go_wp2
  go_loopw [5] (fun i wr => ∃ k : Nat, k ≤ ms.length ∧ i = .int .i64 k ∧ Below w.heap.size w wr) (fun i _ => ms.length - (intOf i).toNat)
  case atStart => exact ⟨0, by omega, rfl, Below.refl _ _⟩
  case round =>
    obtain ⟨k, hk, rfl, hbw⟩ := hrel
    by_cases hlt : k < ms.length
    · obtain ⟨b1, o1, rfl, hb1, hc1⟩ := (ha.later hbw).at hlt
      obtain ⟨b2, o2, rfl, hb2, hc2⟩ := (hb.later hbw).at hlt
      obtain ⟨c1, c2, c3, c4⟩ := hc1 k hlt
      obtain ⟨d1, d2, d3, d4⟩ := hc2 k hlt
      obtain ⟨⟨x, y, z, u⟩, hx⟩ : ∃ q, ms.getD k (0, 0, 0, 0) = q := ⟨_, rfl⟩
      rw [hx] at c1 c2 c3 c4 d1 d2 d3 d4
      dsimp only at c1 c2 c3 c4 d1 d2 d3 d4
      have i0 : (0 : Int) ≤ (k : Int) := by omega
      have i1 : (k : Int) < (ms.length : Int) := by omega
      clear hc1 hc2 hx
      go_wp2
      go_quiet (fail)
      go_wp2
      go_roundw
      case rel => exact ⟨k + 1, by omega, by go_num, below_drewN hbw _⟩
      case measure => go_light; simp [intOf] <;> omega
    · obtain rfl : k = ms.length := by omega
      go_wp2
      go_ret
      exact ⟨rfl, hbw⟩

set_option maxHeartbeats 2000000 in
theorem found_1 (w : World) :
    Calls Try.prog 27 #[.int .i64 4, .int .i64 13, .int .i64 1, .agg #[.int .i64 0, .int .i64 0, .int .i64 0], .agg #[.int .i64 4, .int .i64 4, .int .i64 7, .int .i64 14]] w fun e' w' => e' = .returned (.bool true) ∧ Below w.heap.size w w' := by
  have h : Rat ⟨#[97, 98, 99, 100, 97, 98, 99, 100, 101, 97, 98, 99, 100]⟩ 4 13 10 1 0 0 0 1 = ((4, 4, 7, 14), true, 0) := by decide +kernel
  have q1 := fun w => mat_p ⟨#[97, 98, 99, 100, 97, 98, 99, 100, 101, 97, 98, 99, 100]⟩ 4 13 10 1 0 0 0 1 w (by decide)
  rw [h] at q1
  dsimp only at q1
  clear h
  go_enter Try.func27, Try.ntmps27
  go_wp2_with ((go_at_call 18; refine (q1 _).mono ?_; rintro e w1 ⟨rfl, hb⟩; have hsz := hb.size; (try simp at hsz); (first | (have hbl := blater2 HA (by first | exact Nat.le_refl _ | (simp; done) | (simp; omega)) hb; obtain ⟨hcc, hff, HA, hne, hne'⟩ := hbl) | (obtain ⟨hcc, hff, HA, hne, hne'⟩ := blater1 hb)); (try simp only [World.size_alloc, World.size_setCell] at HA)))
  repeat' (first | (go_region <;> go_wp2_with ((go_at_call 18; refine (q1 _).mono ?_; rintro e w1 ⟨rfl, hb⟩; have hsz := hb.size; (try simp at hsz); (first | (have hbl := blater2 HA (by first | exact Nat.le_refl _ | (simp; done) | (simp; omega)) hb; obtain ⟨hcc, hff, HA, hne, hne'⟩ := hbl) | (obtain ⟨hcc, hff, HA, hne, hne'⟩ := blater1 hb)); (try simp only [World.size_alloc, World.size_setCell] at HA)))))
  all_goals go_light
  all_goals (try simp only [beq_iff_eq, beq_eq_false_iff_ne, bne_iff_ne, bne_eq_false_iff_eq, ne_eq] at *)
  all_goals
    refine bodyPost_ret (v := .bool true) (by simp [results, Try.results27, go_sem, *]) rfl ⟨rfl, ?_⟩
    repeat' (first | exact Below.refl _ _ | refine Below.drew ?_ | refine below_drewN ?_ _ | refine Below.alloc ?_ (by first | omega | (simp <;> omega)) _ | refine Below.setCell ?_ (by first | omega | (simp <;> omega)) _ | refine Below.trans ?_ (Below.mono (by assumption) (by first | omega | (simp <;> omega))))

set_option maxHeartbeats 2000000 in
theorem found_2 (w : World) :
    Calls Try.prog 27 #[.int .i64 9, .int .i64 13, .int .i64 9, .agg #[.int .i64 0, .int .i64 0, .int .i64 0], .agg #[.int .i64 5, .int .i64 4, .int .i64 8, .int .i64 13]] w fun e' w' => e' = .returned (.bool true) ∧ Below w.heap.size w w' := by
  have h : Rat ⟨#[97, 98, 99, 100, 97, 98, 99, 100, 101, 97, 98, 99, 100]⟩ 9 13 10 9 0 0 0 1 = ((5, 4, 8, 13), true, 0) := by decide +kernel
  have q1 := fun w => mat_p ⟨#[97, 98, 99, 100, 97, 98, 99, 100, 101, 97, 98, 99, 100]⟩ 9 13 10 9 0 0 0 1 w (by decide)
  rw [h] at q1
  dsimp only at q1
  clear h
  go_enter Try.func27, Try.ntmps27
  go_wp2_with ((go_at_call 18; refine (q1 _).mono ?_; rintro e w1 ⟨rfl, hb⟩; have hsz := hb.size; (try simp at hsz); (first | (have hbl := blater2 HA (by first | exact Nat.le_refl _ | (simp; done) | (simp; omega)) hb; obtain ⟨hcc, hff, HA, hne, hne'⟩ := hbl) | (obtain ⟨hcc, hff, HA, hne, hne'⟩ := blater1 hb)); (try simp only [World.size_alloc, World.size_setCell] at HA)))
  repeat' (first | (go_region <;> go_wp2_with ((go_at_call 18; refine (q1 _).mono ?_; rintro e w1 ⟨rfl, hb⟩; have hsz := hb.size; (try simp at hsz); (first | (have hbl := blater2 HA (by first | exact Nat.le_refl _ | (simp; done) | (simp; omega)) hb; obtain ⟨hcc, hff, HA, hne, hne'⟩ := hbl) | (obtain ⟨hcc, hff, HA, hne, hne'⟩ := blater1 hb)); (try simp only [World.size_alloc, World.size_setCell] at HA)))))
  all_goals go_light
  all_goals (try simp only [beq_iff_eq, beq_eq_false_iff_ne, bne_iff_ne, bne_eq_false_iff_eq, ne_eq] at *)
  all_goals
    refine bodyPost_ret (v := .bool true) (by simp [results, Try.results27, go_sem, *]) rfl ⟨rfl, ?_⟩
    repeat' (first | exact Below.refl _ _ | refine Below.drew ?_ | refine below_drewN ?_ _ | refine Below.alloc ?_ (by first | omega | (simp <;> omega)) _ | refine Below.setCell ?_ (by first | omega | (simp <;> omega)) _ | refine Below.trans ?_ (Below.mono (by assumption) (by first | omega | (simp <;> omega))))

set_option maxHeartbeats 2000000 in
theorem found_3 (w : World) :
    Calls Try.prog 27 #[.int .i64 9, .int .i64 13, .int .i64 9, .agg #[.int .i64 9, .int .i64 0, .int .i64 0], .agg #[.int .i64 9, .int .i64 4, .int .i64 1, .int .i64 16]] w fun e' w' => e' = .returned (.bool true) ∧ Below w.heap.size w w' := by
  have h : Rat ⟨#[97, 98, 99, 100, 97, 98, 99, 100, 101, 97, 98, 99, 100]⟩ 9 13 10 9 9 0 0 1 = ((9, 4, 1, 16), true, 0) := by decide +kernel
  have q1 := fun w => mat_p ⟨#[97, 98, 99, 100, 97, 98, 99, 100, 101, 97, 98, 99, 100]⟩ 9 13 10 9 9 0 0 1 w (by decide)
  rw [h] at q1
  dsimp only at q1
  clear h
  go_enter Try.func27, Try.ntmps27
  go_wp2_with ((go_at_call 18; refine (q1 _).mono ?_; rintro e w1 ⟨rfl, hb⟩; have hsz := hb.size; (try simp at hsz); (first | (have hbl := blater2 HA (by first | exact Nat.le_refl _ | (simp; done) | (simp; omega)) hb; obtain ⟨hcc, hff, HA, hne, hne'⟩ := hbl) | (obtain ⟨hcc, hff, HA, hne, hne'⟩ := blater1 hb)); (try simp only [World.size_alloc, World.size_setCell] at HA)))
  repeat' (first | (go_region <;> go_wp2_with ((go_at_call 18; refine (q1 _).mono ?_; rintro e w1 ⟨rfl, hb⟩; have hsz := hb.size; (try simp at hsz); (first | (have hbl := blater2 HA (by first | exact Nat.le_refl _ | (simp; done) | (simp; omega)) hb; obtain ⟨hcc, hff, HA, hne, hne'⟩ := hbl) | (obtain ⟨hcc, hff, HA, hne, hne'⟩ := blater1 hb)); (try simp only [World.size_alloc, World.size_setCell] at HA)))))
  all_goals go_light
  all_goals (try simp only [beq_iff_eq, beq_eq_false_iff_ne, bne_iff_ne, bne_eq_false_iff_eq, ne_eq] at *)
  all_goals
    refine bodyPost_ret (v := .bool true) (by simp [results, Try.results27, go_sem, *]) rfl ⟨rfl, ?_⟩
    repeat' (first | exact Below.refl _ _ | refine Below.drew ?_ | refine below_drewN ?_ _ | refine Below.alloc ?_ (by first | omega | (simp <;> omega)) _ | refine Below.setCell ?_ (by first | omega | (simp <;> omega)) _ | refine Below.trans ?_ (Below.mono (by assumption) (by first | omega | (simp <;> omega))))

set_option maxHeartbeats 2000000 in
theorem found_4 (w : World) :
    Calls Try.prog 27 #[.int .i64 10, .int .i64 13, .int .i64 9, .agg #[.int .i64 0, .int .i64 0, .int .i64 0], .agg #[.int .i64 0, .int .i64 0, .int .i64 0, .int .i64 0]] w fun e' w' => e' = .returned (.bool true) ∧ Below w.heap.size w w' := by
  have h : Rat ⟨#[97, 98, 99, 100, 97, 98, 99, 100, 101, 97, 98, 99, 100]⟩ 10 13 10 9 0 0 0 1 = ((0, 0, 0, 0), false, 0) := by decide +kernel
  have q1 := fun w => mat_p ⟨#[97, 98, 99, 100, 97, 98, 99, 100, 101, 97, 98, 99, 100]⟩ 10 13 10 9 0 0 0 1 w (by decide)
  rw [h] at q1
  dsimp only at q1
  clear h
  go_enter Try.func27, Try.ntmps27
  go_wp2_with ((go_at_call 18; refine (q1 _).mono ?_; rintro e w1 ⟨rfl, hb⟩; have hsz := hb.size; (try simp at hsz); (first | (have hbl := blater2 HA (by first | exact Nat.le_refl _ | (simp; done) | (simp; omega)) hb; obtain ⟨hcc, hff, HA, hne, hne'⟩ := hbl) | (obtain ⟨hcc, hff, HA, hne, hne'⟩ := blater1 hb)); (try simp only [World.size_alloc, World.size_setCell] at HA)))
  repeat' (first | (go_region <;> go_wp2_with ((go_at_call 18; refine (q1 _).mono ?_; rintro e w1 ⟨rfl, hb⟩; have hsz := hb.size; (try simp at hsz); (first | (have hbl := blater2 HA (by first | exact Nat.le_refl _ | (simp; done) | (simp; omega)) hb; obtain ⟨hcc, hff, HA, hne, hne'⟩ := hbl) | (obtain ⟨hcc, hff, HA, hne, hne'⟩ := blater1 hb)); (try simp only [World.size_alloc, World.size_setCell] at HA)))))
  all_goals go_light
  all_goals (try simp only [beq_iff_eq, beq_eq_false_iff_ne, bne_iff_ne, bne_eq_false_iff_eq, ne_eq] at *)
  all_goals
    refine bodyPost_ret (v := .bool true) (by simp [results, Try.results27, go_sem, *]) rfl ⟨rfl, ?_⟩
    repeat' (first | exact Below.refl _ _ | refine Below.drew ?_ | refine below_drewN ?_ _ | refine Below.alloc ?_ (by first | omega | (simp <;> omega)) _ | refine Below.setCell ?_ (by first | omega | (simp <;> omega)) _ | refine Below.trans ?_ (Below.mono (by assumption) (by first | omega | (simp <;> omega))))

set_option maxHeartbeats 2000000 in
theorem found_5 (w : World) :
    Calls Try.prog 27 #[.int .i64 0, .int .i64 13, .int .i64 9, .agg #[.int .i64 0, .int .i64 0, .int .i64 0], .agg #[.int .i64 0, .int .i64 0, .int .i64 0, .int .i64 0]] w fun e' w' => e' = .returned (.bool true) ∧ Below w.heap.size w w' := by
  have h : Rat ⟨#[97, 98, 99, 100, 97, 98, 99, 100, 101, 97, 98, 99, 100]⟩ 0 13 10 9 0 0 0 1 = ((0, 0, 0, 0), false, 0) := by decide +kernel
  have q1 := fun w => mat_p ⟨#[97, 98, 99, 100, 97, 98, 99, 100, 101, 97, 98, 99, 100]⟩ 0 13 10 9 0 0 0 1 w (by decide)
  rw [h] at q1
  dsimp only at q1
  clear h
  go_enter Try.func27, Try.ntmps27
  go_wp2_with ((go_at_call 18; refine (q1 _).mono ?_; rintro e w1 ⟨rfl, hb⟩; have hsz := hb.size; (try simp at hsz); (first | (have hbl := blater2 HA (by first | exact Nat.le_refl _ | (simp; done) | (simp; omega)) hb; obtain ⟨hcc, hff, HA, hne, hne'⟩ := hbl) | (obtain ⟨hcc, hff, HA, hne, hne'⟩ := blater1 hb)); (try simp only [World.size_alloc, World.size_setCell] at HA)))
  repeat' (first | (go_region <;> go_wp2_with ((go_at_call 18; refine (q1 _).mono ?_; rintro e w1 ⟨rfl, hb⟩; have hsz := hb.size; (try simp at hsz); (first | (have hbl := blater2 HA (by first | exact Nat.le_refl _ | (simp; done) | (simp; omega)) hb; obtain ⟨hcc, hff, HA, hne, hne'⟩ := hbl) | (obtain ⟨hcc, hff, HA, hne, hne'⟩ := blater1 hb)); (try simp only [World.size_alloc, World.size_setCell] at HA)))))
  all_goals go_light
  all_goals (try simp only [beq_iff_eq, beq_eq_false_iff_ne, bne_iff_ne, bne_eq_false_iff_eq, ne_eq] at *)
  all_goals
    refine bodyPost_ret (v := .bool true) (by simp [results, Try.results27, go_sem, *]) rfl ⟨rfl, ?_⟩
    repeat' (first | exact Below.refl _ _ | refine Below.drew ?_ | refine below_drewN ?_ _ | refine Below.alloc ?_ (by first | omega | (simp <;> omega)) _ | refine Below.setCell ?_ (by first | omega | (simp <;> omega)) _ | refine Below.trans ?_ (Below.mono (by assumption) (by first | omega | (simp <;> omega))))

set_option maxHeartbeats 2000000 in
theorem found_6 (w : World) :
    Calls Try.prog 27 #[.int .i64 4, .int .i64 7, .int .i64 9, .agg #[.int .i64 0, .int .i64 0, .int .i64 0], .agg #[.int .i64 0, .int .i64 0, .int .i64 0, .int .i64 0]] w fun e' w' => e' = .returned (.bool true) ∧ Below w.heap.size w w' := by
  have h : Rat ⟨#[97, 98, 99, 100, 97, 98, 99, 100, 101, 97, 98, 99, 100]⟩ 4 7 10 9 0 0 0 1 = ((0, 0, 0, 0), false, 0) := by decide +kernel
  have q1 := fun w => mat_p ⟨#[97, 98, 99, 100, 97, 98, 99, 100, 101, 97, 98, 99, 100]⟩ 4 7 10 9 0 0 0 1 w (by decide)
  rw [h] at q1
  dsimp only at q1
  clear h
  go_enter Try.func27, Try.ntmps27
  go_wp2_with ((go_at_call 18; refine (q1 _).mono ?_; rintro e w1 ⟨rfl, hb⟩; have hsz := hb.size; (try simp at hsz); (first | (have hbl := blater2 HA (by first | exact Nat.le_refl _ | (simp; done) | (simp; omega)) hb; obtain ⟨hcc, hff, HA, hne, hne'⟩ := hbl) | (obtain ⟨hcc, hff, HA, hne, hne'⟩ := blater1 hb)); (try simp only [World.size_alloc, World.size_setCell] at HA)))
  repeat' (first | (go_region <;> go_wp2_with ((go_at_call 18; refine (q1 _).mono ?_; rintro e w1 ⟨rfl, hb⟩; have hsz := hb.size; (try simp at hsz); (first | (have hbl := blater2 HA (by first | exact Nat.le_refl _ | (simp; done) | (simp; omega)) hb; obtain ⟨hcc, hff, HA, hne, hne'⟩ := hbl) | (obtain ⟨hcc, hff, HA, hne, hne'⟩ := blater1 hb)); (try simp only [World.size_alloc, World.size_setCell] at HA)))))
  all_goals go_light
  all_goals (try simp only [beq_iff_eq, beq_eq_false_iff_ne, bne_iff_ne, bne_eq_false_iff_eq, ne_eq] at *)
  all_goals
    refine bodyPost_ret (v := .bool true) (by simp [results, Try.results27, go_sem, *]) rfl ⟨rfl, ?_⟩
    repeat' (first | exact Below.refl _ _ | refine Below.drew ?_ | refine below_drewN ?_ _ | refine Below.alloc ?_ (by first | omega | (simp <;> omega)) _ | refine Below.setCell ?_ (by first | omega | (simp <;> omega)) _ | refine Below.trans ?_ (Below.mono (by assumption) (by first | omega | (simp <;> omega))))

theorem kn_gain (w : World) : Calls Try.prog 28 #[.int .i64 4, .int .i64 7] w fun e w' => e = .returned (.tuple #[.int .i64 14, .int .i64 0]) ∧ w' = w := by
  have e : Rgain 4 7 = (14, 0) := by decide +kernel
  have := gain_p 4 7 w
  rw [e] at this
  exact this
theorem mawake_t (w : World) : Calls Try.prog 15 #[] w fun e w' => e = .returned (.bool true) ∧ Below w.heap.size w w' := by
  go_enter Try.func15, Try.ntmps15
  go_wp2_with (first | (go_at_call 28; refine (kn_gain _).mono ?_; rintro e w' ⟨rfl, rfl⟩) | (go_at_call 27; refine (found_1 _).mono ?_; rintro e w1 ⟨rfl, hb⟩; have hsz := hb.size; (try simp at hsz)))
  repeat' (first | (go_region <;> go_wp2_with (first | (go_at_call 28; refine (kn_gain _).mono ?_; rintro e w' ⟨rfl, rfl⟩) | (go_at_call 27; refine (found_1 _).mono ?_; rintro e w1 ⟨rfl, hb⟩; have hsz := hb.size; (try simp at hsz)))))
  all_goals go_light
  all_goals (try simp only [beq_iff_eq, beq_eq_false_iff_ne, bne_iff_ne, bne_eq_false_iff_eq, ne_eq] at *)
  all_goals
    refine bodyPost_ret (v := .bool true) (by simp [results, Try.results15, go_sem, *]) rfl ⟨rfl, ?_⟩
    repeat' (first | exact Below.refl _ _ | refine Below.drew ?_ | refine below_drewN ?_ _ | refine Below.alloc ?_ (by first | omega | (simp <;> omega)) _ | refine Below.setCell ?_ (by first | omega | (simp <;> omega)) _ | refine Below.trans ?_ (Below.mono (by assumption) (by first | omega | (simp <;> omega))))

set_option maxRecDepth 100000 in
set_option maxHeartbeats 4000000 in
theorem matchFinds_t (s : ByteArray) (p e l d a b c li : Int) (w : World) (hl : s.size ≤ 9223372036854775807) :
    Calls Try.prog 3 #[.agg #[.string s, .int .i64 p, .int .i64 e, .int .i64 l, .int .i64 d, .int .i64 a, .int .i64 b, .int .i64 c, .int .i64 li]] w fun e' w' => e' = .returned (.bool true) ∧ Below w.heap.size w w' := by
  by_cases g1 : (400 : Int) < (s.size : Int)
  · skip
    go_enter Try.func3, Try.ntmps3
    go_wp2_with ((go_at_call 15; refine (mawake_t _).mono ?_; rintro e w1 ⟨rfl, hb⟩; have hsz := hb.size; (try simp at hsz)))
    repeat' (first | (go_region <;> go_wp2_with ((go_at_call 15; refine (mawake_t _).mono ?_; rintro e w1 ⟨rfl, hb⟩; have hsz := hb.size; (try simp at hsz)))))
    all_goals go_light
    all_goals (try simp only [beq_iff_eq, beq_eq_false_iff_ne, bne_iff_ne, bne_eq_false_iff_eq, ne_eq] at *)
    all_goals
      refine bodyPost_ret (v := .bool true) (by simp [results, Try.results3, go_sem, *]) rfl ⟨rfl, ?_⟩
      repeat' (first | exact Below.refl _ _ | refine Below.drew ?_ | refine below_drewN ?_ _ | refine Below.alloc ?_ (by first | omega | (simp <;> omega)) _ | refine Below.setCell ?_ (by first | omega | (simp <;> omega)) _ | refine Below.trans ?_ (Below.mono (by assumption) (by first | omega | (simp <;> omega))))
  · have q1 := fun w => mall_p s p e l d a b c li w hl
    have q2 := fun w => rall_p s p e l d a b c li w hl
    have q3 := fun w => mat_p s p e l d a b c li w hl
    have q4 := fun w => rat_p s p e l d a b c li w hl
    have hml := rall_len s p e l d a b c li
    generalize Rall s p e l d a b c li = R at q1 q2 hml
    generalize Rat s p e l d a b c li = V at q3 q4
    obtain ⟨ms, er⟩ := R
    obtain ⟨⟨x, y, z, u⟩, fb, ef⟩ := V
    dsimp only at q1 q2 q3 q4 hml
    replace hml : ms.length ≤ 9223372036854775807 := by omega
    go_enter Try.func3, Try.ntmps3
    go_wp2_with (first | (go_at_call 15; refine (mawake_t _).mono ?_; rintro e w1 ⟨rfl, hb⟩; have hsz := hb.size; (try simp at hsz)) | (go_at_call 16; refine (q1 _).mono ?_; rintro e w1 ⟨pa, ca, hca, rfl, hoa, hrA, hb⟩; have hsz := hb.size; (try simp at hsz); (first | (have hbl := blater2 HA (by first | exact Nat.le_refl _ | (simp; done) | (simp; omega)) hb; obtain ⟨hcc, hff, HA, hne, hne'⟩ := hbl) | (obtain ⟨hcc, hff, HA, hne, hne'⟩ := blater1 hb)); (try simp only [World.size_alloc, World.size_setCell] at HA)) | (go_at_call 17; refine (q2 _).mono ?_; rintro e w1 ⟨pb, cb, hcb, rfl, hob, hrB, hb⟩; have hsz := hb.size; (try simp at hsz); (first | (have hbl := blater2 HA (by first | exact Nat.le_refl _ | (simp; done) | (simp; omega)) hb; obtain ⟨hcc, hff, HA, hne, hne'⟩ := hbl) | (obtain ⟨hcc, hff, HA, hne, hne'⟩ := blater1 hb)); (try simp only [World.size_alloc, World.size_setCell] at HA); (try (replace hrA := RowM.later (w' := w1) hrA (by repeat' (first | exact Below.refl _ _ | refine Below.drew ?_ | refine below_drewN ?_ _ | refine Below.alloc ?_ (by first | omega | (simp <;> omega)) _ | refine Below.setCell ?_ (by first | omega | (simp <;> omega)) _ | refine Below.trans ?_ (Below.mono (by assumption) (by first | omega | (simp <;> omega)))))))) | (go_at_call 18; refine (q3 _).mono ?_; rintro e w1 ⟨rfl, hb⟩; have hsz := hb.size; (try simp at hsz); (first | (have hbl := blater2 HA (by first | exact Nat.le_refl _ | (simp; done) | (simp; omega)) hb; obtain ⟨hcc, hff, HA, hne, hne'⟩ := hbl) | (obtain ⟨hcc, hff, HA, hne, hne'⟩ := blater1 hb)); (try simp only [World.size_alloc, World.size_setCell] at HA); (try (replace hrA := RowM.later (w' := w1) hrA (by repeat' (first | exact Below.refl _ _ | refine Below.drew ?_ | refine below_drewN ?_ _ | refine Below.alloc ?_ (by first | omega | (simp <;> omega)) _ | refine Below.setCell ?_ (by first | omega | (simp <;> omega)) _ | refine Below.trans ?_ (Below.mono (by assumption) (by first | omega | (simp <;> omega))))))); (try (replace hrB := RowM.later (w' := w1) hrB (by repeat' (first | exact Below.refl _ _ | refine Below.drew ?_ | refine below_drewN ?_ _ | refine Below.alloc ?_ (by first | omega | (simp <;> omega)) _ | refine Below.setCell ?_ (by first | omega | (simp <;> omega)) _ | refine Below.trans ?_ (Below.mono (by assumption) (by first | omega | (simp <;> omega)))))))) | (go_at_call 19; refine (q4 _).mono ?_; rintro e w1 ⟨rfl, hb⟩; have hsz := hb.size; (try simp at hsz); (first | (have hbl := blater2 HA (by first | exact Nat.le_refl _ | (simp; done) | (simp; omega)) hb; obtain ⟨hcc, hff, HA, hne, hne'⟩ := hbl) | (obtain ⟨hcc, hff, HA, hne, hne'⟩ := blater1 hb)); (try simp only [World.size_alloc, World.size_setCell] at HA); (try (replace hrA := RowM.later (w' := w1) hrA (by repeat' (first | exact Below.refl _ _ | refine Below.drew ?_ | refine below_drewN ?_ _ | refine Below.alloc ?_ (by first | omega | (simp <;> omega)) _ | refine Below.setCell ?_ (by first | omega | (simp <;> omega)) _ | refine Below.trans ?_ (Below.mono (by assumption) (by first | omega | (simp <;> omega))))))); (try (replace hrB := RowM.later (w' := w1) hrB (by repeat' (first | exact Below.refl _ _ | refine Below.drew ?_ | refine below_drewN ?_ _ | refine Below.alloc ?_ (by first | omega | (simp <;> omega)) _ | refine Below.setCell ?_ (by first | omega | (simp <;> omega)) _ | refine Below.trans ?_ (Below.mono (by assumption) (by first | omega | (simp <;> omega)))))))) | (go_at_call 20; refine (sameM_k _ _ ms _ _ _ _ rfl (hrA.later (by repeat' (first | exact Below.refl _ _ | refine Below.drew ?_ | refine below_drewN ?_ _ | refine Below.alloc ?_ (by first | omega | (simp <;> omega)) _ | refine Below.setCell ?_ (by first | omega | (simp <;> omega)) _ | refine Below.trans ?_ (Below.mono (by assumption) (by first | omega | (simp <;> omega)))))) (hrB.later (by repeat' (first | exact Below.refl _ _ | refine Below.drew ?_ | refine below_drewN ?_ _ | refine Below.alloc ?_ (by first | omega | (simp <;> omega)) _ | refine Below.setCell ?_ (by first | omega | (simp <;> omega)) _ | refine Below.trans ?_ (Below.mono (by assumption) (by first | omega | (simp <;> omega)))))) hml).mono ?_; rintro e w1 ⟨rfl, hb⟩; have hsz := hb.size; (try simp at hsz); (first | (have hbl := blater2 HA (by first | exact Nat.le_refl _ | (simp; done) | (simp; omega)) hb; obtain ⟨hcc, hff, HA, hne, hne'⟩ := hbl) | (obtain ⟨hcc, hff, HA, hne, hne'⟩ := blater1 hb)); (try simp only [World.size_alloc, World.size_setCell] at HA)))
    repeat' (first | (go_region <;> go_wp2_with (first | (go_at_call 15; refine (mawake_t _).mono ?_; rintro e w1 ⟨rfl, hb⟩; have hsz := hb.size; (try simp at hsz)) | (go_at_call 16; refine (q1 _).mono ?_; rintro e w1 ⟨pa, ca, hca, rfl, hoa, hrA, hb⟩; have hsz := hb.size; (try simp at hsz); (first | (have hbl := blater2 HA (by first | exact Nat.le_refl _ | (simp; done) | (simp; omega)) hb; obtain ⟨hcc, hff, HA, hne, hne'⟩ := hbl) | (obtain ⟨hcc, hff, HA, hne, hne'⟩ := blater1 hb)); (try simp only [World.size_alloc, World.size_setCell] at HA)) | (go_at_call 17; refine (q2 _).mono ?_; rintro e w1 ⟨pb, cb, hcb, rfl, hob, hrB, hb⟩; have hsz := hb.size; (try simp at hsz); (first | (have hbl := blater2 HA (by first | exact Nat.le_refl _ | (simp; done) | (simp; omega)) hb; obtain ⟨hcc, hff, HA, hne, hne'⟩ := hbl) | (obtain ⟨hcc, hff, HA, hne, hne'⟩ := blater1 hb)); (try simp only [World.size_alloc, World.size_setCell] at HA); (try (replace hrA := RowM.later (w' := w1) hrA (by repeat' (first | exact Below.refl _ _ | refine Below.drew ?_ | refine below_drewN ?_ _ | refine Below.alloc ?_ (by first | omega | (simp <;> omega)) _ | refine Below.setCell ?_ (by first | omega | (simp <;> omega)) _ | refine Below.trans ?_ (Below.mono (by assumption) (by first | omega | (simp <;> omega)))))))) | (go_at_call 18; refine (q3 _).mono ?_; rintro e w1 ⟨rfl, hb⟩; have hsz := hb.size; (try simp at hsz); (first | (have hbl := blater2 HA (by first | exact Nat.le_refl _ | (simp; done) | (simp; omega)) hb; obtain ⟨hcc, hff, HA, hne, hne'⟩ := hbl) | (obtain ⟨hcc, hff, HA, hne, hne'⟩ := blater1 hb)); (try simp only [World.size_alloc, World.size_setCell] at HA); (try (replace hrA := RowM.later (w' := w1) hrA (by repeat' (first | exact Below.refl _ _ | refine Below.drew ?_ | refine below_drewN ?_ _ | refine Below.alloc ?_ (by first | omega | (simp <;> omega)) _ | refine Below.setCell ?_ (by first | omega | (simp <;> omega)) _ | refine Below.trans ?_ (Below.mono (by assumption) (by first | omega | (simp <;> omega))))))); (try (replace hrB := RowM.later (w' := w1) hrB (by repeat' (first | exact Below.refl _ _ | refine Below.drew ?_ | refine below_drewN ?_ _ | refine Below.alloc ?_ (by first | omega | (simp <;> omega)) _ | refine Below.setCell ?_ (by first | omega | (simp <;> omega)) _ | refine Below.trans ?_ (Below.mono (by assumption) (by first | omega | (simp <;> omega)))))))) | (go_at_call 19; refine (q4 _).mono ?_; rintro e w1 ⟨rfl, hb⟩; have hsz := hb.size; (try simp at hsz); (first | (have hbl := blater2 HA (by first | exact Nat.le_refl _ | (simp; done) | (simp; omega)) hb; obtain ⟨hcc, hff, HA, hne, hne'⟩ := hbl) | (obtain ⟨hcc, hff, HA, hne, hne'⟩ := blater1 hb)); (try simp only [World.size_alloc, World.size_setCell] at HA); (try (replace hrA := RowM.later (w' := w1) hrA (by repeat' (first | exact Below.refl _ _ | refine Below.drew ?_ | refine below_drewN ?_ _ | refine Below.alloc ?_ (by first | omega | (simp <;> omega)) _ | refine Below.setCell ?_ (by first | omega | (simp <;> omega)) _ | refine Below.trans ?_ (Below.mono (by assumption) (by first | omega | (simp <;> omega))))))); (try (replace hrB := RowM.later (w' := w1) hrB (by repeat' (first | exact Below.refl _ _ | refine Below.drew ?_ | refine below_drewN ?_ _ | refine Below.alloc ?_ (by first | omega | (simp <;> omega)) _ | refine Below.setCell ?_ (by first | omega | (simp <;> omega)) _ | refine Below.trans ?_ (Below.mono (by assumption) (by first | omega | (simp <;> omega)))))))) | (go_at_call 20; refine (sameM_k _ _ ms _ _ _ _ rfl (hrA.later (by repeat' (first | exact Below.refl _ _ | refine Below.drew ?_ | refine below_drewN ?_ _ | refine Below.alloc ?_ (by first | omega | (simp <;> omega)) _ | refine Below.setCell ?_ (by first | omega | (simp <;> omega)) _ | refine Below.trans ?_ (Below.mono (by assumption) (by first | omega | (simp <;> omega)))))) (hrB.later (by repeat' (first | exact Below.refl _ _ | refine Below.drew ?_ | refine below_drewN ?_ _ | refine Below.alloc ?_ (by first | omega | (simp <;> omega)) _ | refine Below.setCell ?_ (by first | omega | (simp <;> omega)) _ | refine Below.trans ?_ (Below.mono (by assumption) (by first | omega | (simp <;> omega)))))) hml).mono ?_; rintro e w1 ⟨rfl, hb⟩; have hsz := hb.size; (try simp at hsz); (first | (have hbl := blater2 HA (by first | exact Nat.le_refl _ | (simp; done) | (simp; omega)) hb; obtain ⟨hcc, hff, HA, hne, hne'⟩ := hbl) | (obtain ⟨hcc, hff, HA, hne, hne'⟩ := blater1 hb)); (try simp only [World.size_alloc, World.size_setCell] at HA)))))
    all_goals go_light
    all_goals (try simp only [beq_iff_eq, beq_eq_false_iff_ne, bne_iff_ne, bne_eq_false_iff_eq, ne_eq] at *)
    all_goals
      refine bodyPost_ret (v := .bool true) (by simp [results, Try.results3, go_sem, *]) rfl ⟨rfl, ?_⟩
      repeat' (first | exact Below.refl _ _ | refine Below.drew ?_ | refine below_drewN ?_ _ | refine Below.alloc ?_ (by first | omega | (simp <;> omega)) _ | refine Below.setCell ?_ (by first | omega | (simp <;> omega)) _ | refine Below.trans ?_ (Below.mono (by assumption) (by first | omega | (simp <;> omega))))
end Go.Proofs.Ytammacofhdbgcaa
