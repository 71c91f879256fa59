/-
  Numbers modulo a number, and histories made of numbers, walked.
-/
import Derived.Test.YtammacofhdbgcaaRows
import Derived.Test.YtammacofhdbgcaaRepsPlain2
import Derived.Test.YtammacofhdbgcaaRepsSmall
import Derived.Test.YtammacofhdbgcaaCommon
import Derived.Deep.Light
namespace Go.Proofs.Ytammacofhdbgcaa
open Go.RowKit
set_option linter.unusedSimpArgs false
set_option linter.unusedVariables false
attribute [local go_sem] eq23 idx23_0 idx23_1 idx23_2 tup

theorem mod_k (a b : Int) (hb : 1 ≤ b) (hb2 : b ≤ 4611686018427387904) (w : World) :
    Calls Try.prog 22 #[.int .i64 a, .int .i64 b] w fun e w' => e = .returned (.int .i64 (a % b)) ∧ Below w.heap.size w w' := by
  have h1 := Int.lt_tmod_of_pos a (b := b) (by omega)
  have h2 := Int.tmod_lt_of_pos a (b := b) (by omega)
  go_enter Try.func22, Try.ntmps22
  go_wp2
  all_goals go_ret
  · rw [← tmod_neg (by omega) (by assumption)]
    exact ⟨rfl, Below.refl _ _⟩
  · rw [← tmod_pos (by omega) (by assumption)]
    exact ⟨rfl, Below.refl _ _⟩
set_option maxHeartbeats 1000000 in
theorem reps_k (n : Int) (w : World) :
    Calls Try.prog 61 #[.int .i64 n] w fun e w' => e = .returned (.agg #[.int .i64 (kR (n % 1073741824) 0), .int .i64 (kR (n % 1073741824) 1), .int .i64 (kR (n % 1073741824) 2)]) ∧ Below w.heap.size w w' := by
  have k0 := Int.emod_nonneg n (b := 1073741824) (by omega)
  have k1 := Int.emod_lt_of_pos n (b := 1073741824) (by omega)
  obtain ⟨k, hk⟩ : ∃ k, n % 1073741824 = k := ⟨_, rfl⟩
  rw [hk] at k0 k1
  go_enter Try.func61, Try.ntmps61
  go_wp2_with ((go_at_call 22; refine (mod_k _ _ (by omega) (by omega) _).mono ?_; rintro e w1 ⟨rfl, hb⟩; have hsz := hb.size; (try simp at hsz); (first | (have hbl := blater2 HA (by first | exact Nat.le_refl _ | (simp; done) | (simp; omega)) hb; obtain ⟨hcc, hff, HA, hne, hne'⟩ := hbl) | (obtain ⟨hcc, hff, HA, hne, hne'⟩ := blater1 hb)); (try simp only [World.size_alloc, World.size_setCell] at HA)))
  repeat' (first | (go_region <;> go_wp2_with ((go_at_call 22; refine (mod_k _ _ (by omega) (by omega) _).mono ?_; rintro e w1 ⟨rfl, hb⟩; have hsz := hb.size; (try simp at hsz); (first | (have hbl := blater2 HA (by first | exact Nat.le_refl _ | (simp; done) | (simp; omega)) hb; obtain ⟨hcc, hff, HA, hne, hne'⟩ := hbl) | (obtain ⟨hcc, hff, HA, hne, hne'⟩ := blater1 hb)); (try simp only [World.size_alloc, World.size_setCell] at HA)))) | (refine wp_loop_rounds 4 ?_; rw [rounds_succ]; go_wp2_with ((go_at_call 22; refine (mod_k _ _ (by omega) (by omega) _).mono ?_; rintro e w1 ⟨rfl, hb⟩; have hsz := hb.size; (try simp at hsz); (first | (have hbl := blater2 HA (by first | exact Nat.le_refl _ | (simp; done) | (simp; omega)) hb; obtain ⟨hcc, hff, HA, hne, hne'⟩ := hbl) | (obtain ⟨hcc, hff, HA, hne, hne'⟩ := blater1 hb)); (try simp only [World.size_alloc, World.size_setCell] at HA)))) | (rw [rounds_succ]; go_wp2_with ((go_at_call 22; refine (mod_k _ _ (by omega) (by omega) _).mono ?_; rintro e w1 ⟨rfl, hb⟩; have hsz := hb.size; (try simp at hsz); (first | (have hbl := blater2 HA (by first | exact Nat.le_refl _ | (simp; done) | (simp; omega)) hb; obtain ⟨hcc, hff, HA, hne, hne'⟩ := hbl) | (obtain ⟨hcc, hff, HA, hne, hne'⟩ := blater1 hb)); (try simp only [World.size_alloc, World.size_setCell] at HA)))))
  all_goals go_light
  all_goals
    refine bodyPost_ret (v := .agg #[.int .i64 (kR k 0), .int .i64 (kR k 1), .int .i64 (kR k 2)]) (by simp [results, Try.results61, go_sem, *]; unfold kR; simp only [Int.mul_zero, Int.add_zero, Int.mul_one, Int.reduceMul, Int.reduceAdd]; (repeat' (first | apply And.intro | split)) <;> first | rfl | omega) rfl ⟨rfl, ?_⟩
    repeat' (first | exact Below.refl _ _ | refine Below.drew ?_ | refine below_drewN ?_ _ | refine Below.alloc ?_ (by first | omega | (simp <;> omega)) _ | refine Below.setCell ?_ (by first | omega | (simp <;> omega)) _ | refine Below.trans ?_ (Below.mono (by assumption) (by first | omega | (simp <;> omega))))
end Go.Proofs.Ytammacofhdbgcaa
