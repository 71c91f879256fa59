/-
  MatchKnown, walked.
-/
import Derived.Test.YtammacofhdbgcaaRows
import Derived.Test.YtammacofhdbgcaaMatchLaw
import Derived.Test.YtammacofhdbgcaaCommon
import Derived.Deep.Light
import Derived.Shelf.Abstract
import Derived.Shelf.RegionOpen
import Derived.OwnWalkIn
import Derived.TacticsInMore
import Derived.LoopNIn
import Derived.LoopIn
import Derived.Outline
namespace Go.Proofs.Ytammacofhdbgcaa
open Go.RowKit
set_option linter.unusedSimpArgs false
set_option linter.unusedVariables false
open Go.Shelf
attribute [local go_sem] eq32 Oper.semAt_some
theorem k_chk1 (w : World) : Calls Try.prog 29 #[.string ⟨#[97, 98, 99, 100, 97, 98, 99, 100, 101, 97, 98, 99, 100]⟩, .int .i64 4, .int .i64 13, .int .i64 10, .agg #[.int .i64 4, .int .i64 4, .int .i64 0, .int .i64 0]] w fun e w' => e = .returned (.int .i64 0) ∧ Below w.heap.size w w' := by
  have e : mchk ⟨#[97, 98, 99, 100, 97, 98, 99, 100, 101, 97, 98, 99, 100]⟩ 4 13 10 4 4 = 0 := by decide +kernel
  have := mcheck_p ⟨#[97, 98, 99, 100, 97, 98, 99, 100, 101, 97, 98, 99, 100]⟩ 4 13 10 4 4 0 0 w (by decide)
  rw [e] at this
  exact this
theorem k_chk2 (w : World) : Calls Try.prog 29 #[.string ⟨#[97, 98, 99, 100, 97, 98, 99, 100, 101, 97, 98, 99, 100]⟩, .int .i64 4, .int .i64 13, .int .i64 10, .agg #[.int .i64 4, .int .i64 5, .int .i64 0, .int .i64 0]] w fun e w' => e = .returned (.int .i64 10) ∧ Below w.heap.size w w' := by
  have e : mchk ⟨#[97, 98, 99, 100, 97, 98, 99, 100, 101, 97, 98, 99, 100]⟩ 4 13 10 4 5 = 10 := by decide +kernel
  have := mcheck_p ⟨#[97, 98, 99, 100, 97, 98, 99, 100, 101, 97, 98, 99, 100]⟩ 4 13 10 4 5 0 0 w (by decide)
  rw [e] at this
  exact this
theorem k_chk3 (w : World) : Calls Try.prog 29 #[.string ⟨#[97, 98, 99, 100, 97, 98, 99, 100, 101, 97, 98, 99, 100]⟩, .int .i64 4, .int .i64 13, .int .i64 10, .agg #[.int .i64 5, .int .i64 4, .int .i64 0, .int .i64 0]] w fun e w' => e = .returned (.int .i64 2) ∧ Below w.heap.size w w' := by
  have e : mchk ⟨#[97, 98, 99, 100, 97, 98, 99, 100, 101, 97, 98, 99, 100]⟩ 4 13 10 5 4 = 2 := by decide +kernel
  have := mcheck_p ⟨#[97, 98, 99, 100, 97, 98, 99, 100, 101, 97, 98, 99, 100]⟩ 4 13 10 5 4 0 0 w (by decide)
  rw [e] at this
  exact this
theorem k_gain1 (w : World) : Calls Try.prog 28 #[.int .i64 4, .int .i64 0] w fun e w' => e = .returned (.tuple #[.int .i64 0, .int .i64 2]) ∧ w' = w := by
  have e : Rgain 4 0 = (0, 2) := by decide +kernel
  have := gain_p 4 0 w
  rw [e] at this
  exact this
theorem k_gain2 (w : World) : Calls Try.prog 28 #[.int .i64 (-1), .int .i64 1] w fun e w' => e = .returned (.tuple #[.int .i64 0, .int .i64 2]) ∧ w' = w := by
  have e : Rgain (-1) 1 = (0, 2) := by decide +kernel
  have := gain_p (-1) 1 w
  rw [e] at this
  exact this

theorem k_all (w : World) : Calls Try.prog 16 #[.string ⟨#[97, 98, 99, 100, 97, 98, 99, 100, 101, 97, 98, 99, 100]⟩, .int .i64 9, .int .i64 13, .int .i64 10, .int .i64 9, .agg #[.int .i64 0, .int .i64 0, .int .i64 0], .int .i64 1] w fun e w' => ∃ pb po ca, pb < w'.heap.size ∧ e = .returned (.tuple #[.slice (some ⟨pb, po, none⟩) 2 ca, .int .i64 0]) ∧ w'.cell? ⟨pb, po, none⟩ = some (.int .i64 5) ∧ w'.cell? ⟨pb, po + 1, none⟩ = some (.int .i64 4) ∧ w'.cell? ⟨pb, po + 4, none⟩ = some (.int .i64 9) ∧ w'.cell? ⟨pb, po + 4 + 1, none⟩ = some (.int .i64 4) ∧ Below w.heap.size w w' := by
  have e : Rall ⟨#[97, 98, 99, 100, 97, 98, 99, 100, 101, 97, 98, 99, 100]⟩ 9 13 10 9 0 0 0 1 = ([(5, 4, 8, 13), (9, 4, 12, 13)], 0) := by decide +kernel
  have h := mall_p ⟨#[97, 98, 99, 100, 97, 98, 99, 100, 101, 97, 98, 99, 100]⟩ 9 13 10 9 0 0 0 1 w (by decide)
  rw [e] at h
  refine h.mono ?_
  rintro e w' ⟨pa, ca, hca, rfl, hob, hrA, hb⟩
  obtain ⟨pb, po, rfl, hlt, hc⟩ := hrA.at (i := 0) (by decide)
  obtain ⟨c1, c2, _, _⟩ := hc 0 (by decide)
  obtain ⟨d1, d2, _, _⟩ := hc 1 (by decide)
  exact ⟨pb, po, ca, hlt, rfl, c1, c2, d1, d2, hb⟩
theorem k_at (w : World) : Calls Try.prog 18 #[.string ⟨#[97, 98, 99, 100, 97, 98, 99, 100, 101, 97, 98, 99, 100]⟩, .int .i64 4, .int .i64 13, .int .i64 10, .int .i64 0, .agg #[.int .i64 0, .int .i64 0, .int .i64 0], .int .i64 1] w fun e w' => e = .returned (.tuple #[.agg #[.int .i64 0, .int .i64 0, .int .i64 0, .int .i64 0], .bool false, .int .i64 2]) ∧ Below w.heap.size w w' := by
  have e : Rat ⟨#[97, 98, 99, 100, 97, 98, 99, 100, 101, 97, 98, 99, 100]⟩ 4 13 10 0 0 0 0 1 = ((0, 0, 0, 0), false, 2) := by decide +kernel
  have h := mat_p ⟨#[97, 98, 99, 100, 97, 98, 99, 100, 101, 97, 98, 99, 100]⟩ 4 13 10 0 0 0 0 1 w (by decide)
  rw [e] at h
  exact h
set_option maxRecDepth 100000 in
set_option maxHeartbeats 8000000 in
theorem matchKnown_w (w : World) : Calls Try.prog 6 #[] w fun e w' => e = .returned (.bool true) ∧ Below w.heap.size w w' := by
  go_enter Try.func6, Try.ntmps6
  go_wp2_with (first | (go_at_call 16; refine (k_all _).mono ?_; rintro e w1 ⟨pb, po, ca, hpb, rfl, a1, a2, a3, a4, hb⟩; have hz := hb.size) | (go_at_call 27; (with_reducible refine (found_2 _).mono ?_); rintro e w1 ⟨rfl, hb⟩; have hsz := hb.size; (try simp at hsz)) | (go_at_call 27; (with_reducible refine (found_3 _).mono ?_); rintro e w1 ⟨rfl, hb⟩; have hsz := hb.size; (try simp at hsz)) | (go_at_call 27; (with_reducible refine (found_4 _).mono ?_); rintro e w1 ⟨rfl, hb⟩; have hsz := hb.size; (try simp at hsz)) | (go_at_call 27; (with_reducible refine (found_5 _).mono ?_); rintro e w1 ⟨rfl, hb⟩; have hsz := hb.size; (try simp at hsz)) | (go_at_call 27; (with_reducible refine (found_6 _).mono ?_); rintro e w1 ⟨rfl, hb⟩; have hsz := hb.size; (try simp at hsz)) | (go_at_call 18; refine (k_at _).mono ?_; rintro e w1 ⟨rfl, hb⟩; have hsz := hb.size; (try simp at hsz)) | (go_at_call 28; (with_reducible refine (k_gain1 _).mono ?_); rintro e w' ⟨rfl, rfl⟩) | (go_at_call 28; (with_reducible refine (k_gain2 _).mono ?_); rintro e w' ⟨rfl, rfl⟩) | (go_at_call 29; (with_reducible refine (k_chk1 _).mono ?_); rintro e w1 ⟨rfl, hb⟩; have hsz := hb.size; (try simp at hsz); (first | (have hbl := blater2 HA (by first | exact Nat.le_refl _ | (simp; done) | (simp; omega)) hb; obtain ⟨hcc, hff, HA, hne, hne'⟩ := hbl) | (obtain ⟨hcc, hff, HA, hne, hne'⟩ := blater1 hb)); (try simp only [World.size_alloc, World.size_setCell] at HA)) | (go_at_call 29; (with_reducible refine (k_chk2 _).mono ?_); rintro e w1 ⟨rfl, hb⟩; have hsz := hb.size; (try simp at hsz); (first | (have hbl := blater2 HA (by first | exact Nat.le_refl _ | (simp; done) | (simp; omega)) hb; obtain ⟨hcc, hff, HA, hne, hne'⟩ := hbl) | (obtain ⟨hcc, hff, HA, hne, hne'⟩ := blater1 hb)); (try simp only [World.size_alloc, World.size_setCell] at HA)) | (go_at_call 29; (with_reducible refine (k_chk3 _).mono ?_); rintro e w1 ⟨rfl, hb⟩; have hsz := hb.size; (try simp at hsz); (first | (have hbl := blater2 HA (by first | exact Nat.le_refl _ | (simp; done) | (simp; omega)) hb; obtain ⟨hcc, hff, HA, hne, hne'⟩ := hbl) | (obtain ⟨hcc, hff, HA, hne, hne'⟩ := blater1 hb)); (try simp only [World.size_alloc, World.size_setCell] at HA)) | (go_at_call 15; refine (mawake_t _).mono ?_; rintro e w1 ⟨rfl, hb⟩; have hsz := hb.size; (try simp at hsz)))
  repeat' (first | (go_region <;> go_wp2_with (first | (go_at_call 16; refine (k_all _).mono ?_; rintro e w1 ⟨pb, po, ca, hpb, rfl, a1, a2, a3, a4, hb⟩; have hz := hb.size) | (go_at_call 27; (with_reducible refine (found_2 _).mono ?_); rintro e w1 ⟨rfl, hb⟩; have hsz := hb.size; (try simp at hsz)) | (go_at_call 27; (with_reducible refine (found_3 _).mono ?_); rintro e w1 ⟨rfl, hb⟩; have hsz := hb.size; (try simp at hsz)) | (go_at_call 27; (with_reducible refine (found_4 _).mono ?_); rintro e w1 ⟨rfl, hb⟩; have hsz := hb.size; (try simp at hsz)) | (go_at_call 27; (with_reducible refine (found_5 _).mono ?_); rintro e w1 ⟨rfl, hb⟩; have hsz := hb.size; (try simp at hsz)) | (go_at_call 27; (with_reducible refine (found_6 _).mono ?_); rintro e w1 ⟨rfl, hb⟩; have hsz := hb.size; (try simp at hsz)) | (go_at_call 18; refine (k_at _).mono ?_; rintro e w1 ⟨rfl, hb⟩; have hsz := hb.size; (try simp at hsz)) | (go_at_call 28; (with_reducible refine (k_gain1 _).mono ?_); rintro e w' ⟨rfl, rfl⟩) | (go_at_call 28; (with_reducible refine (k_gain2 _).mono ?_); rintro e w' ⟨rfl, rfl⟩) | (go_at_call 29; (with_reducible refine (k_chk1 _).mono ?_); rintro e w1 ⟨rfl, hb⟩; have hsz := hb.size; (try simp at hsz); (first | (have hbl := blater2 HA (by first | exact Nat.le_refl _ | (simp; done) | (simp; omega)) hb; obtain ⟨hcc, hff, HA, hne, hne'⟩ := hbl) | (obtain ⟨hcc, hff, HA, hne, hne'⟩ := blater1 hb)); (try simp only [World.size_alloc, World.size_setCell] at HA)) | (go_at_call 29; (with_reducible refine (k_chk2 _).mono ?_); rintro e w1 ⟨rfl, hb⟩; have hsz := hb.size; (try simp at hsz); (first | (have hbl := blater2 HA (by first | exact Nat.le_refl _ | (simp; done) | (simp; omega)) hb; obtain ⟨hcc, hff, HA, hne, hne'⟩ := hbl) | (obtain ⟨hcc, hff, HA, hne, hne'⟩ := blater1 hb)); (try simp only [World.size_alloc, World.size_setCell] at HA)) | (go_at_call 29; (with_reducible refine (k_chk3 _).mono ?_); rintro e w1 ⟨rfl, hb⟩; have hsz := hb.size; (try simp at hsz); (first | (have hbl := blater2 HA (by first | exact Nat.le_refl _ | (simp; done) | (simp; omega)) hb; obtain ⟨hcc, hff, HA, hne, hne'⟩ := hbl) | (obtain ⟨hcc, hff, HA, hne, hne'⟩ := blater1 hb)); (try simp only [World.size_alloc, World.size_setCell] at HA)) | (go_at_call 15; refine (mawake_t _).mono ?_; rintro e w1 ⟨rfl, hb⟩; have hsz := hb.size; (try simp at hsz)))))
  all_goals go_light
  all_goals (try simp only [beq_iff_eq, beq_eq_false_iff_ne, bne_iff_ne, bne_eq_false_iff_eq, ne_eq] at *)
  all_goals
    refine bodyPost_ret (v := .bool true) (by simp [results, Try.results6, go_sem, *]) rfl ⟨rfl, ?_⟩
    repeat' (first | exact Below.refl _ _ | refine Below.drew ?_ | refine below_drewN ?_ _ | refine Below.alloc ?_ (by first | omega | (simp <;> omega)) _ | refine Below.setCell ?_ (by first | omega | (simp <;> omega)) _ | refine Below.trans ?_ (Below.mono (by assumption) (by first | omega | (simp <;> omega))))
end Go.Proofs.Ytammacofhdbgcaa
