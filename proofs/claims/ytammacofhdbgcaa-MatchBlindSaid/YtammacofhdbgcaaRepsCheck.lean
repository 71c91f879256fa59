/-
  The functions of package reps, walked: Check, First, the meaning of a value, Distance, Next, Value; each returns what a plain Lean function says and leaves old memory as it was.
-/
import Derived.Test.YtammacofhdbgcaaRows
import Derived.Test.YtammacofhdbgcaaRepsPlain
import Derived.Test.YtammacofhdbgcaaCommon
import Derived.Deep.Light
namespace Go.Proofs.Ytammacofhdbgcaa
open Go.RowKit
set_option linter.unusedSimpArgs false
set_option linter.unusedVariables false

set_option maxRecDepth 100000 in
theorem eq23 (w : World) (a0 a1 a2 b0 b1 b2 : Int) : (Op.equalIn 10000 23 (.agg #[.int .i64 a0, .int .i64 a1, .int .i64 a2]) (.agg #[.int .i64 b0, .int .i64 b1, .int .i64 b2])).run Try.prog w = .ok (a0 == b0 && a1 == b1 && a2 == b2) w :=
  run_equalIn_arr3 w 9998 23 3 .i64 .i64 a0 a1 a2 b0 b1 b2 Try.underlying23 Try.underlying3 rfl
theorem idx23_0 (w : World) (a b c : Int) : (Instr.index 23 (.agg #[.int .i64 a, .int .i64 b, .int .i64 c]) (.int .i64 0)).run Try.prog w = .ok (.int .i64 a) w := by kernel_rfl
theorem idx23_1 (w : World) (a b c : Int) : (Instr.index 23 (.agg #[.int .i64 a, .int .i64 b, .int .i64 c]) (.int .i64 1)).run Try.prog w = .ok (.int .i64 b) w := by kernel_rfl
theorem idx23_2 (w : World) (a b c : Int) : (Instr.index 23 (.agg #[.int .i64 a, .int .i64 b, .int .i64 c]) (.int .i64 2)).run Try.prog w = .ok (.int .i64 c) w := by kernel_rfl
attribute [local go_sem] eq23 idx23_0 idx23_1 idx23_2

theorem first_p (w : World) : Calls Try.prog 81 #[] w fun e w' => e = .returned (.agg #[.int .i64 1, .int .i64 4, .int .i64 8]) ∧ Below w.heap.size w w' := by
  go_enter Try.func81, Try.ntmps81
  go_wp2
  repeat' (first | (go_region <;> go_wp2) | (refine wp_loop_rounds 4 ?_; rw [rounds_succ]; go_wp2) | (rw [rounds_succ]; go_wp2))
  all_goals go_light
  all_goals (try simp only [beq_iff_eq, beq_eq_false_iff_ne, bne_iff_ne, bne_eq_false_iff_eq, ne_eq] at *)
  all_goals
    refine bodyPost_ret (v := .agg #[.int .i64 1, .int .i64 4, .int .i64 8]) (by simp [results, Try.results81, go_sem, *]) rfl ⟨rfl, ?_⟩
    repeat' (first | exact Below.refl _ _ | refine Below.drew ?_ | refine below_drewN ?_ _ | refine Below.alloc ?_ (by first | omega | (simp <;> omega)) _ | refine Below.setCell ?_ (by first | omega | (simp <;> omega)) _ | refine Below.trans ?_ (Below.mono (by assumption) (by first | omega | (simp <;> omega))))

set_option maxHeartbeats 1000000 in
theorem check_p1 (a b c : Int) (w : World) (h : (a == 1 && b == 4 && c == 8) = true) :
    Calls Try.prog 52 #[.agg #[.int .i64 a, .int .i64 b, .int .i64 c]] w fun e w' => e = .returned (.int .i64 0) ∧ Below w.heap.size w w' := by
  go_enter Try.func52, Try.ntmps52
  go_wp2
  repeat' (first | ((first | (refine wp_region_later2 HA (by first | exact Nat.le_refl _ | (simp; done) | (simp; omega)) (by kernel_rfl) (by kernel_rfl) ?_; intro hLC) | (refine wp_region_later1 (by kernel_rfl) (by kernel_rfl) ?_; intro hLC)); (repeat (go_big_quiet_step ((go_at_call 81; exact Calls.later_of (first_p _))))); refine wpQuiet_nil ?_; intro w2 hb2; clear hLC; have hsz := hb2.size; (try simp at hsz); (first | (have hbl := blater2 HA (by first | exact Nat.le_refl _ | (simp; done) | (simp; omega)) hb2; obtain ⟨hcc, hff, HA, hne, hne'⟩ := hbl) | (obtain ⟨hcc, hff, HA, hne, hne'⟩ := blater1 hb2)); (try simp only [World.size_alloc, World.size_setCell] at HA); go_wp2) | (go_region <;> go_wp2))
  go_ret
  exact ⟨rfl, ((Below.refl _ _).alloc (Nat.le_refl _) _).trans (hb2.mono (by simp))⟩

set_option maxHeartbeats 1000000 in
theorem check_p2 (a b c : Int) (w : World) (h : (a == 1 && b == 4 && c == 8) = false) (h' : (a == 0 && b == 0 && c == 0) = true) :
    Calls Try.prog 52 #[.agg #[.int .i64 a, .int .i64 b, .int .i64 c]] w fun e w' => e = .returned (.int .i64 0) ∧ Below w.heap.size w w' := by
  go_enter Try.func52, Try.ntmps52
  go_wp2
  repeat' (first | ((first | (refine wp_region_later2 HA (by first | exact Nat.le_refl _ | (simp; done) | (simp; omega)) (by kernel_rfl) (by kernel_rfl) ?_; intro hLC) | (refine wp_region_later1 (by kernel_rfl) (by kernel_rfl) ?_; intro hLC)); (repeat (go_big_quiet_step ((go_at_call 81; exact Calls.later_of (first_p _))))); refine wpQuiet_nil ?_; intro w2 hb2; clear hLC; have hsz := hb2.size; (try simp at hsz); (first | (have hbl := blater2 HA (by first | exact Nat.le_refl _ | (simp; done) | (simp; omega)) hb2; obtain ⟨hcc, hff, HA, hne, hne'⟩ := hbl) | (obtain ⟨hcc, hff, HA, hne, hne'⟩ := blater1 hb2)); (try simp only [World.size_alloc, World.size_setCell] at HA); go_wp2) | (go_region <;> go_wp2))
  go_ret
  exact ⟨rfl, ((Below.refl _ _).alloc (Nat.le_refl _) _).trans (hb2.mono (by simp))⟩

set_option maxHeartbeats 1000000 in
theorem check_p3 (a b c : Int) (w : World) (h : (a == 1 && b == 4 && c == 8) = false) (h' : (a == 0 && b == 0 && c == 0) = false) :
    Calls Try.prog 52 #[.agg #[.int .i64 a, .int .i64 b, .int .i64 c]] w fun e w' => e = .returned (.int .i64 (chkL true [a, b, c])) ∧ Below w.heap.size w w' := by
  go_enter Try.func52, Try.ntmps52
  go_wp2
  repeat' (first | ((first | (refine wp_region_later2 HA (by first | exact Nat.le_refl _ | (simp; done) | (simp; omega)) (by kernel_rfl) (by kernel_rfl) ?_; intro hLC) | (refine wp_region_later1 (by kernel_rfl) (by kernel_rfl) ?_; intro hLC)); (repeat (go_big_quiet_step ((go_at_call 81; exact Calls.later_of (first_p _))))); refine wpQuiet_nil ?_; intro w2 hb2; clear hLC; have hsz := hb2.size; (try simp at hsz); (first | (have hbl := blater2 HA (by first | exact Nat.le_refl _ | (simp; done) | (simp; omega)) hb2; obtain ⟨hcc, hff, HA, hne, hne'⟩ := hbl) | (obtain ⟨hcc, hff, HA, hne, hne'⟩ := blater1 hb2)); (try simp only [World.size_alloc, World.size_setCell] at HA); go_wp2) | (go_region <;> go_wp2))
  have H2 : Hid (Below w.heap.size w w2) := ((Below.refl _ _).alloc (Nat.le_refl _) _).trans (hb2.mono (by simp))
  clear hb2 hcc hff HA hne hne' hsz h h'
  go_loopw [3, 15] (fun kn i wr => ∃ k : Nat, ∃ q : Bool, k ≤ 3 ∧ i = .int .i64 k ∧ kn = .bool q ∧ chkL q ([a, b, c].drop k) = chkL true [a, b, c] ∧ Below w2.heap.size w2 wr) (fun _ i _ => 3 - (intOf i).toNat)
  case atStart => exact ⟨0, true, by omega, rfl, rfl, rfl, Below.refl _ _⟩
  case round =>
    obtain ⟨k, q, hk, rfl, rfl, hq, hbr⟩ := hrel
    have hk' : k = 0 ∨ k = 1 ∨ k = 2 ∨ k = 3 := by omega
    rcases hk' with rfl | rfl | rfl | rfl
    all_goals
      clear hk
      simp only [List.drop] at hq
      have HQ := Lib.hid hq
      clear hq
    · cases q
      all_goals go_wp2
      · go_ret
        exact ⟨by first | (rw [← HQ.out, chkL_bad _ _ _ (.inr (.inr ⟨by assumption, rfl⟩))] <;> rfl) | (rw [chkL_bad _ _ _ (.inr (.inr ⟨by assumption, rfl⟩))] <;> rfl), H2.out.trans (hbr.mono H2.out.size)⟩
      · go_roundw
        case rel => exact ⟨1, false, by omega, by go_num, rfl, by first | (rw [← HQ.out, chkL_good _ _ _ (by go_light; simp; omega)]; simp [*]; done) | (rw [chkL_good true _ _ (by go_light; simp; omega)]; simp [*]), hbr⟩
        case measure => simp [intOf]
      · go_ret
        exact ⟨by first | (rw [← HQ.out, chkL_bad _ _ _ (.inr (.inl (by assumption)))] <;> rfl) | (rw [chkL_bad _ _ _ (.inr (.inl (by assumption)))] <;> rfl), H2.out.trans (hbr.mono H2.out.size)⟩
      · go_ret
        exact ⟨by first | (rw [← HQ.out, chkL_bad _ _ _ (.inl (by assumption))] <;> rfl) | (rw [chkL_bad _ _ _ (.inl (by assumption))] <;> rfl), H2.out.trans (hbr.mono H2.out.size)⟩
      · go_roundw
        case rel => exact ⟨1, true, by omega, by go_num, rfl, by first | (rw [← HQ.out, chkL_good _ _ _ (by go_light; simp; omega)]; simp [*]; done) | (rw [chkL_good true _ _ (by go_light; simp; omega)]; simp [*]), hbr⟩
        case measure => simp [intOf]
      · go_roundw
        case rel => exact ⟨1, false, by omega, by go_num, rfl, by first | (rw [← HQ.out, chkL_good _ _ _ (by go_light; simp; omega)]; simp [*]; done) | (rw [chkL_good true _ _ (by go_light; simp; omega)]; simp [*]), hbr⟩
        case measure => simp [intOf]
      · go_ret
        exact ⟨by first | (rw [← HQ.out, chkL_bad _ _ _ (.inr (.inl (by assumption)))] <;> rfl) | (rw [chkL_bad _ _ _ (.inr (.inl (by assumption)))] <;> rfl), H2.out.trans (hbr.mono H2.out.size)⟩
      · go_ret
        exact ⟨by first | (rw [← HQ.out, chkL_bad _ _ _ (.inl (by assumption))] <;> rfl) | (rw [chkL_bad _ _ _ (.inl (by assumption))] <;> rfl), H2.out.trans (hbr.mono H2.out.size)⟩
    · cases q
      all_goals go_wp2
      · go_ret
        exact ⟨by first | (rw [← HQ.out, chkL_bad _ _ _ (.inr (.inr ⟨by assumption, rfl⟩))] <;> rfl) | (rw [chkL_bad _ _ _ (.inr (.inr ⟨by assumption, rfl⟩))] <;> rfl), H2.out.trans (hbr.mono H2.out.size)⟩
      · go_roundw
        case rel => exact ⟨2, false, by omega, by go_num, rfl, by first | (rw [← HQ.out, chkL_good _ _ _ (by go_light; simp; omega)]; simp [*]; done) | (rw [chkL_good true _ _ (by go_light; simp; omega)]; simp [*]), hbr⟩
        case measure => simp [intOf]
      · go_ret
        exact ⟨by first | (rw [← HQ.out, chkL_bad _ _ _ (.inr (.inl (by assumption)))] <;> rfl) | (rw [chkL_bad _ _ _ (.inr (.inl (by assumption)))] <;> rfl), H2.out.trans (hbr.mono H2.out.size)⟩
      · go_ret
        exact ⟨by first | (rw [← HQ.out, chkL_bad _ _ _ (.inl (by assumption))] <;> rfl) | (rw [chkL_bad _ _ _ (.inl (by assumption))] <;> rfl), H2.out.trans (hbr.mono H2.out.size)⟩
      · go_roundw
        case rel => exact ⟨2, true, by omega, by go_num, rfl, by first | (rw [← HQ.out, chkL_good _ _ _ (by go_light; simp; omega)]; simp [*]; done) | (rw [chkL_good true _ _ (by go_light; simp; omega)]; simp [*]), hbr⟩
        case measure => simp [intOf]
      · go_roundw
        case rel => exact ⟨2, false, by omega, by go_num, rfl, by first | (rw [← HQ.out, chkL_good _ _ _ (by go_light; simp; omega)]; simp [*]; done) | (rw [chkL_good true _ _ (by go_light; simp; omega)]; simp [*]), hbr⟩
        case measure => simp [intOf]
      · go_ret
        exact ⟨by first | (rw [← HQ.out, chkL_bad _ _ _ (.inr (.inl (by assumption)))] <;> rfl) | (rw [chkL_bad _ _ _ (.inr (.inl (by assumption)))] <;> rfl), H2.out.trans (hbr.mono H2.out.size)⟩
      · go_ret
        exact ⟨by first | (rw [← HQ.out, chkL_bad _ _ _ (.inl (by assumption))] <;> rfl) | (rw [chkL_bad _ _ _ (.inl (by assumption))] <;> rfl), H2.out.trans (hbr.mono H2.out.size)⟩
    · cases q
      all_goals go_wp2
      · go_ret
        exact ⟨by first | (rw [← HQ.out, chkL_bad _ _ _ (.inr (.inr ⟨by assumption, rfl⟩))] <;> rfl) | (rw [chkL_bad _ _ _ (.inr (.inr ⟨by assumption, rfl⟩))] <;> rfl), H2.out.trans (hbr.mono H2.out.size)⟩
      · go_roundw
        case rel => exact ⟨3, false, by omega, by go_num, rfl, by first | (rw [← HQ.out, chkL_good _ _ _ (by go_light; simp; omega)]; simp [*]; done) | (rw [chkL_good true _ _ (by go_light; simp; omega)]; simp [*]), hbr⟩
        case measure => simp [intOf]
      · go_ret
        exact ⟨by first | (rw [← HQ.out, chkL_bad _ _ _ (.inr (.inl (by assumption)))] <;> rfl) | (rw [chkL_bad _ _ _ (.inr (.inl (by assumption)))] <;> rfl), H2.out.trans (hbr.mono H2.out.size)⟩
      · go_ret
        exact ⟨by first | (rw [← HQ.out, chkL_bad _ _ _ (.inl (by assumption))] <;> rfl) | (rw [chkL_bad _ _ _ (.inl (by assumption))] <;> rfl), H2.out.trans (hbr.mono H2.out.size)⟩
      · go_roundw
        case rel => exact ⟨3, true, by omega, by go_num, rfl, by first | (rw [← HQ.out, chkL_good _ _ _ (by go_light; simp; omega)]; simp [*]; done) | (rw [chkL_good true _ _ (by go_light; simp; omega)]; simp [*]), hbr⟩
        case measure => simp [intOf]
      · go_roundw
        case rel => exact ⟨3, false, by omega, by go_num, rfl, by first | (rw [← HQ.out, chkL_good _ _ _ (by go_light; simp; omega)]; simp [*]; done) | (rw [chkL_good true _ _ (by go_light; simp; omega)]; simp [*]), hbr⟩
        case measure => simp [intOf]
      · go_ret
        exact ⟨by first | (rw [← HQ.out, chkL_bad _ _ _ (.inr (.inl (by assumption)))] <;> rfl) | (rw [chkL_bad _ _ _ (.inr (.inl (by assumption)))] <;> rfl), H2.out.trans (hbr.mono H2.out.size)⟩
      · go_ret
        exact ⟨by first | (rw [← HQ.out, chkL_bad _ _ _ (.inl (by assumption))] <;> rfl) | (rw [chkL_bad _ _ _ (.inl (by assumption))] <;> rfl), H2.out.trans (hbr.mono H2.out.size)⟩
    · go_wp2
      go_ret
      exact ⟨by rw [← HQ.out] <;> rfl, H2.out.trans (hbr.mono H2.out.size)⟩

theorem check_p (a b c : Int) (w : World) :
    Calls Try.prog 52 #[.agg #[.int .i64 a, .int .i64 b, .int .i64 c]] w fun e w' => e = .returned (.int .i64 (chkL true [a, b, c])) ∧ Below w.heap.size w w' := by
  by_cases h : (a == 1 && b == 4 && c == 8) = true
  · have e : chkL true [a, b, c] = 0 := by simp at h; obtain ⟨⟨rfl, rfl⟩, rfl⟩ := h; decide
    rw [e]; exact check_p1 a b c w h
  · by_cases h' : (a == 0 && b == 0 && c == 0) = true
    · have e : chkL true [a, b, c] = 0 := by simp at h'; obtain ⟨⟨rfl, rfl⟩, rfl⟩ := h'; decide
      rw [e]; exact check_p2 a b c w (by simpa using h) h'
    · exact check_p3 a b c w (by simpa using h) (by simpa using h')
end Go.Proofs.Ytammacofhdbgcaa
