/-
  Functions of package counts that range over the counts that occur, walked.
-/
import Derived.Test.YtgponpjlkebjcaaRows
import Derived.Test.YtgponpjlkebjcaaCounts
import Derived.Test.YtgponpjlkebjcaaCountsIter
import Derived.Test.YtgponpjlkebjcaaCountsPlain
import Derived.Test.YtgponpjlkebjcaaBlk
import Derived.Test.YtgponpjlkebjcaaCommon
import Derived.Deep.Light
import Derived.Shelf.Abstract
import Derived.Shelf.RegionOpen
import Derived.OwnWalkIn
import Derived.TacticsInMore
import Derived.LoopNIn
import Derived.LoopIn
namespace Go.Proofs.Ytgponpjlkebjcaa
open Go.RowKit
set_option linter.unusedSimpArgs false
set_option linter.unusedVariables false
open Go.Shelf
attribute [local go_sem] Oper.semAt_some

set_option maxHeartbeats 1000000 in
theorem distinct_1 (a : Option Addr) (xs : List Int) (cap : Nat) (w : World) (ha : Row .i64 w a xs) (hl : xs.length ≤ 9223372036854775807) (hc : cchk xs = 0) :
    Calls Try.prog 27 #[.slice a xs.length cap] w fun e w' => e = .returned (.tuple #[.int .i64 ((occ 0 xs).length : Nat), .int .i64 0]) ∧ Below w.heap.size w w' := by
  refine calls_of_marks Try.func27 rfl ?_
  simp only [Try.ntmps27, List.size_toArray, List.length_cons, List.length_nil, Nat.reduceAdd, Nat.reduceSub, Array.replicate_succ, Array.replicate_zero, List.push_toArray, List.append_toArray, List.nil_append, List.cons_append]
  go_wp2_with (first | (go_at_call 23; refine (check_c _ _ _ _ ha hl).mono ?_; rintro e w1 ⟨rfl, hb⟩; have hsz := hb.size; (try simp at hsz); (first | (have hbl := blater2 HA (by first | exact Nat.le_refl _ | (simp; done) | (simp; omega)) hb; obtain ⟨hcc, hff, HA, hne, hne'⟩ := hbl) | (obtain ⟨hcc, hff, HA, hne, hne'⟩ := blater1 hb)); (try simp only [World.size_alloc, World.size_setCell] at HA)) | go_in)
  repeat' (first | (go_region <;> go_wp2_with (first | (go_at_call 23; refine (check_c _ _ _ _ ha hl).mono ?_; rintro e w1 ⟨rfl, hb⟩; have hsz := hb.size; (try simp at hsz); (first | (have hbl := blater2 HA (by first | exact Nat.le_refl _ | (simp; done) | (simp; omega)) hb; obtain ⟨hcc, hff, HA, hne, hne'⟩ := hbl) | (obtain ⟨hcc, hff, HA, hne, hne'⟩ := blater1 hb)); (try simp only [World.size_alloc, World.size_setCell] at HA)) | go_in)))
  obtain ⟨W0, hW0⟩ : ∃ W0, ((w1.alloc (.cells #[.int .i64 0] 3)).alloc (.cells #[.slice a xs.length cap] 22)) = W0 := ⟨_, rfl⟩
  have B0 : Below w.heap.size w W0 := by
    rw [← hW0]
    repeat' (first | exact Below.refl _ _ | refine Below.drew ?_ | refine below_drewN ?_ _ | refine Below.alloc ?_ (by first | omega | (simp <;> omega)) _ | refine Below.setCell ?_ (by first | omega | (simp <;> omega)) _ | refine Below.trans ?_ (Below.mono (by assumption) (by first | omega | (simp <;> omega))))
  have x0 : W0.cell? ⟨w1.heap.size, 0, none⟩ = some (.int .i64 ((0 : Nat) : Int)) := by rw [← hW0]; clear hW0; simp [go_sem]
  have f0 : W0.frozen? ⟨w1.heap.size, 0, none⟩ = false := by rw [← hW0]; clear hW0; simp [go_sem]
  have x1 : W0.cell? ⟨w1.heap.size + 1, 0, none⟩ = some (.slice a xs.length cap) := by rw [← hW0]; clear hW0; simp [go_sem]
  have S0 : w1.heap.size + 2 ≤ W0.heap.size := by rw [← hW0]; clear hW0; simp
  have hw1 : w.heap.size ≤ w1.heap.size := by omega
  rw [hW0]
  clear hW0 hcc hff HA hne hne' hsz hb
  refine wp_range_pure (gf := 72) (lb := #[.pointer (some ⟨w1.heap.size + 1, 0, none⟩)]) rfl (enters_of Try.func72 (by kernel_rfl) rfl) (occ 0 xs).length (occArgs xs) (fun _ => rfl)
    (fun i W => W.cell? ⟨w1.heap.size, 0, none⟩ = some (.int .i64 (i : Nat)) ∧ W.frozen? ⟨w1.heap.size, 0, none⟩ = false ∧ W.cell? ⟨w1.heap.size + 1, 0, none⟩ = some (.slice a xs.length cap) ∧ Below w.heap.size w W ∧ w1.heap.size + 2 ≤ W.heap.size)
    (fun _ _ => False) ?hI (fun _ _ _ _ h => h) ⟨x0, f0, x1, B0, S0⟩ ?hround ?hiter ?hdone (fun _ _ _ _ h => h.elim)
  case hI =>
    rintro i X Y hk ⟨h0, h1, h2, h3, h4⟩
    exact ⟨hk.cell h0, (hk.frozen h0).trans h1, hk.cell h2, hk.below h3 (by omega) (by omega), Nat.le_trans h4 hk.size⟩
  case hround =>
    rintro l i W hi hI hl1
    clear hI
    have hob := occ_bound hi
    have hol : (occ 0 xs).length ≤ xs.length := by rw [occ_len]; exact List.length_filter_le _ _
    have hi2 : (i : Int) < 9223372036854775807 := by omega
    clear hob
    unfold occArgs
    obtain ⟨q, hq⟩ : ∃ q, (occ 0 xs).getD i (0, 0) = q := ⟨_, rfl⟩
    simp only [hq]
    clear hq
    obtain ⟨s, n⟩ := q
    gi_wp2
    refine ⟨by first | rfl | trivial, ?_⟩
    rintro W2 hl2 ⟨h1, h2, h3, h4, h5⟩
    gi_wp2
    exact ⟨(KeepsOthers.setCell _ _ _).from _, by simp [go_sem, h1], by simp [go_sem, h2], by simp [go_sem, h3], h4.setCell (by simp; omega) _, by simp; omega⟩
  case hiter =>
    intro l J Jx W hb hst hJI _ hr hj
    refine occurring_iter xs a cap (w1.heap.size + 1) l hl J Jx W hst (fun i X h => ?_) hr hj
    obtain ⟨h0, h1, h2, h3, h4⟩ := hJI i X h
    exact ⟨h2, ha.later h3⟩
  case hdone =>
    rintro D W hD ⟨h0, h1, h2, h3, h4⟩ hdf
    all_goals go_wp2
    all_goals refine ⟨by simp, .inl ⟨_, _, rfl, run_takeDeferred (by repeat' (first | exact hdf | apply setCell_deferred)), ?_⟩⟩
    all_goals go_light
    exact ⟨_, results_tmp2 rfl _ _ _, rfl, below_putObj h3 (by omega) _⟩

theorem distinct_e (a : Option Addr) (xs : List Int) (cap : Nat) (w : World) (ha : Row .i64 w a xs) (hl : xs.length ≤ 9223372036854775807) (hc : (cchk xs != 0) = true) :
    Calls Try.prog 27 #[.slice a xs.length cap] w fun e w' => e = .returned (.tuple #[.int .i64 0, .int .i64 (cchk xs)]) ∧ Below w.heap.size w w' := by
  refine calls_of_marks Try.func27 rfl ?_
  simp only [Try.ntmps27, List.size_toArray, List.length_cons, List.length_nil, Nat.reduceAdd, Nat.reduceSub, Array.replicate_succ, Array.replicate_zero, List.push_toArray, List.append_toArray, List.nil_append, List.cons_append]
  go_wp2_with (first | (go_at_call 23; refine (check_c _ _ _ _ ha hl).mono ?_; rintro e w1 ⟨rfl, hb⟩; have hsz := hb.size; (try simp at hsz); (first | (have hbl := blater2 HA (by first | exact Nat.le_refl _ | (simp; done) | (simp; omega)) hb; obtain ⟨hcc, hff, HA, hne, hne'⟩ := hbl) | (obtain ⟨hcc, hff, HA, hne, hne'⟩ := blater1 hb)); (try simp only [World.size_alloc, World.size_setCell] at HA)) | go_in)
  repeat' (first | (go_region <;> go_wp2_with (first | (go_at_call 23; refine (check_c _ _ _ _ ha hl).mono ?_; rintro e w1 ⟨rfl, hb⟩; have hsz := hb.size; (try simp at hsz); (first | (have hbl := blater2 HA (by first | exact Nat.le_refl _ | (simp; done) | (simp; omega)) hb; obtain ⟨hcc, hff, HA, hne, hne'⟩ := hbl) | (obtain ⟨hcc, hff, HA, hne, hne'⟩ := blater1 hb)); (try simp only [World.size_alloc, World.size_setCell] at HA)) | go_in)))
  all_goals go_light
  exact ⟨_, results_tmp2 rfl _ _ _, rfl, by repeat' (first | exact Below.refl _ _ | refine Below.drew ?_ | refine below_drewN ?_ _ | refine Below.alloc ?_ (by first | omega | (simp <;> omega)) _ | refine Below.setCell ?_ (by first | omega | (simp <;> omega)) _ | refine Below.trans ?_ (Below.mono (by assumption) (by first | omega | (simp <;> omega))))⟩

set_option maxHeartbeats 1000000 in
theorem last_1 (a : Option Addr) (xs : List Int) (cap : Nat) (w : World) (ha : Row .i64 w a xs) (hl : xs.length ≤ 9223372036854775807) (hc : cchk xs = 0) :
    Calls Try.prog 29 #[.slice a xs.length cap] w fun e w' => e = .returned (.tuple #[.int .i64 (if lst xs < 0 then 0 else lst xs), .int .i64 (if lst xs < 0 then 7 else 0)]) ∧ Below w.heap.size w w' := by
  refine calls_of_marks Try.func29 rfl ?_
  simp only [Try.ntmps29, List.size_toArray, List.length_cons, List.length_nil, Nat.reduceAdd, Nat.reduceSub, Array.replicate_succ, Array.replicate_zero, List.push_toArray, List.append_toArray, List.nil_append, List.cons_append]
  go_wp2_with (first | (go_at_call 23; refine (check_c _ _ _ _ ha hl).mono ?_; rintro e w1 ⟨rfl, hb⟩; have hsz := hb.size; (try simp at hsz); (first | (have hbl := blater2 HA (by first | exact Nat.le_refl _ | (simp; done) | (simp; omega)) hb; obtain ⟨hcc, hff, HA, hne, hne'⟩ := hbl) | (obtain ⟨hcc, hff, HA, hne, hne'⟩ := blater1 hb)); (try simp only [World.size_alloc, World.size_setCell] at HA)) | go_in)
  repeat' (first | (go_region <;> go_wp2_with (first | (go_at_call 23; refine (check_c _ _ _ _ ha hl).mono ?_; rintro e w1 ⟨rfl, hb⟩; have hsz := hb.size; (try simp at hsz); (first | (have hbl := blater2 HA (by first | exact Nat.le_refl _ | (simp; done) | (simp; omega)) hb; obtain ⟨hcc, hff, HA, hne, hne'⟩ := hbl) | (obtain ⟨hcc, hff, HA, hne, hne'⟩ := blater1 hb)); (try simp only [World.size_alloc, World.size_setCell] at HA)) | go_in)))
  obtain ⟨W0, hW0⟩ : ∃ W0, ((w1.alloc (.cells #[.int .i64 (-1)] 3)).alloc (.cells #[.slice a xs.length cap] 22)) = W0 := ⟨_, rfl⟩
  have B0 : Below w.heap.size w W0 := by
    rw [← hW0]
    repeat' (first | exact Below.refl _ _ | refine Below.drew ?_ | refine below_drewN ?_ _ | refine Below.alloc ?_ (by first | omega | (simp <;> omega)) _ | refine Below.setCell ?_ (by first | omega | (simp <;> omega)) _ | refine Below.trans ?_ (Below.mono (by assumption) (by first | omega | (simp <;> omega))))
  have x0 : W0.cell? ⟨w1.heap.size, 0, none⟩ = some (.int .i64 (lastAt xs 0)) := by rw [← hW0]; clear hW0; simp [go_sem, lastAt]
  have f0 : W0.frozen? ⟨w1.heap.size, 0, none⟩ = false := by rw [← hW0]; clear hW0; simp [go_sem]
  have x1 : W0.cell? ⟨w1.heap.size + 1, 0, none⟩ = some (.slice a xs.length cap) := by rw [← hW0]; clear hW0; simp [go_sem]
  have S0 : w1.heap.size + 2 ≤ W0.heap.size := by rw [← hW0]; clear hW0; simp
  have hw1 : w.heap.size ≤ w1.heap.size := by omega
  rw [hW0]
  clear hW0 hcc hff HA hne hne' hsz hb
  refine wp_range_pure (gf := 72) (lb := #[.pointer (some ⟨w1.heap.size + 1, 0, none⟩)]) rfl (enters_of Try.func72 (by kernel_rfl) rfl) (occ 0 xs).length (occArgs xs) (fun _ => rfl)
    (fun i W => W.cell? ⟨w1.heap.size, 0, none⟩ = some (.int .i64 (lastAt xs i)) ∧ W.frozen? ⟨w1.heap.size, 0, none⟩ = false ∧ W.cell? ⟨w1.heap.size + 1, 0, none⟩ = some (.slice a xs.length cap) ∧ Below w.heap.size w W ∧ w1.heap.size + 2 ≤ W.heap.size)
    (fun _ _ => False) ?hI (fun _ _ _ _ h => h) ⟨x0, f0, x1, B0, S0⟩ ?hround ?hiter ?hdone (fun _ _ _ _ h => h.elim)
  case hI =>
    rintro i X Y hk ⟨h0, h1, h2, h3, h4⟩
    exact ⟨hk.cell h0, (hk.frozen h0).trans h1, hk.cell h2, hk.below h3 (by omega) (by omega), Nat.le_trans h4 hk.size⟩
  case hround =>
    rintro l i W hi hI hl1
    clear hI
    have hob := occ_bound hi
    clear hob
    have hsuc : lastAt xs (i + 1) = (((occ 0 xs).getD i (0, 0)).1 : Int) := by simp [lastAt]
    unfold occArgs
    obtain ⟨q, hq⟩ : ∃ q, (occ 0 xs).getD i (0, 0) = q := ⟨_, rfl⟩
    rw [hq] at hsuc
    simp only [hq]
    clear hq
    obtain ⟨s, n⟩ := q
    (try dsimp only at hsuc)
    gi_wp2
    refine ⟨by first | rfl | trivial, ?_⟩
    rintro W2 hl2 ⟨h1, h2, h3, h4, h5⟩
    gi_wp2
    exact ⟨(KeepsOthers.setCell _ _ _).from _, by rw [hsuc]; simp [go_sem, h1], by simp [go_sem, h2], by simp [go_sem, h3], h4.setCell (by simp; omega) _, by simp; omega⟩
  case hiter =>
    intro l J Jx W hb hst hJI _ hr hj
    refine occurring_iter xs a cap (w1.heap.size + 1) l hl J Jx W hst (fun i X h => ?_) hr hj
    obtain ⟨h0, h1, h2, h3, h4⟩ := hJI i X h
    exact ⟨h2, ha.later h3⟩
  case hdone =>
    rintro D W hD ⟨h0, h1, h2, h3, h4⟩ hdf
    rw [lastAt_all] at h0
    by_cases hn : lst xs < 0
    all_goals go_wp2
    all_goals refine ⟨by simp, .inl ⟨_, _, rfl, run_takeDeferred (by repeat' (first | exact hdf | apply setCell_deferred)), ?_⟩⟩
    all_goals go_light
    · exact ⟨_, results_tmp2 rfl _ _ _, by simp [show lst xs < 0 from hn], below_putObj h3 (by omega) _⟩
    · exact ⟨_, results_tmp2 rfl _ _ _, by simp [show ¬ lst xs < 0 by omega], below_putObj h3 (by omega) _⟩

theorem last_e (a : Option Addr) (xs : List Int) (cap : Nat) (w : World) (ha : Row .i64 w a xs) (hl : xs.length ≤ 9223372036854775807) (hc : (cchk xs != 0) = true) :
    Calls Try.prog 29 #[.slice a xs.length cap] w fun e w' => e = .returned (.tuple #[.int .i64 0, .int .i64 (cchk xs)]) ∧ Below w.heap.size w w' := by
  refine calls_of_marks Try.func29 rfl ?_
  simp only [Try.ntmps29, List.size_toArray, List.length_cons, List.length_nil, Nat.reduceAdd, Nat.reduceSub, Array.replicate_succ, Array.replicate_zero, List.push_toArray, List.append_toArray, List.nil_append, List.cons_append]
  go_wp2_with (first | (go_at_call 23; refine (check_c _ _ _ _ ha hl).mono ?_; rintro e w1 ⟨rfl, hb⟩; have hsz := hb.size; (try simp at hsz); (first | (have hbl := blater2 HA (by first | exact Nat.le_refl _ | (simp; done) | (simp; omega)) hb; obtain ⟨hcc, hff, HA, hne, hne'⟩ := hbl) | (obtain ⟨hcc, hff, HA, hne, hne'⟩ := blater1 hb)); (try simp only [World.size_alloc, World.size_setCell] at HA)) | go_in)
  repeat' (first | (go_region <;> go_wp2_with (first | (go_at_call 23; refine (check_c _ _ _ _ ha hl).mono ?_; rintro e w1 ⟨rfl, hb⟩; have hsz := hb.size; (try simp at hsz); (first | (have hbl := blater2 HA (by first | exact Nat.le_refl _ | (simp; done) | (simp; omega)) hb; obtain ⟨hcc, hff, HA, hne, hne'⟩ := hbl) | (obtain ⟨hcc, hff, HA, hne, hne'⟩ := blater1 hb)); (try simp only [World.size_alloc, World.size_setCell] at HA)) | go_in)))
  all_goals go_light
  exact ⟨_, results_tmp2 rfl _ _ _, rfl, by repeat' (first | exact Below.refl _ _ | refine Below.drew ?_ | refine below_drewN ?_ _ | refine Below.alloc ?_ (by first | omega | (simp <;> omega)) _ | refine Below.setCell ?_ (by first | omega | (simp <;> omega)) _ | refine Below.trans ?_ (Below.mono (by assumption) (by first | omega | (simp <;> omega))))⟩

set_option maxHeartbeats 1000000 in
theorem halve_1 (a : Option Addr) (xs : List Int) (cap : Nat) (w : World) (ha : Row .i64 w a xs) (hl : xs.length ≤ 9223372036854775807) (hc : cchk xs = 0) :
    Calls Try.prog 37 #[.slice a xs.length cap] w fun e w' => ∃ B, e = .returned (.tuple #[.slice (some ⟨B, 0, none⟩) (hlv xs).length (hlv xs).length, .int .i64 0]) ∧ Arr w' B 3 (hlv xs) ∧ w.heap.size ≤ B ∧ Below w.heap.size w w' := by
  have hk := cchk_ok hc
  have hr := hk.2.1
  have hk1 := hk.1
  clear hk
  have hmk : ∀ W, (Instr.makeSlice 22 (.int .i64 (xs.length : Int)) (.int .i64 (xs.length : Int))).run Try.prog W = _ := fun W => mk_ints xs.length (by omega) W
  refine calls_of_marks Try.func37 rfl ?_
  simp only [Try.ntmps37, List.size_toArray, List.length_cons, List.length_nil, Nat.reduceAdd, Nat.reduceSub, Array.replicate_succ, Array.replicate_zero, List.push_toArray, List.append_toArray, List.nil_append, List.cons_append]
  go_wp2_with (first | (go_at_call 23; refine (check_c _ _ _ _ ha hl).mono ?_; rintro e w1 ⟨rfl, hb⟩; have hsz := hb.size; (try simp at hsz); (first | (have hbl := blater2 HA (by first | exact Nat.le_refl _ | (simp; done) | (simp; omega)) hb; obtain ⟨hcc, hff, HA, hne, hne'⟩ := hbl) | (obtain ⟨hcc, hff, HA, hne, hne'⟩ := blater1 hb)); (try simp only [World.size_alloc, World.size_setCell] at HA)) | go_in)
  repeat' (first | (go_region <;> go_wp2_with (first | (go_at_call 23; refine (check_c _ _ _ _ ha hl).mono ?_; rintro e w1 ⟨rfl, hb⟩; have hsz := hb.size; (try simp at hsz); (first | (have hbl := blater2 HA (by first | exact Nat.le_refl _ | (simp; done) | (simp; omega)) hb; obtain ⟨hcc, hff, HA, hne, hne'⟩ := hbl) | (obtain ⟨hcc, hff, HA, hne, hne'⟩ := blater1 hb)); (try simp only [World.size_alloc, World.size_setCell] at HA)) | go_in)))
  obtain ⟨W0, hW0⟩ : ∃ W0, (((w1.alloc (.cells (madeCells #[.int .i64 0] xs.length) 3)).alloc (.cells #[.slice (some ⟨w1.heap.size, 0, none⟩) xs.length xs.length] 22)).alloc (.cells #[.slice a xs.length cap] 22)) = W0 := ⟨_, rfl⟩
  have B0 : Below w.heap.size w W0 := by
    rw [← hW0]
    repeat' (first | exact Below.refl _ _ | refine Below.drew ?_ | refine below_drewN ?_ _ | refine Below.alloc ?_ (by first | omega | (simp <;> omega)) _ | refine Below.setCell ?_ (by first | omega | (simp <;> omega)) _ | refine Below.trans ?_ (Below.mono (by assumption) (by first | omega | (simp <;> omega))))
  have y0 : Arr W0 w1.heap.size 3 (hAt xs 0) := by rw [← hW0]; clear hW0; exact Blk.alloc (Blk.alloc (Arr.made w1 xs.length) _) _
  have x0 : W0.cell? ⟨w1.heap.size + 1, 0, none⟩ = some (.slice (some ⟨w1.heap.size, 0, none⟩) xs.length xs.length) := by rw [← hW0]; clear hW0; simp [go_sem]
  have x1 : W0.cell? ⟨w1.heap.size + 2, 0, none⟩ = some (.slice a xs.length cap) := by rw [← hW0]; clear hW0; simp [go_sem]
  have S0 : w1.heap.size + 3 ≤ W0.heap.size := by rw [← hW0]; clear hW0; simp
  have hw1 : w.heap.size ≤ w1.heap.size := by omega
  rw [hW0]
  clear hW0 hcc hff HA hne hne' hsz hb hmk
  refine wp_range_pure (gf := 72) (lb := #[.pointer (some ⟨w1.heap.size + 2, 0, none⟩)]) rfl (enters_of Try.func72 (by kernel_rfl) rfl) (occ 0 xs).length (occArgs xs) (fun _ => rfl)
    (fun i W => Arr W w1.heap.size 3 (hAt xs i) ∧ W.cell? ⟨w1.heap.size + 1, 0, none⟩ = some (.slice (some ⟨w1.heap.size, 0, none⟩) xs.length xs.length) ∧ W.cell? ⟨w1.heap.size + 2, 0, none⟩ = some (.slice a xs.length cap) ∧ Below w.heap.size w W ∧ w1.heap.size + 3 ≤ W.heap.size)
    (fun _ _ => False) ?hI (fun _ _ _ _ h => h) ⟨y0, x0, x1, B0, S0⟩ ?hround ?hiter ?hdone (fun _ _ _ _ h => h.elim)
  case hI =>
    rintro i X Y hk ⟨h0, h1, h2, h3, h4⟩
    exact ⟨Blk.keep h0 hk, hk.cell h1, hk.cell h2, hk.below h3 (by omega) (by omega), Nat.le_trans h4 hk.size⟩
  case hround =>
    rintro l i W hi hI hl1
    clear hI
    have hob := occ_bound hi
    have hsuc := hAt_succ xs i hi
    have hle := occ_le hr hi
    have hob1 := hob.1
    have hob2 := hob.2.1
    clear hob
    unfold occArgs
    obtain ⟨q, hq⟩ : ∃ q, (occ 0 xs).getD i (0, 0) = q := ⟨_, rfl⟩
    rw [hq] at hsuc hle hob1 hob2
    simp only [hq]
    clear hq
    obtain ⟨s, n⟩ := q
    (try dsimp only at hsuc hle hob1 hob2)
    gi_wp2
    refine ⟨by first | rfl | trivial, ?_⟩
    rintro W2 hl2 ⟨h0, h1, h2, h3, h4⟩
    have e1 : (0 : Int) ≤ (s : Int) := by omega
    have e2 : (s : Int) < (xs.length : Int) := by omega
    have g1 := h0.get (i := s) (by rw [hAt_len]; omega)
    have g2 := Blk.frozen h0 s
    have HS := Lib.hid hsuc
    clear hsuc
    gi_wp2
    exact ⟨(KeepsOthers.setCell _ _ _).from _, by have := Arr.set h0 s (n - n / 2); rw [HS.out]; exact this, by simp [go_sem, h1], by simp [go_sem, h2], h3.setCell (by simp; omega) _, by simp; omega⟩
  case hiter =>
    intro l J Jx W hb hst hJI _ hr hj
    refine occurring_iter xs a cap (w1.heap.size + 2) l hl J Jx W hst (fun i X h => ?_) hr hj
    obtain ⟨h0, h1, h2, h3, h4⟩ := hJI i X h
    exact ⟨h2, ha.later h3⟩
  case hdone =>
    rintro D W hD ⟨h0, h1, h2, h3, h4⟩ hdf
    rw [hAt_all xs hr] at h0
    all_goals go_wp2
    all_goals refine ⟨by simp, .inl ⟨_, _, rfl, run_takeDeferred (by repeat' (first | exact hdf | apply setCell_deferred)), ?_⟩⟩
    all_goals go_light
    · refine ⟨_, results_tmp2 rfl _ _ _, w1.heap.size, by rw [hlv_len]; rfl, ?_, hw1, below_putObj h3 (by omega) _⟩
      exact Blk.keep h0 (Keep.putObj (B := 0) _ (by omega) hdf rfl)


theorem halve_e (a : Option Addr) (xs : List Int) (cap : Nat) (w : World) (ha : Row .i64 w a xs) (hl : xs.length ≤ 9223372036854775807) (hc : (cchk xs != 0) = true) :
    Calls Try.prog 37 #[.slice a xs.length cap] w fun e w' => e = .returned (.tuple #[.slice none 0 0, .int .i64 (cchk xs)]) ∧ Below w.heap.size w w' := by
  refine calls_of_marks Try.func37 rfl ?_
  simp only [Try.ntmps37, List.size_toArray, List.length_cons, List.length_nil, Nat.reduceAdd, Nat.reduceSub, Array.replicate_succ, Array.replicate_zero, List.push_toArray, List.append_toArray, List.nil_append, List.cons_append]
  go_wp2_with (first | (go_at_call 23; refine (check_c _ _ _ _ ha hl).mono ?_; rintro e w1 ⟨rfl, hb⟩; have hsz := hb.size; (try simp at hsz); (first | (have hbl := blater2 HA (by first | exact Nat.le_refl _ | (simp; done) | (simp; omega)) hb; obtain ⟨hcc, hff, HA, hne, hne'⟩ := hbl) | (obtain ⟨hcc, hff, HA, hne, hne'⟩ := blater1 hb)); (try simp only [World.size_alloc, World.size_setCell] at HA)) | go_in)
  repeat' (first | (go_region <;> go_wp2_with (first | (go_at_call 23; refine (check_c _ _ _ _ ha hl).mono ?_; rintro e w1 ⟨rfl, hb⟩; have hsz := hb.size; (try simp at hsz); (first | (have hbl := blater2 HA (by first | exact Nat.le_refl _ | (simp; done) | (simp; omega)) hb; obtain ⟨hcc, hff, HA, hne, hne'⟩ := hbl) | (obtain ⟨hcc, hff, HA, hne, hne'⟩ := blater1 hb)); (try simp only [World.size_alloc, World.size_setCell] at HA)) | go_in)))
  all_goals go_light
  exact ⟨_, results_tmp2 rfl _ _ _, rfl, by repeat' (first | exact Below.refl _ _ | refine Below.drew ?_ | refine below_drewN ?_ _ | refine Below.alloc ?_ (by first | omega | (simp <;> omega)) _ | refine Below.setCell ?_ (by first | omega | (simp <;> omega)) _ | refine Below.trans ?_ (Below.mono (by assumption) (by first | omega | (simp <;> omega))))⟩

set_option maxHeartbeats 1000000 in
theorem covers_1 (a b : Option Addr) (xs : List Int) (bs : List Bool) (cap capb : Nat) (w : World) (ha : Row .i64 w a xs) (hbs : RowB w b bs) (hl : xs.length ≤ 9223372036854775807) (hlb : bs.length ≤ 9223372036854775807) (hc : cchk xs = 0) :
    Calls Try.prog 35 #[.slice a xs.length cap, .slice b bs.length capb] w fun e w' => e = .returned (.tuple #[.bool (cov xs bs), .int .i64 0]) ∧ Below w.heap.size w w' := by
  refine calls_of_marks Try.func35 rfl ?_
  simp only [Try.ntmps35, List.size_toArray, List.length_cons, List.length_nil, Nat.reduceAdd, Nat.reduceSub, Array.replicate_succ, Array.replicate_zero, List.push_toArray, List.append_toArray, List.nil_append, List.cons_append]
  go_wp2_with (first | (go_at_call 23; refine (check_c _ _ _ _ (ha.later (by repeat' (first | exact Below.refl _ _ | refine Below.drew ?_ | refine below_drewN ?_ _ | refine Below.alloc ?_ (by first | omega | (simp <;> omega)) _ | refine Below.setCell ?_ (by first | omega | (simp <;> omega)) _ | refine Below.trans ?_ (Below.mono (by assumption) (by first | omega | (simp <;> omega)))))) hl).mono ?_; rintro e w1 ⟨rfl, hb⟩; have hsz := hb.size; (try simp at hsz); (first | (have hbl := blater2 HA (by first | exact Nat.le_refl _ | (simp; done) | (simp; omega)) hb; obtain ⟨hcc, hff, HA, hne, hne'⟩ := hbl) | (obtain ⟨hcc, hff, HA, hne, hne'⟩ := blater1 hb)); (try simp only [World.size_alloc, World.size_setCell] at HA)) | go_in)
  repeat' (first | (go_region <;> go_wp2_with (first | (go_at_call 23; refine (check_c _ _ _ _ (ha.later (by repeat' (first | exact Below.refl _ _ | refine Below.drew ?_ | refine below_drewN ?_ _ | refine Below.alloc ?_ (by first | omega | (simp <;> omega)) _ | refine Below.setCell ?_ (by first | omega | (simp <;> omega)) _ | refine Below.trans ?_ (Below.mono (by assumption) (by first | omega | (simp <;> omega)))))) hl).mono ?_; rintro e w1 ⟨rfl, hb⟩; have hsz := hb.size; (try simp at hsz); (first | (have hbl := blater2 HA (by first | exact Nat.le_refl _ | (simp; done) | (simp; omega)) hb; obtain ⟨hcc, hff, HA, hne, hne'⟩ := hbl) | (obtain ⟨hcc, hff, HA, hne, hne'⟩ := blater1 hb)); (try simp only [World.size_alloc, World.size_setCell] at HA)) | go_in)))
  obtain ⟨W0, hW0⟩ : ∃ W0, (w1.alloc (.cells #[.slice a xs.length cap] 22)) = W0 := ⟨_, rfl⟩
  have B0 : Below w.heap.size w W0 := by
    rw [← hW0]
    repeat' (first | exact Below.refl _ _ | refine Below.drew ?_ | refine below_drewN ?_ _ | refine Below.alloc ?_ (by first | omega | (simp <;> omega)) _ | refine Below.setCell ?_ (by first | omega | (simp <;> omega)) _ | refine Below.trans ?_ (Below.mono (by assumption) (by first | omega | (simp <;> omega))))
  have x0 : W0.cell? ⟨w.heap.size, 0, none⟩ = some (.slice b bs.length capb) := by rw [← hW0]; clear hW0; rw [World.cell?_alloc_past _ _ _ (by omega), hcc _ _ (by first | omega | (simp; done) | (simp; omega))]; first | done | (simp [go_sem]; done) | rfl
  have x1 : W0.cell? ⟨w.heap.size + 1, 0, none⟩ = some (.bool false) := by rw [← hW0]; clear hW0; rw [World.cell?_alloc_past _ _ _ (by omega), hcc _ _ (by first | omega | (simp; done) | (simp; omega))]; first | done | (simp [go_sem]; done) | rfl
  have f1 : W0.frozen? ⟨w.heap.size + 1, 0, none⟩ = false := by rw [← hW0]; clear hW0; rw [World.frozen?_alloc_past _ _ _ (by omega), hff _ _ (by first | omega | (simp; done) | (simp; omega))]; first | done | (simp [go_sem]; done) | rfl
  have x2 : W0.cell? ⟨w.heap.size + 2, 0, none⟩ = some (.int .i64 0) := by rw [← hW0]; clear hW0; rw [World.cell?_alloc_past _ _ _ (by omega), hcc _ _ (by first | omega | (simp; done) | (simp; omega))]; first | done | (simp [go_sem]; done) | rfl
  have f2 : W0.frozen? ⟨w.heap.size + 2, 0, none⟩ = false := by rw [← hW0]; clear hW0; rw [World.frozen?_alloc_past _ _ _ (by omega), hff _ _ (by first | omega | (simp; done) | (simp; omega))]; first | done | (simp [go_sem]; done) | rfl
  have x3 : W0.cell? ⟨w1.heap.size, 0, none⟩ = some (.slice a xs.length cap) := by rw [← hW0]; clear hW0; simp [go_sem]
  have S0 : w1.heap.size + 1 ≤ W0.heap.size := by rw [← hW0]; clear hW0; simp
  have hw1 : w.heap.size + 3 ≤ w1.heap.size := by omega
  rw [hW0]
  clear hW0 hcc hff HA hne hne' hsz hb
  refine wp_range_pure (gf := 72) (lb := #[.pointer (some ⟨w1.heap.size, 0, none⟩)]) rfl (enters_of Try.func72 (by kernel_rfl) rfl) (occ 0 xs).length (occArgs xs) (fun _ => rfl)
    (fun i W => W.cell? ⟨w.heap.size, 0, none⟩ = some (.slice b bs.length capb) ∧ W.cell? ⟨w.heap.size + 1, 0, none⟩ = some (.bool false) ∧ W.frozen? ⟨w.heap.size + 1, 0, none⟩ = false ∧ W.cell? ⟨w.heap.size + 2, 0, none⟩ = some (.int .i64 0) ∧ W.frozen? ⟨w.heap.size + 2, 0, none⟩ = false ∧ W.cell? ⟨w1.heap.size, 0, none⟩ = some (.slice a xs.length cap) ∧ Below w.heap.size w W ∧ w1.heap.size + 1 ≤ W.heap.size ∧ Hid (∀ j, j < i → bs.getD ((occ 0 xs).getD j (0, 0)).1 false = true))
    (fun c W => c = .ret ∧ W.cell? ⟨w.heap.size + 1, 0, none⟩ = some (.bool false) ∧ W.cell? ⟨w.heap.size + 2, 0, none⟩ = some (.int .i64 0) ∧ Below w.heap.size w W ∧ w1.heap.size + 1 ≤ W.heap.size ∧ Hid (cov xs bs = false)) ?hI ?hIx ⟨x0, x1, f1, x2, f2, x3, B0, S0, fun j h => by omega⟩ ?hround ?hiter ?hdone ?hstop
  case hI =>
    rintro i X Y hk ⟨h0, h1, h2, h3, h4, h5, h6, h7, h8⟩
    exact ⟨hk.cell h0, hk.cell h1, (hk.frozen h1).trans h2, hk.cell h3, (hk.frozen h3).trans h4, hk.cell h5, hk.below h6 (by omega) (by omega), Nat.le_trans h7 hk.size, h8⟩
  case hround =>
    rintro l i W hi hI hl1
    clear hI
    have hob := occ_bound hi
    have hob1 := hob.1
    have hcb := Lib.hid (cov_bad (bs := bs) hi)
    have hHi := Lib.hid hi
    clear hob
    unfold occArgs
    obtain ⟨q, hq⟩ : ∃ q, (occ 0 xs).getD i (0, 0) = q := ⟨_, rfl⟩
    have HQ := Lib.hid hq
    rw [hq] at hob1
    simp only [hq]
    clear hq
    obtain ⟨s, n⟩ := q
    dsimp only at hob1
    gi_wp2
    refine ⟨by first | rfl | trivial, ?_⟩
    rintro W2 hl2 ⟨h0, h1, h2, h3, h4, h5, h6, h7, h8⟩
    by_cases hs : s < bs.length
    · have hrow := hbs.later h6
      obtain ⟨b1, o1, rfl, hb1, hc1⟩ := hrow.at hs
      have c1 := hc1 s hs
      obtain ⟨t, ht⟩ : ∃ t, bs.getD s false = t := ⟨_, rfl⟩
      rw [ht] at c1
      have HT := Lib.hid ht
      have e1 : (s : Int) < (bs.length : Int) := by omega
      have e2 : (0 : Int) ≤ (s : Int) := by omega
      clear hc1 hrow ht
      cases t
      · gi_wp2
        exact ⟨((KeepsOthers.setCell _ _ _).from _).trans ((KeepsOthers.setCell _ _ _).from _), rfl, by simp [go_sem, *], by simp [go_sem, *], (h6.setCell (by simp) _).setCell (by simp; omega) _, by simp; omega, hcb.out (by rw [HQ.out]; exact HT.out)⟩
      · gi_wp2
        exact ⟨KeepsFrom.refl _ _, h0, h1, h2, h3, h4, h5, h6, h7, fun j hj => by
          by_cases hji : j < i
          · exact h8 j hji
          · obtain rfl : j = i := by omega
            rw [HQ.out]; exact HT.out⟩
    · have e1 : ¬ (s : Int) < (bs.length : Int) := by omega
      gi_wp2
      exact ⟨((KeepsOthers.setCell _ _ _).from _).trans ((KeepsOthers.setCell _ _ _).from _), rfl, by simp [go_sem, *], by simp [go_sem, *], (h6.setCell (by simp) _).setCell (by simp; omega) _, by simp; omega, hcb.out (by rw [HQ.out]; simp [show bs.length ≤ s by omega])⟩
  case hiter =>
    intro l J Jx W hb hst hJI _ hr hj
    refine occurring_iter xs a cap (w1.heap.size) l hl J Jx W hst (fun i X h => ?_) hr hj
    obtain ⟨h0, h1, h2, h3, h4, h5, h6, h7, h8⟩ := hJI i X h
    exact ⟨h5, ha.later h6⟩
  case hdone =>
    rintro D W hD ⟨h0, h1, h2, h3, h4, h5, h6, h7, h8⟩ hdf
    have hcov := cov_all h8
    all_goals go_wp2
    all_goals refine ⟨by simp, .inl ⟨_, _, rfl, run_takeDeferred (by repeat' (first | exact hdf | apply setCell_deferred)), ?_⟩⟩
    all_goals go_light
    exact ⟨.tuple #[.bool true, .int .i64 0], by simp [results, Try.results35, go_sem, cell?_putDeferred (setCell_deferred (setCell_deferred hdf _ _) _ _), *], by rw [hcov], below_putObj ((h6.setCell (by simp) _).setCell (by simp; omega) _) (by omega) _⟩
  case hIx =>
    rintro c X Y hk ⟨g0, g1, g2, g3, g4, g5⟩
    exact ⟨g0, hk.cell g1, hk.cell g2, hk.below g3 (by omega) (by omega), Nat.le_trans g4 hk.size, g5⟩
  case hstop =>
    rintro D c W hD ⟨rfl, g1, g2, g3, g4, g5⟩ hdf
    all_goals go_wp2
    all_goals refine ⟨by simp, .inl ⟨_, _, rfl, run_takeDeferred (by repeat' (first | exact hdf | apply setCell_deferred)), ?_⟩⟩
    all_goals go_light
    exact ⟨.tuple #[.bool false, .int .i64 0], by simp [results, Try.results35, go_sem, cell?_putDeferred hdf, *], by rw [g5.out], below_putObj g3 (by omega) _⟩

theorem covers_e (a b : Option Addr) (xs : List Int) (bs : List Bool) (cap capb : Nat) (w : World) (ha : Row .i64 w a xs) (hbs : RowB w b bs) (hl : xs.length ≤ 9223372036854775807) (hlb : bs.length ≤ 9223372036854775807) (hc : (cchk xs != 0) = true) :
    Calls Try.prog 35 #[.slice a xs.length cap, .slice b bs.length capb] w fun e w' => e = .returned (.tuple #[.bool false, .int .i64 (cchk xs)]) ∧ Below w.heap.size w w' := by
  refine calls_of_marks Try.func35 rfl ?_
  simp only [Try.ntmps35, List.size_toArray, List.length_cons, List.length_nil, Nat.reduceAdd, Nat.reduceSub, Array.replicate_succ, Array.replicate_zero, List.push_toArray, List.append_toArray, List.nil_append, List.cons_append]
  go_wp2_with (first | (go_at_call 23; refine (check_c _ _ _ _ (ha.later (by repeat' (first | exact Below.refl _ _ | refine Below.drew ?_ | refine below_drewN ?_ _ | refine Below.alloc ?_ (by first | omega | (simp <;> omega)) _ | refine Below.setCell ?_ (by first | omega | (simp <;> omega)) _ | refine Below.trans ?_ (Below.mono (by assumption) (by first | omega | (simp <;> omega)))))) hl).mono ?_; rintro e w1 ⟨rfl, hb⟩; have hsz := hb.size; (try simp at hsz); (first | (have hbl := blater2 HA (by first | exact Nat.le_refl _ | (simp; done) | (simp; omega)) hb; obtain ⟨hcc, hff, HA, hne, hne'⟩ := hbl) | (obtain ⟨hcc, hff, HA, hne, hne'⟩ := blater1 hb)); (try simp only [World.size_alloc, World.size_setCell] at HA)) | go_in)
  repeat' (first | (go_region <;> go_wp2_with (first | (go_at_call 23; refine (check_c _ _ _ _ (ha.later (by repeat' (first | exact Below.refl _ _ | refine Below.drew ?_ | refine below_drewN ?_ _ | refine Below.alloc ?_ (by first | omega | (simp <;> omega)) _ | refine Below.setCell ?_ (by first | omega | (simp <;> omega)) _ | refine Below.trans ?_ (Below.mono (by assumption) (by first | omega | (simp <;> omega)))))) hl).mono ?_; rintro e w1 ⟨rfl, hb⟩; have hsz := hb.size; (try simp at hsz); (first | (have hbl := blater2 HA (by first | exact Nat.le_refl _ | (simp; done) | (simp; omega)) hb; obtain ⟨hcc, hff, HA, hne, hne'⟩ := hbl) | (obtain ⟨hcc, hff, HA, hne, hne'⟩ := blater1 hb)); (try simp only [World.size_alloc, World.size_setCell] at HA)) | go_in)))
  all_goals go_light
  exact ⟨.tuple #[.bool false, .int .i64 (cchk xs)], by simp [results, Try.results35, go_sem, *], rfl, by repeat' (first | exact Below.refl _ _ | refine Below.drew ?_ | refine below_drewN ?_ _ | refine Below.alloc ?_ (by first | omega | (simp <;> omega)) _ | refine Below.setCell ?_ (by first | omega | (simp <;> omega)) _ | refine Below.trans ?_ (Below.mono (by assumption) (by first | omega | (simp <;> omega))))⟩

theorem st_fn {P : Program} (w : World) (a : Addr) (fn : Fn) (r b : Array Value) (m : Mode) : (store a (.func fn r b) m).run P w = stored P w a (.func fn r b) m := run_store P w a _ m rfl
attribute [local go_sem] st_fn
/-- What keeps the greater one. -/
theorem keep_1 (bs bc : Nat) (s n x y : Int) (w : World) (hne : bs ≠ bc) (h1 : w.cell? ⟨bc, 0, none⟩ = some (.int .i64 y)) (h2 : w.cell? ⟨bs, 0, none⟩ = some (.int .i64 x)) (f1 : w.frozen? ⟨bc, 0, none⟩ = false) (f2 : w.frozen? ⟨bs, 0, none⟩ = false) (h : y < n) :
    Calls Try.prog 57 #[.int .i64 s, .int .i64 n, .pointer (some ⟨bc, 0, none⟩), .pointer (some ⟨bs, 0, none⟩)] w fun e w' => (∃ v, e = .returned v) ∧ w' = (w.setCell ⟨bs, 0, none⟩ (.int .i64 s)).setCell ⟨bc, 0, none⟩ (.int .i64 n) := by
  go_enter Try.func57, Try.ntmps57
  go_wp2
  repeat' (first | (go_region <;> go_wp2) | (refine wp_loop_rounds 4 ?_; rw [rounds_succ]; go_wp2) | (rw [rounds_succ]; go_wp2))
  go_end0
  exact ⟨⟨_, rfl⟩, rfl⟩
theorem keep_0 (bs bc : Nat) (s n x y : Int) (w : World) (h1 : w.cell? ⟨bc, 0, none⟩ = some (.int .i64 y)) (h : ¬ y < n) :
    Calls Try.prog 57 #[.int .i64 s, .int .i64 n, .pointer (some ⟨bc, 0, none⟩), .pointer (some ⟨bs, 0, none⟩)] w fun e w' => (∃ v, e = .returned v) ∧ w' = w := by
  go_enter Try.func57, Try.ntmps57
  go_wp2
  repeat' (first | (go_region <;> go_wp2) | (refine wp_loop_rounds 4 ?_; rw [rounds_succ]; go_wp2) | (rw [rounds_succ]; go_wp2))
  go_end0
  exact ⟨⟨_, rfl⟩, rfl⟩
set_option maxHeartbeats 1000000 in
theorem greatest_1 (a : Option Addr) (xs : List Int) (cap : Nat) (w : World) (ha : Row .i64 w a xs) (hl : xs.length ≤ 9223372036854775807) (hc : cchk xs = 0) :
    Calls Try.prog 31 #[.slice a xs.length cap] w fun e w' => e = .returned (.tuple #[.int .i64 (gr xs).1, .int .i64 (gr xs).2, .int .i64 (gE xs)]) ∧ Below w.heap.size w w' := by
  refine calls_of_marks Try.func31 rfl ?_
  simp only [Try.ntmps31, List.size_toArray, List.length_cons, List.length_nil, Nat.reduceAdd, Nat.reduceSub, Array.replicate_succ, Array.replicate_zero, List.push_toArray, List.append_toArray, List.nil_append, List.cons_append]
  go_wp2_with (first | (go_at_call 23; refine (check_c _ _ _ _ (ha.later (by repeat' (first | exact Below.refl _ _ | refine Below.drew ?_ | refine below_drewN ?_ _ | refine Below.alloc ?_ (by first | omega | (simp <;> omega)) _ | refine Below.setCell ?_ (by first | omega | (simp <;> omega)) _ | refine Below.trans ?_ (Below.mono (by assumption) (by first | omega | (simp <;> omega)))))) hl).mono ?_; rintro e w1 ⟨rfl, hb⟩; have hsz := hb.size; (try simp at hsz); (first | (have hbl := blater2 HA (by first | exact Nat.le_refl _ | (simp; done) | (simp; omega)) hb; obtain ⟨hcc, hff, HA, hne, hne'⟩ := hbl) | (obtain ⟨hcc, hff, HA, hne, hne'⟩ := blater1 hb)); (try simp only [World.size_alloc, World.size_setCell] at HA)) | go_in)
  repeat' (first | (go_region <;> go_wp2_with (first | (go_at_call 23; refine (check_c _ _ _ _ (ha.later (by repeat' (first | exact Below.refl _ _ | refine Below.drew ?_ | refine below_drewN ?_ _ | refine Below.alloc ?_ (by first | omega | (simp <;> omega)) _ | refine Below.setCell ?_ (by first | omega | (simp <;> omega)) _ | refine Below.trans ?_ (Below.mono (by assumption) (by first | omega | (simp <;> omega)))))) hl).mono ?_; rintro e w1 ⟨rfl, hb⟩; have hsz := hb.size; (try simp at hsz); (first | (have hbl := blater2 HA (by first | exact Nat.le_refl _ | (simp; done) | (simp; omega)) hb; obtain ⟨hcc, hff, HA, hne, hne'⟩ := hbl) | (obtain ⟨hcc, hff, HA, hne, hne'⟩ := blater1 hb)); (try simp only [World.size_alloc, World.size_setCell] at HA)) | go_in)))
  obtain ⟨W0, hW0⟩ : ∃ W0, ((w1.alloc (.cells #[.func (.func 57) #[] #[.pointer (some ⟨w.heap.size + 1, 0, none⟩), .pointer (some ⟨w.heap.size, 0, none⟩)]] 67)).alloc (.cells #[.slice a xs.length cap] 22)) = W0 := ⟨_, rfl⟩
  have B0 : Below w.heap.size w W0 := by
    rw [← hW0]
    repeat' (first | exact Below.refl _ _ | refine Below.drew ?_ | refine below_drewN ?_ _ | refine Below.alloc ?_ (by first | omega | (simp <;> omega)) _ | refine Below.setCell ?_ (by first | omega | (simp <;> omega)) _ | refine Below.trans ?_ (Below.mono (by assumption) (by first | omega | (simp <;> omega))))
  have x1 : W0.cell? ⟨w.heap.size, 0, none⟩ = some (.int .i64 (grAt xs 0).1) := by rw [← hW0]; clear hW0; rw [grAt_zero]; rw [World.cell?_alloc_past _ _ _ (by simp; omega), World.cell?_alloc_past _ _ _ (by omega), hcc _ _ (by first | omega | (simp; done) | (simp; omega))]; first | done | (simp [go_sem]; done) | rfl
  have f1 : W0.frozen? ⟨w.heap.size, 0, none⟩ = false := by rw [← hW0]; clear hW0; rw [World.frozen?_alloc_past _ _ _ (by simp; omega), World.frozen?_alloc_past _ _ _ (by omega), hff _ _ (by first | omega | (simp; done) | (simp; omega))]; first | done | (simp [go_sem]; done) | rfl
  have x2 : W0.cell? ⟨w.heap.size + 1, 0, none⟩ = some (.int .i64 (grAt xs 0).2) := by rw [← hW0]; clear hW0; rw [grAt_zero]; rw [World.cell?_alloc_past _ _ _ (by simp; omega), World.cell?_alloc_past _ _ _ (by omega), hcc _ _ (by first | omega | (simp; done) | (simp; omega))]; first | done | (simp [go_sem]; done) | rfl
  have f2 : W0.frozen? ⟨w.heap.size + 1, 0, none⟩ = false := by rw [← hW0]; clear hW0; rw [World.frozen?_alloc_past _ _ _ (by simp; omega), World.frozen?_alloc_past _ _ _ (by omega), hff _ _ (by first | omega | (simp; done) | (simp; omega))]; first | done | (simp [go_sem]; done) | rfl
  have x3 : W0.cell? ⟨w1.heap.size, 0, none⟩ = some (.func (.func 57) #[] #[.pointer (some ⟨w.heap.size + 1, 0, none⟩), .pointer (some ⟨w.heap.size, 0, none⟩)]) := by rw [← hW0]; clear hW0; simp [go_sem]
  have x4 : W0.cell? ⟨w1.heap.size + 1, 0, none⟩ = some (.slice a xs.length cap) := by rw [← hW0]; clear hW0; simp [go_sem]
  have S0 : w1.heap.size + 2 ≤ W0.heap.size := by rw [← hW0]; clear hW0; simp
  have hw1 : w.heap.size + 2 ≤ w1.heap.size := by omega
  rw [hW0]
  clear hW0 hcc hff HA hne hne' hsz hb
  refine wp_range_pure (gf := 72) (lb := #[.pointer (some ⟨w1.heap.size + 1, 0, none⟩)]) rfl (enters_of Try.func72 (by kernel_rfl) rfl) (occ 0 xs).length (occArgs xs) (fun _ => rfl)
    (fun i W => W.cell? ⟨w.heap.size, 0, none⟩ = some (.int .i64 (grAt xs i).1) ∧ W.frozen? ⟨w.heap.size, 0, none⟩ = false ∧ W.cell? ⟨w.heap.size + 1, 0, none⟩ = some (.int .i64 (grAt xs i).2) ∧ W.frozen? ⟨w.heap.size + 1, 0, none⟩ = false ∧ W.cell? ⟨w1.heap.size, 0, none⟩ = some (.func (.func 57) #[] #[.pointer (some ⟨w.heap.size + 1, 0, none⟩), .pointer (some ⟨w.heap.size, 0, none⟩)]) ∧ W.cell? ⟨w1.heap.size + 1, 0, none⟩ = some (.slice a xs.length cap) ∧ Below w.heap.size w W ∧ w1.heap.size + 2 ≤ W.heap.size)
    (fun _ _ => False) ?hI (fun _ _ _ _ h => h) ⟨x1, f1, x2, f2, x3, x4, B0, S0⟩ ?hround ?hiter ?hdone (fun _ _ _ _ h => h.elim)
  case hI =>
    rintro i X Y hk ⟨h0, h1, h2, h3, h4, h5, h6, h7⟩
    exact ⟨hk.cell h0, (hk.frozen h0).trans h1, hk.cell h2, (hk.frozen h2).trans h3, hk.cell h4, hk.cell h5, hk.below h6 (by omega) (by omega), Nat.le_trans h7 hk.size⟩
  case hround =>
    rintro l i W hi hI hl1
    clear hI
    have hob := occ_bound hi
    clear hob
    have hsuc := grAt_succ xs i hi
    unfold occArgs
    obtain ⟨q, hq⟩ : ∃ q, (occ 0 xs).getD i (0, 0) = q := ⟨_, rfl⟩
    rw [hq] at hsuc
    simp only [hq]
    clear hq
    obtain ⟨s, n⟩ := q
    (try dsimp only at hsuc)
    gi_wp2
    refine ⟨by first | rfl | trivial, ?_⟩
    rintro W2 hl2 ⟨h0, h1, h2, h3, h4, h5, h6, h7⟩
    by_cases hn : (grAt xs i).2 < n
    · have e1 : grAt xs (i + 1) = ((s : Int), n) := by rw [hsuc]; unfold gst; rw [if_pos hn]
      have E1 := Lib.hid e1
      clear hsuc e1
      gi_wp2
      refine ⟨trivial, rfl, (CallsIn.inRound l (callsIn_wide.2 (keep_1 w.heap.size (w.heap.size + 1) s n _ _ W2 (by omega) h2 h0 h3 h1 hn))).mono ?_⟩
      rintro e w5 ⟨⟨v, rfl⟩, rfl⟩
      gi_wp2
      rw [E1.out]
      exact ⟨((KeepsOthers.setCell _ _ _).from _).trans ((KeepsOthers.setCell _ _ _).from _), by simp [go_sem, *], by simp [go_sem, *], by simp [go_sem, *], by simp [go_sem, *], by simp [go_sem, *, show w.heap.size ≠ w1.heap.size by omega, show w.heap.size + 1 ≠ w1.heap.size by omega], by simp [go_sem, *, show w.heap.size ≠ w1.heap.size + 1 by omega, show w.heap.size ≠ w1.heap.size by omega], (h6.setCell (by simp) _).setCell (by simp) _, by simp; omega⟩
    · have e1 : grAt xs (i + 1) = grAt xs i := by rw [hsuc]; unfold gst; rw [if_neg hn]
      have E1 := Lib.hid e1
      clear hsuc e1
      gi_wp2
      refine ⟨trivial, rfl, (CallsIn.inRound l (callsIn_wide.2 (keep_0 w.heap.size (w.heap.size + 1) s n 0 _ W2 h2 (by omega)))).mono ?_⟩
      rintro e w5 ⟨⟨v, rfl⟩, rfl⟩
      gi_wp2
      rw [E1.out]
      exact ⟨KeepsFrom.refl _ _, h0, h1, h2, h3, h4, h5, h6, h7⟩
  case hiter =>
    intro l J Jx W hb hst hJI _ hr hj
    refine occurring_iter xs a cap (w1.heap.size + 1) l hl J Jx W hst (fun i X h => ?_) hr hj
    obtain ⟨h0, h1, h2, h3, h4, h5, h6, h7⟩ := hJI i X h
    exact ⟨h5, ha.later h6⟩
  case hdone =>
    rintro D W hD ⟨h0, h1, h2, h3, h4, h5, h6, h7⟩ hdf
    rw [grAt_all] at h0 h2
    have hz := @gr_zero xs
    obtain ⟨S, hS⟩ : ∃ S, (gr xs).1 = S := ⟨_, rfl⟩
    obtain ⟨C, hC⟩ : ∃ C, (gr xs).2 = C := ⟨_, rfl⟩
    rw [hS] at h0 hz
    rw [hC] at h2 hz
    have HS := Lib.hid hS
    have HC := Lib.hid hC
    clear hS hC
    by_cases hn : C = 0
    · have hs0 := hz hn
      have e2 : gE xs = 7 := by unfold gE; rw [if_pos (by rw [HC.out]; exact hn)]
      have E2 := Lib.hid e2
      clear e2 hz
      subst hn hs0
      all_goals go_wp2
      all_goals refine ⟨by simp, .inl ⟨_, _, rfl, run_takeDeferred (by repeat' (first | exact hdf | apply drew_deferred | apply setCell_deferred)), ?_⟩⟩
      all_goals go_light
      exact ⟨.tuple #[.int .i64 0, .int .i64 0, .int .i64 7], by simp [results, Try.results31, go_sem, cell?_putDeferred (setCell_deferred (setCell_deferred hdf _ _) _ _), *], by rw [HS.out, HC.out, E2.out], below_putObj ((h6.setCell (by simp) _).setCell (by simp) _) (by omega) _⟩
    · have e2 : gE xs = 0 := by unfold gE; rw [if_neg (by rw [HC.out]; exact hn)]
      have E2 := Lib.hid e2
      clear e2 hz
      go_wp2
      go_region
      all_goals go_wp2
      all_goals refine ⟨by simp, .inl ⟨_, _, rfl, run_takeDeferred (by repeat' (first | exact hdf | apply drew_deferred | apply setCell_deferred)), ?_⟩⟩
      all_goals go_light
      all_goals exact ⟨.tuple #[.int .i64 S, .int .i64 C, .int .i64 0], by simp [results, Try.results31, go_sem, cell?_putDeferred (drew_deferred (setCell_deferred (setCell_deferred hdf _ _) _ _)), *], by rw [HS.out, HC.out, E2.out], below_putObj (((h6.setCell (by simp) _).setCell (by simp) _).drew) (by omega) _⟩

theorem greatest_e (a : Option Addr) (xs : List Int) (cap : Nat) (w : World) (ha : Row .i64 w a xs) (hl : xs.length ≤ 9223372036854775807) (hc : (cchk xs != 0) = true) :
    Calls Try.prog 31 #[.slice a xs.length cap] w fun e w' => e = .returned (.tuple #[.int .i64 0, .int .i64 0, .int .i64 (cchk xs)]) ∧ Below w.heap.size w w' := by
  refine calls_of_marks Try.func31 rfl ?_
  simp only [Try.ntmps31, List.size_toArray, List.length_cons, List.length_nil, Nat.reduceAdd, Nat.reduceSub, Array.replicate_succ, Array.replicate_zero, List.push_toArray, List.append_toArray, List.nil_append, List.cons_append]
  go_wp2_with (first | (go_at_call 23; refine (check_c _ _ _ _ (ha.later (by repeat' (first | exact Below.refl _ _ | refine Below.drew ?_ | refine below_drewN ?_ _ | refine Below.alloc ?_ (by first | omega | (simp <;> omega)) _ | refine Below.setCell ?_ (by first | omega | (simp <;> omega)) _ | refine Below.trans ?_ (Below.mono (by assumption) (by first | omega | (simp <;> omega)))))) hl).mono ?_; rintro e w1 ⟨rfl, hb⟩; have hsz := hb.size; (try simp at hsz); (first | (have hbl := blater2 HA (by first | exact Nat.le_refl _ | (simp; done) | (simp; omega)) hb; obtain ⟨hcc, hff, HA, hne, hne'⟩ := hbl) | (obtain ⟨hcc, hff, HA, hne, hne'⟩ := blater1 hb)); (try simp only [World.size_alloc, World.size_setCell] at HA)) | go_in)
  repeat' (first | (go_region <;> go_wp2_with (first | (go_at_call 23; refine (check_c _ _ _ _ (ha.later (by repeat' (first | exact Below.refl _ _ | refine Below.drew ?_ | refine below_drewN ?_ _ | refine Below.alloc ?_ (by first | omega | (simp <;> omega)) _ | refine Below.setCell ?_ (by first | omega | (simp <;> omega)) _ | refine Below.trans ?_ (Below.mono (by assumption) (by first | omega | (simp <;> omega)))))) hl).mono ?_; rintro e w1 ⟨rfl, hb⟩; have hsz := hb.size; (try simp at hsz); (first | (have hbl := blater2 HA (by first | exact Nat.le_refl _ | (simp; done) | (simp; omega)) hb; obtain ⟨hcc, hff, HA, hne, hne'⟩ := hbl) | (obtain ⟨hcc, hff, HA, hne, hne'⟩ := blater1 hb)); (try simp only [World.size_alloc, World.size_setCell] at HA)) | go_in)))
  all_goals go_light
  have k1 : w1.cell? ⟨w.heap.size, 0, none⟩ = some (.int .i64 0) := by rw [hcc _ _ (by first | omega | (simp; done) | (simp; omega))]; first | done | (simp [go_sem]; done) | rfl
  have k2 : w1.cell? ⟨w.heap.size + 1, 0, none⟩ = some (.int .i64 0) := by rw [hcc _ _ (by first | omega | (simp; done) | (simp; omega))]; first | done | (simp [go_sem]; done) | rfl
  exact ⟨.tuple #[.int .i64 0, .int .i64 0, .int .i64 (cchk xs)], by simp [results, Try.results31, go_sem, *], rfl, by repeat' (first | exact Below.refl _ _ | refine Below.drew ?_ | refine below_drewN ?_ _ | refine Below.alloc ?_ (by first | omega | (simp <;> omega)) _ | refine Below.setCell ?_ (by first | omega | (simp <;> omega)) _ | refine Below.trans ?_ (Below.mono (by assumption) (by first | omega | (simp <;> omega))))⟩

/-! What these functions return, whole. -/
def rDist (xs : List Int) : Int × Int := if cchk xs = 0 then ((((occ 0 xs).length : Nat) : Int), 0) else (0, cchk xs)
def rLast (xs : List Int) : Int × Int := if cchk xs = 0 then (if lst xs < 0 then 0 else lst xs, if lst xs < 0 then 7 else 0) else (0, cchk xs)
def rGr (xs : List Int) : Int × Int × Int := if cchk xs = 0 then ((gr xs).1, (gr xs).2, gE xs) else (0, 0, cchk xs)
def rCov (xs : List Int) (bs : List Bool) : Bool × Int := if cchk xs = 0 then (cov xs bs, 0) else (false, cchk xs)
def rHlv (xs : List Int) : List Int × Int := if cchk xs = 0 then (hlv xs, 0) else ([], cchk xs)
def rTot (xs : List Int) : Int × Int := if cchk xs = 0 then (xs.sum, 0) else (0, cchk xs)
def rOnly (xs : List Int) : Int × Bool × Int := if cchk xs = 0 then (if (occ 0 xs).length = 1 then (lst xs, true, 0) else (0, false, 0)) else (0, false, cchk xs)
theorem distinct_p (a : Option Addr) (xs : List Int) (cap : Nat) (w : World) (ha : Row .i64 w a xs) (hl : xs.length ≤ 9223372036854775807) :
    Calls Try.prog 27 #[.slice a xs.length cap] w fun e w' => e = .returned (.tuple #[.int .i64 (rDist xs).1, .int .i64 (rDist xs).2]) ∧ Below w.heap.size w w' := by
  unfold rDist
  by_cases h : cchk xs = 0
  · simp only [h, if_true]; exact distinct_1 a xs cap w ha hl h
  · simp only [h, if_false]; exact distinct_e a xs cap w ha hl (by simpa using h)
theorem last_p (a : Option Addr) (xs : List Int) (cap : Nat) (w : World) (ha : Row .i64 w a xs) (hl : xs.length ≤ 9223372036854775807) :
    Calls Try.prog 29 #[.slice a xs.length cap] w fun e w' => e = .returned (.tuple #[.int .i64 (rLast xs).1, .int .i64 (rLast xs).2]) ∧ Below w.heap.size w w' := by
  unfold rLast
  by_cases h : cchk xs = 0
  · simp only [h, if_true]; exact last_1 a xs cap w ha hl h
  · simp only [h, if_false]; exact last_e a xs cap w ha hl (by simpa using h)
theorem greatest_p (a : Option Addr) (xs : List Int) (cap : Nat) (w : World) (ha : Row .i64 w a xs) (hl : xs.length ≤ 9223372036854775807) :
    Calls Try.prog 31 #[.slice a xs.length cap] w fun e w' => e = .returned (.tuple #[.int .i64 (rGr xs).1, .int .i64 (rGr xs).2.1, .int .i64 (rGr xs).2.2]) ∧ Below w.heap.size w w' := by
  unfold rGr
  by_cases h : cchk xs = 0
  · simp only [h, if_true]; exact greatest_1 a xs cap w ha hl h
  · simp only [h, if_false]; exact greatest_e a xs cap w ha hl (by simpa using h)
theorem covers_p (a b : Option Addr) (xs : List Int) (bs : List Bool) (cap capb : Nat) (w : World) (ha : Row .i64 w a xs) (hbs : RowB w b bs) (hl : xs.length ≤ 9223372036854775807) (hlb : bs.length ≤ 9223372036854775807) :
    Calls Try.prog 35 #[.slice a xs.length cap, .slice b bs.length capb] w fun e w' => e = .returned (.tuple #[.bool (rCov xs bs).1, .int .i64 (rCov xs bs).2]) ∧ Below w.heap.size w w' := by
  unfold rCov
  by_cases h : cchk xs = 0
  · simp only [h, if_true]; exact covers_1 a b xs bs cap capb w ha hbs hl hlb h
  · simp only [h, if_false]; exact covers_e a b xs bs cap capb w ha hbs hl hlb (by simpa using h)
/-- What hands back a list and an error: the slice leads to these numbers. -/
def ListPost (R : List Int × Int) (w : World) (e : Ending) (w' : World) : Prop :=
  ∃ pa ca, e = .returned (.tuple #[.slice pa R.1.length ca, .int .i64 R.2]) ∧ Row .i64 w' pa R.1 ∧ Below w.heap.size w w'
theorem halve_p (a : Option Addr) (xs : List Int) (cap : Nat) (w : World) (ha : Row .i64 w a xs) (hl : xs.length ≤ 9223372036854775807) : Calls Try.prog 37 #[.slice a xs.length cap] w (ListPost (rHlv xs) w) := by
  unfold rHlv
  by_cases h : cchk xs = 0
  · simp only [h, if_true]
    refine (halve_1 a xs cap w ha hl h).mono ?_
    rintro e w' ⟨B, rfl, h1, h2, h3⟩
    exact ⟨_, _, rfl, Blk.row h1, h3⟩
  · simp only [h, if_false]
    refine (halve_e a xs cap w ha hl (by simpa using h)).mono ?_
    rintro e w' ⟨rfl, h3⟩
    exact ⟨none, 0, rfl, .inl rfl, h3⟩

theorem total_p (a : Option Addr) (xs : List Int) (cap : Nat) (w : World) (ha : Row .i64 w a xs) (hl : xs.length ≤ 9223372036854775807) :
    Calls Try.prog 25 #[.slice a xs.length cap] w fun e w' => e = .returned (.tuple #[.int .i64 (rTot xs).1, .int .i64 (rTot xs).2]) ∧ Below w.heap.size w w' := by
  unfold rTot
  by_cases h : cchk xs = 0
  · simp only [h, if_true]
    have hs : cS xs = xs.sum := by
      obtain ⟨h1, h2, h3, h4⟩ := cchk_ok h
      unfold cS
      rw [if_pos (by rw [cok_iff _ _ (by omega), h2]; simp; omega)]
    go_enter Try.func25, Try.ntmps25
    go_wp2_with (first | (go_at_call 55; refine (sum_p _ _ _ _ (ha.later (by repeat' (first | exact Below.refl _ _ | refine Below.drew ?_ | refine below_drewN ?_ _ | refine Below.alloc ?_ (by first | omega | (simp <;> omega)) _ | refine Below.setCell ?_ (by first | omega | (simp <;> omega)) _ | refine Below.trans ?_ (Below.mono (by assumption) (by first | omega | (simp <;> omega)))))) hl).mono ?_; rintro e w1 ⟨rfl, hb⟩; have hsz := hb.size; (try simp at hsz); (first | (have hbl := blater2 HA (by first | exact Nat.le_refl _ | (simp; done) | (simp; omega)) hb; obtain ⟨hcc, hff, HA, hne, hne'⟩ := hbl) | (obtain ⟨hcc, hff, HA, hne, hne'⟩ := blater1 hb)); (try simp only [World.size_alloc, World.size_setCell] at HA)) | (go_at_call 23; refine (check_c _ _ _ _ (ha.later (by repeat' (first | exact Below.refl _ _ | refine Below.drew ?_ | refine below_drewN ?_ _ | refine Below.alloc ?_ (by first | omega | (simp <;> omega)) _ | refine Below.setCell ?_ (by first | omega | (simp <;> omega)) _ | refine Below.trans ?_ (Below.mono (by assumption) (by first | omega | (simp <;> omega)))))) hl).mono ?_; rintro e w1 ⟨rfl, hb⟩; have hsz := hb.size; (try simp at hsz); (first | (have hbl := blater2 HA (by first | exact Nat.le_refl _ | (simp; done) | (simp; omega)) hb; obtain ⟨hcc, hff, HA, hne, hne'⟩ := hbl) | (obtain ⟨hcc, hff, HA, hne, hne'⟩ := blater1 hb)); (try simp only [World.size_alloc, World.size_setCell] at HA)))
    repeat' (first | (go_region <;> go_wp2_with (first | (go_at_call 55; refine (sum_p _ _ _ _ (ha.later (by repeat' (first | exact Below.refl _ _ | refine Below.drew ?_ | refine below_drewN ?_ _ | refine Below.alloc ?_ (by first | omega | (simp <;> omega)) _ | refine Below.setCell ?_ (by first | omega | (simp <;> omega)) _ | refine Below.trans ?_ (Below.mono (by assumption) (by first | omega | (simp <;> omega)))))) hl).mono ?_; rintro e w1 ⟨rfl, hb⟩; have hsz := hb.size; (try simp at hsz); (first | (have hbl := blater2 HA (by first | exact Nat.le_refl _ | (simp; done) | (simp; omega)) hb; obtain ⟨hcc, hff, HA, hne, hne'⟩ := hbl) | (obtain ⟨hcc, hff, HA, hne, hne'⟩ := blater1 hb)); (try simp only [World.size_alloc, World.size_setCell] at HA)) | (go_at_call 23; refine (check_c _ _ _ _ (ha.later (by repeat' (first | exact Below.refl _ _ | refine Below.drew ?_ | refine below_drewN ?_ _ | refine Below.alloc ?_ (by first | omega | (simp <;> omega)) _ | refine Below.setCell ?_ (by first | omega | (simp <;> omega)) _ | refine Below.trans ?_ (Below.mono (by assumption) (by first | omega | (simp <;> omega)))))) hl).mono ?_; rintro e w1 ⟨rfl, hb⟩; have hsz := hb.size; (try simp at hsz); (first | (have hbl := blater2 HA (by first | exact Nat.le_refl _ | (simp; done) | (simp; omega)) hb; obtain ⟨hcc, hff, HA, hne, hne'⟩ := hbl) | (obtain ⟨hcc, hff, HA, hne, hne'⟩ := blater1 hb)); (try simp only [World.size_alloc, World.size_setCell] at HA)))))
    all_goals go_light
    all_goals (try simp only [beq_iff_eq, beq_eq_false_iff_ne, bne_iff_ne, bne_eq_false_iff_eq, ne_eq] at *)
    all_goals
      refine bodyPost_ret (v := .tuple #[.int .i64 (xs.sum), .int .i64 0]) (by simp [results, Try.results25, go_sem, *]) rfl ⟨rfl, ?_⟩
      repeat' (first | exact Below.refl _ _ | refine Below.drew ?_ | refine below_drewN ?_ _ | refine Below.alloc ?_ (by first | omega | (simp <;> omega)) _ | refine Below.setCell ?_ (by first | omega | (simp <;> omega)) _ | refine Below.trans ?_ (Below.mono (by assumption) (by first | omega | (simp <;> omega))))
  · simp only [h, if_false]
    have h0 : (cchk xs != 0) = true := by simpa using h
    clear h
    go_enter Try.func25, Try.ntmps25
    go_wp2_with (first | (go_at_call 55; refine (sum_p _ _ _ _ (ha.later (by repeat' (first | exact Below.refl _ _ | refine Below.drew ?_ | refine below_drewN ?_ _ | refine Below.alloc ?_ (by first | omega | (simp <;> omega)) _ | refine Below.setCell ?_ (by first | omega | (simp <;> omega)) _ | refine Below.trans ?_ (Below.mono (by assumption) (by first | omega | (simp <;> omega)))))) hl).mono ?_; rintro e w1 ⟨rfl, hb⟩; have hsz := hb.size; (try simp at hsz); (first | (have hbl := blater2 HA (by first | exact Nat.le_refl _ | (simp; done) | (simp; omega)) hb; obtain ⟨hcc, hff, HA, hne, hne'⟩ := hbl) | (obtain ⟨hcc, hff, HA, hne, hne'⟩ := blater1 hb)); (try simp only [World.size_alloc, World.size_setCell] at HA)) | (go_at_call 23; refine (check_c _ _ _ _ (ha.later (by repeat' (first | exact Below.refl _ _ | refine Below.drew ?_ | refine below_drewN ?_ _ | refine Below.alloc ?_ (by first | omega | (simp <;> omega)) _ | refine Below.setCell ?_ (by first | omega | (simp <;> omega)) _ | refine Below.trans ?_ (Below.mono (by assumption) (by first | omega | (simp <;> omega)))))) hl).mono ?_; rintro e w1 ⟨rfl, hb⟩; have hsz := hb.size; (try simp at hsz); (first | (have hbl := blater2 HA (by first | exact Nat.le_refl _ | (simp; done) | (simp; omega)) hb; obtain ⟨hcc, hff, HA, hne, hne'⟩ := hbl) | (obtain ⟨hcc, hff, HA, hne, hne'⟩ := blater1 hb)); (try simp only [World.size_alloc, World.size_setCell] at HA)))
    repeat' (first | (go_region <;> go_wp2_with (first | (go_at_call 55; refine (sum_p _ _ _ _ (ha.later (by repeat' (first | exact Below.refl _ _ | refine Below.drew ?_ | refine below_drewN ?_ _ | refine Below.alloc ?_ (by first | omega | (simp <;> omega)) _ | refine Below.setCell ?_ (by first | omega | (simp <;> omega)) _ | refine Below.trans ?_ (Below.mono (by assumption) (by first | omega | (simp <;> omega)))))) hl).mono ?_; rintro e w1 ⟨rfl, hb⟩; have hsz := hb.size; (try simp at hsz); (first | (have hbl := blater2 HA (by first | exact Nat.le_refl _ | (simp; done) | (simp; omega)) hb; obtain ⟨hcc, hff, HA, hne, hne'⟩ := hbl) | (obtain ⟨hcc, hff, HA, hne, hne'⟩ := blater1 hb)); (try simp only [World.size_alloc, World.size_setCell] at HA)) | (go_at_call 23; refine (check_c _ _ _ _ (ha.later (by repeat' (first | exact Below.refl _ _ | refine Below.drew ?_ | refine below_drewN ?_ _ | refine Below.alloc ?_ (by first | omega | (simp <;> omega)) _ | refine Below.setCell ?_ (by first | omega | (simp <;> omega)) _ | refine Below.trans ?_ (Below.mono (by assumption) (by first | omega | (simp <;> omega)))))) hl).mono ?_; rintro e w1 ⟨rfl, hb⟩; have hsz := hb.size; (try simp at hsz); (first | (have hbl := blater2 HA (by first | exact Nat.le_refl _ | (simp; done) | (simp; omega)) hb; obtain ⟨hcc, hff, HA, hne, hne'⟩ := hbl) | (obtain ⟨hcc, hff, HA, hne, hne'⟩ := blater1 hb)); (try simp only [World.size_alloc, World.size_setCell] at HA)))))
    all_goals go_light
    all_goals (try simp only [beq_iff_eq, beq_eq_false_iff_ne, bne_iff_ne, bne_eq_false_iff_eq, ne_eq] at *)
    all_goals
      refine bodyPost_ret (v := .tuple #[.int .i64 0, .int .i64 (cchk xs)]) (by simp [results, Try.results25, go_sem, *]) rfl ⟨rfl, ?_⟩
      repeat' (first | exact Below.refl _ _ | refine Below.drew ?_ | refine below_drewN ?_ _ | refine Below.alloc ?_ (by first | omega | (simp <;> omega)) _ | refine Below.setCell ?_ (by first | omega | (simp <;> omega)) _ | refine Below.trans ?_ (Below.mono (by assumption) (by first | omega | (simp <;> omega))))

theorem only_p (a : Option Addr) (xs : List Int) (cap : Nat) (w : World) (ha : Row .i64 w a xs) (hl : xs.length ≤ 9223372036854775807) :
    Calls Try.prog 33 #[.slice a xs.length cap] w fun e w' => e = .returned (.tuple #[.int .i64 (rOnly xs).1, .bool (rOnly xs).2.1, .int .i64 (rOnly xs).2.2]) ∧ Below w.heap.size w w' := by
  by_cases h : cchk xs = 0
  · by_cases h1 : (occ 0 xs).length = 1
    · have e1 : rOnly xs = (lst xs, true, 0) := by unfold rOnly; rw [if_pos h, if_pos h1]
      have e2 : rDist xs = (1, 0) := by unfold rDist; rw [if_pos h, h1]; rfl
      have e3 : rLast xs = (lst xs, 0) := by
        have h2 : lst xs ≠ -1 := fun e => by have := (occ_nil_iff xs).2 e; omega
        have h3 := lst_ge xs
        unfold rLast; rw [if_pos h, if_neg (by omega), if_neg (by omega)]
      rw [e1]
      clear h h1 e1
      go_enter Try.func33, Try.ntmps33
      go_wp2_with (first | (go_at_call 27; refine (distinct_p _ _ _ _ (ha.later (by repeat' (first | exact Below.refl _ _ | refine Below.drew ?_ | refine below_drewN ?_ _ | refine Below.alloc ?_ (by first | omega | (simp <;> omega)) _ | refine Below.setCell ?_ (by first | omega | (simp <;> omega)) _ | refine Below.trans ?_ (Below.mono (by assumption) (by first | omega | (simp <;> omega)))))) hl).mono ?_; rintro e w1 ⟨rfl, hb⟩; have hsz := hb.size; (try simp at hsz); (first | (have hbl := blater2 HA (by first | exact Nat.le_refl _ | (simp; done) | (simp; omega)) hb; obtain ⟨hcc, hff, HA, hne, hne'⟩ := hbl) | (obtain ⟨hcc, hff, HA, hne, hne'⟩ := blater1 hb)); (try simp only [World.size_alloc, World.size_setCell] at HA)) | (go_at_call 29; refine (last_p _ _ _ _ (ha.later (by repeat' (first | exact Below.refl _ _ | refine Below.drew ?_ | refine below_drewN ?_ _ | refine Below.alloc ?_ (by first | omega | (simp <;> omega)) _ | refine Below.setCell ?_ (by first | omega | (simp <;> omega)) _ | refine Below.trans ?_ (Below.mono (by assumption) (by first | omega | (simp <;> omega)))))) hl).mono ?_; rintro e w1 ⟨rfl, hb⟩; have hsz := hb.size; (try simp at hsz); (first | (have hbl := blater2 HA (by first | exact Nat.le_refl _ | (simp; done) | (simp; omega)) hb; obtain ⟨hcc, hff, HA, hne, hne'⟩ := hbl) | (obtain ⟨hcc, hff, HA, hne, hne'⟩ := blater1 hb)); (try simp only [World.size_alloc, World.size_setCell] at HA)))
      repeat' (first | (go_region <;> go_wp2_with (first | (go_at_call 27; refine (distinct_p _ _ _ _ (ha.later (by repeat' (first | exact Below.refl _ _ | refine Below.drew ?_ | refine below_drewN ?_ _ | refine Below.alloc ?_ (by first | omega | (simp <;> omega)) _ | refine Below.setCell ?_ (by first | omega | (simp <;> omega)) _ | refine Below.trans ?_ (Below.mono (by assumption) (by first | omega | (simp <;> omega)))))) hl).mono ?_; rintro e w1 ⟨rfl, hb⟩; have hsz := hb.size; (try simp at hsz); (first | (have hbl := blater2 HA (by first | exact Nat.le_refl _ | (simp; done) | (simp; omega)) hb; obtain ⟨hcc, hff, HA, hne, hne'⟩ := hbl) | (obtain ⟨hcc, hff, HA, hne, hne'⟩ := blater1 hb)); (try simp only [World.size_alloc, World.size_setCell] at HA)) | (go_at_call 29; refine (last_p _ _ _ _ (ha.later (by repeat' (first | exact Below.refl _ _ | refine Below.drew ?_ | refine below_drewN ?_ _ | refine Below.alloc ?_ (by first | omega | (simp <;> omega)) _ | refine Below.setCell ?_ (by first | omega | (simp <;> omega)) _ | refine Below.trans ?_ (Below.mono (by assumption) (by first | omega | (simp <;> omega)))))) hl).mono ?_; rintro e w1 ⟨rfl, hb⟩; have hsz := hb.size; (try simp at hsz); (first | (have hbl := blater2 HA (by first | exact Nat.le_refl _ | (simp; done) | (simp; omega)) hb; obtain ⟨hcc, hff, HA, hne, hne'⟩ := hbl) | (obtain ⟨hcc, hff, HA, hne, hne'⟩ := blater1 hb)); (try simp only [World.size_alloc, World.size_setCell] at HA)))))
      all_goals go_light
      all_goals (try simp only [beq_iff_eq, beq_eq_false_iff_ne, bne_iff_ne, bne_eq_false_iff_eq, ne_eq] at *)
      all_goals
        refine bodyPost_ret (v := .tuple #[.int .i64 (lst xs), .bool true, .int .i64 0]) (by simp [results, Try.results33, go_sem, *]) rfl ⟨rfl, ?_⟩
        repeat' (first | exact Below.refl _ _ | refine Below.drew ?_ | refine below_drewN ?_ _ | refine Below.alloc ?_ (by first | omega | (simp <;> omega)) _ | refine Below.setCell ?_ (by first | omega | (simp <;> omega)) _ | refine Below.trans ?_ (Below.mono (by assumption) (by first | omega | (simp <;> omega))))
    · have e1 : rOnly xs = (0, false, 0) := by unfold rOnly; rw [if_pos h, if_neg h1]
      have e2 : rDist xs = ((((occ 0 xs).length : Nat) : Int), 0) := by unfold rDist; rw [if_pos h]
      have hb : ((((occ 0 xs).length : Nat) : Int) != 1) = true := by simp; omega
      rw [e1]
      clear h h1 e1
      go_enter Try.func33, Try.ntmps33
      go_wp2_with (first | (go_at_call 27; refine (distinct_p _ _ _ _ (ha.later (by repeat' (first | exact Below.refl _ _ | refine Below.drew ?_ | refine below_drewN ?_ _ | refine Below.alloc ?_ (by first | omega | (simp <;> omega)) _ | refine Below.setCell ?_ (by first | omega | (simp <;> omega)) _ | refine Below.trans ?_ (Below.mono (by assumption) (by first | omega | (simp <;> omega)))))) hl).mono ?_; rintro e w1 ⟨rfl, hb⟩; have hsz := hb.size; (try simp at hsz); (first | (have hbl := blater2 HA (by first | exact Nat.le_refl _ | (simp; done) | (simp; omega)) hb; obtain ⟨hcc, hff, HA, hne, hne'⟩ := hbl) | (obtain ⟨hcc, hff, HA, hne, hne'⟩ := blater1 hb)); (try simp only [World.size_alloc, World.size_setCell] at HA)) | (go_at_call 29; refine (last_p _ _ _ _ (ha.later (by repeat' (first | exact Below.refl _ _ | refine Below.drew ?_ | refine below_drewN ?_ _ | refine Below.alloc ?_ (by first | omega | (simp <;> omega)) _ | refine Below.setCell ?_ (by first | omega | (simp <;> omega)) _ | refine Below.trans ?_ (Below.mono (by assumption) (by first | omega | (simp <;> omega)))))) hl).mono ?_; rintro e w1 ⟨rfl, hb⟩; have hsz := hb.size; (try simp at hsz); (first | (have hbl := blater2 HA (by first | exact Nat.le_refl _ | (simp; done) | (simp; omega)) hb; obtain ⟨hcc, hff, HA, hne, hne'⟩ := hbl) | (obtain ⟨hcc, hff, HA, hne, hne'⟩ := blater1 hb)); (try simp only [World.size_alloc, World.size_setCell] at HA)))
      repeat' (first | (go_region <;> go_wp2_with (first | (go_at_call 27; refine (distinct_p _ _ _ _ (ha.later (by repeat' (first | exact Below.refl _ _ | refine Below.drew ?_ | refine below_drewN ?_ _ | refine Below.alloc ?_ (by first | omega | (simp <;> omega)) _ | refine Below.setCell ?_ (by first | omega | (simp <;> omega)) _ | refine Below.trans ?_ (Below.mono (by assumption) (by first | omega | (simp <;> omega)))))) hl).mono ?_; rintro e w1 ⟨rfl, hb⟩; have hsz := hb.size; (try simp at hsz); (first | (have hbl := blater2 HA (by first | exact Nat.le_refl _ | (simp; done) | (simp; omega)) hb; obtain ⟨hcc, hff, HA, hne, hne'⟩ := hbl) | (obtain ⟨hcc, hff, HA, hne, hne'⟩ := blater1 hb)); (try simp only [World.size_alloc, World.size_setCell] at HA)) | (go_at_call 29; refine (last_p _ _ _ _ (ha.later (by repeat' (first | exact Below.refl _ _ | refine Below.drew ?_ | refine below_drewN ?_ _ | refine Below.alloc ?_ (by first | omega | (simp <;> omega)) _ | refine Below.setCell ?_ (by first | omega | (simp <;> omega)) _ | refine Below.trans ?_ (Below.mono (by assumption) (by first | omega | (simp <;> omega)))))) hl).mono ?_; rintro e w1 ⟨rfl, hb⟩; have hsz := hb.size; (try simp at hsz); (first | (have hbl := blater2 HA (by first | exact Nat.le_refl _ | (simp; done) | (simp; omega)) hb; obtain ⟨hcc, hff, HA, hne, hne'⟩ := hbl) | (obtain ⟨hcc, hff, HA, hne, hne'⟩ := blater1 hb)); (try simp only [World.size_alloc, World.size_setCell] at HA)))))
      all_goals go_light
      all_goals (try simp only [beq_iff_eq, beq_eq_false_iff_ne, bne_iff_ne, bne_eq_false_iff_eq, ne_eq] at *)
      all_goals
        refine bodyPost_ret (v := .tuple #[.int .i64 0, .bool false, .int .i64 0]) (by simp [results, Try.results33, go_sem, *]) rfl ⟨rfl, ?_⟩
        repeat' (first | exact Below.refl _ _ | refine Below.drew ?_ | refine below_drewN ?_ _ | refine Below.alloc ?_ (by first | omega | (simp <;> omega)) _ | refine Below.setCell ?_ (by first | omega | (simp <;> omega)) _ | refine Below.trans ?_ (Below.mono (by assumption) (by first | omega | (simp <;> omega))))
  · have e1 : rOnly xs = (0, false, cchk xs) := by unfold rOnly; rw [if_neg h]
    have e2 : rDist xs = (0, cchk xs) := by unfold rDist; rw [if_neg h]
    have h0 : (cchk xs != 0) = true := by simpa using h
    rw [e1]
    clear h e1
    go_enter Try.func33, Try.ntmps33
    go_wp2_with (first | (go_at_call 27; refine (distinct_p _ _ _ _ (ha.later (by repeat' (first | exact Below.refl _ _ | refine Below.drew ?_ | refine below_drewN ?_ _ | refine Below.alloc ?_ (by first | omega | (simp <;> omega)) _ | refine Below.setCell ?_ (by first | omega | (simp <;> omega)) _ | refine Below.trans ?_ (Below.mono (by assumption) (by first | omega | (simp <;> omega)))))) hl).mono ?_; rintro e w1 ⟨rfl, hb⟩; have hsz := hb.size; (try simp at hsz); (first | (have hbl := blater2 HA (by first | exact Nat.le_refl _ | (simp; done) | (simp; omega)) hb; obtain ⟨hcc, hff, HA, hne, hne'⟩ := hbl) | (obtain ⟨hcc, hff, HA, hne, hne'⟩ := blater1 hb)); (try simp only [World.size_alloc, World.size_setCell] at HA)) | (go_at_call 29; refine (last_p _ _ _ _ (ha.later (by repeat' (first | exact Below.refl _ _ | refine Below.drew ?_ | refine below_drewN ?_ _ | refine Below.alloc ?_ (by first | omega | (simp <;> omega)) _ | refine Below.setCell ?_ (by first | omega | (simp <;> omega)) _ | refine Below.trans ?_ (Below.mono (by assumption) (by first | omega | (simp <;> omega)))))) hl).mono ?_; rintro e w1 ⟨rfl, hb⟩; have hsz := hb.size; (try simp at hsz); (first | (have hbl := blater2 HA (by first | exact Nat.le_refl _ | (simp; done) | (simp; omega)) hb; obtain ⟨hcc, hff, HA, hne, hne'⟩ := hbl) | (obtain ⟨hcc, hff, HA, hne, hne'⟩ := blater1 hb)); (try simp only [World.size_alloc, World.size_setCell] at HA)))
    repeat' (first | (go_region <;> go_wp2_with (first | (go_at_call 27; refine (distinct_p _ _ _ _ (ha.later (by repeat' (first | exact Below.refl _ _ | refine Below.drew ?_ | refine below_drewN ?_ _ | refine Below.alloc ?_ (by first | omega | (simp <;> omega)) _ | refine Below.setCell ?_ (by first | omega | (simp <;> omega)) _ | refine Below.trans ?_ (Below.mono (by assumption) (by first | omega | (simp <;> omega)))))) hl).mono ?_; rintro e w1 ⟨rfl, hb⟩; have hsz := hb.size; (try simp at hsz); (first | (have hbl := blater2 HA (by first | exact Nat.le_refl _ | (simp; done) | (simp; omega)) hb; obtain ⟨hcc, hff, HA, hne, hne'⟩ := hbl) | (obtain ⟨hcc, hff, HA, hne, hne'⟩ := blater1 hb)); (try simp only [World.size_alloc, World.size_setCell] at HA)) | (go_at_call 29; refine (last_p _ _ _ _ (ha.later (by repeat' (first | exact Below.refl _ _ | refine Below.drew ?_ | refine below_drewN ?_ _ | refine Below.alloc ?_ (by first | omega | (simp <;> omega)) _ | refine Below.setCell ?_ (by first | omega | (simp <;> omega)) _ | refine Below.trans ?_ (Below.mono (by assumption) (by first | omega | (simp <;> omega)))))) hl).mono ?_; rintro e w1 ⟨rfl, hb⟩; have hsz := hb.size; (try simp at hsz); (first | (have hbl := blater2 HA (by first | exact Nat.le_refl _ | (simp; done) | (simp; omega)) hb; obtain ⟨hcc, hff, HA, hne, hne'⟩ := hbl) | (obtain ⟨hcc, hff, HA, hne, hne'⟩ := blater1 hb)); (try simp only [World.size_alloc, World.size_setCell] at HA)))))
    all_goals go_light
    all_goals (try simp only [beq_iff_eq, beq_eq_false_iff_ne, bne_iff_ne, bne_eq_false_iff_eq, ne_eq] at *)
    all_goals
      refine bodyPost_ret (v := .tuple #[.int .i64 0, .bool false, .int .i64 (cchk xs)]) (by simp [results, Try.results33, go_sem, *]) rfl ⟨rfl, ?_⟩
      repeat' (first | exact Below.refl _ _ | refine Below.drew ?_ | refine below_drewN ?_ _ | refine Below.alloc ?_ (by first | omega | (simp <;> omega)) _ | refine Below.setCell ?_ (by first | omega | (simp <;> omega)) _ | refine Below.trans ?_ (Below.mono (by assumption) (by first | omega | (simp <;> omega))))
end Go.Proofs.Ytgponpjlkebjcaa
