/-
  Parameters: their check, depth and patience, walked: of the program and of the reference.
-/
import Derived.Test.YtmblpmaelglnpaaDoorRows
import Derived.Test.YtmblpmaelglnpaaDoorGBase
import Derived.Deep.Light
import Derived.Shelf.Abstract
import Derived.Shelf.RegionOpen
import Derived.OwnWalkIn
import Derived.TacticsInMore
import Derived.LoopNIn
import Derived.LoopIn
import Derived.Outline
namespace Go.Proofs.YtmblpmaelglnpaaDoor
open Go.RowKit
set_option linter.unusedSimpArgs false
set_option linter.unusedVariables false
attribute [local go_sem] Oper.semAt_some

/-- Are parameters right? -/
def pOk (L W J O : Int) : Prop := 1 ≤ L ∧ L ≤ 9 ∧ 10 ≤ W ∧ W ≤ 27 ∧ 16 ≤ J ∧ J ≤ 2097152 ∧ 0 ≤ O ∧ O ≤ 9
instance (L W J O : Int) : Decidable (pOk L W J O) := by unfold pOk; infer_instance
def pchk (L W J O : Int) : Int := if pOk L W J O then 0 else 2
def depthT (L : Int) : Int := if L = 1 then 1 else if L = 2 then 2 else if L = 3 then 4 else if L = 4 then 4 else if L = 5 then 8 else if L = 6 then 16 else if L = 7 then 16 else if L = 8 then 32 else 64
def lazyT (L : Int) : Int := if L ≤ 3 then 0 else if L ≤ 6 then 1 else 2
theorem nine {L : Int} (h1 : 1 ≤ L) (h2 : L ≤ 9) : L = 1 ∨ L = 2 ∨ L = 3 ∨ L = 4 ∨ L = 5 ∨ L = 6 ∨ L = 7 ∨ L = 8 ∨ L = 9 := by omega
theorem within_s (x lo hi : Int) (w : World) : Calls Tryd.prog 80 #[.int .i64 x, .int .i64 lo, .int .i64 hi] w fun e w' => e = .returned (.bool (decide (lo ≤ x ∧ x ≤ hi))) ∧ w' = w := by
  by_cases h1 : lo ≤ x
  · by_cases h2 : x ≤ hi
    · rw [decide_eq_true ⟨h1, h2⟩]
      go_enter Tryd.func80, Tryd.ntmps80
      go_wp2
      go_ret
      exact ⟨rfl, rfl⟩
    · rw [decide_eq_false (by omega)]
      go_enter Tryd.func80, Tryd.ntmps80
      go_wp2
      go_ret
      exact ⟨rfl, rfl⟩
  · rw [decide_eq_false (by omega)]
    go_enter Tryd.func80, Tryd.ntmps80
    go_wp2
    go_ret
    exact ⟨rfl, rfl⟩

set_option maxHeartbeats 2000000 in
theorem pcheck_p (L W J O : Int) (sy ch : Bool) (w : World) : Calls Tryd.prog 55 #[.agg #[.int .i64 L, .int .i64 W, .int .i64 J, .int .i64 O, .bool sy, .bool ch]] w fun e w' => e = .returned (.int .i64 (pchk L W J O)) ∧ Below w.heap.size w w' := by
  unfold pchk
  by_cases h : pOk L W J O
  · rw [if_pos h]
    obtain ⟨h1, h2, h3, h4, h5, h6, h7, h8⟩ := h
    have d1 : decide (1 ≤ L ∧ L ≤ 9) = true := decide_eq_true ⟨h1, h2⟩
    have d2 : decide (10 ≤ W ∧ W ≤ 27) = true := decide_eq_true ⟨h3, h4⟩
    have d3 : decide (16 ≤ J ∧ J ≤ 2097152) = true := decide_eq_true ⟨h5, h6⟩
    have d4 : decide (0 ≤ O ∧ O ≤ 9) = true := decide_eq_true ⟨h7, h8⟩
    clear h1 h2 h3 h4 h5 h6 h7 h8
    have q1 := fun w => within_s L 1 9 w
    have q2 := fun w => within_s W 10 27 w
    have q3 := fun w => within_s J 16 2097152 w
    have q4 := fun w => within_s O 0 9 w
    rw [d1] at q1
    rw [d2] at q2
    rw [d3] at q3
    rw [d4] at q4
    clear d1 d2 d3 d4
    go_enter Tryd.func55, Tryd.ntmps55
    go_wp2_with (first | (go_at_call 80; (with_reducible refine (q1 _).mono ?_); rintro e w' ⟨rfl, rfl⟩) | (go_at_call 80; (with_reducible refine (q2 _).mono ?_); rintro e w' ⟨rfl, rfl⟩) | (go_at_call 80; (with_reducible refine (q3 _).mono ?_); rintro e w' ⟨rfl, rfl⟩) | (go_at_call 80; (with_reducible refine (q4 _).mono ?_); rintro e w' ⟨rfl, rfl⟩))
    repeat' (first | (go_region <;> go_wp2_with (first | (go_at_call 80; (with_reducible refine (q1 _).mono ?_); rintro e w' ⟨rfl, rfl⟩) | (go_at_call 80; (with_reducible refine (q2 _).mono ?_); rintro e w' ⟨rfl, rfl⟩) | (go_at_call 80; (with_reducible refine (q3 _).mono ?_); rintro e w' ⟨rfl, rfl⟩) | (go_at_call 80; (with_reducible refine (q4 _).mono ?_); rintro e w' ⟨rfl, rfl⟩))))
    all_goals go_light
    all_goals (refine bodyPost_ret (v := .int .i64 0) (by simp [results, Tryd.results55, go_sem, *]) rfl ⟨rfl, ?_⟩; repeat' (first | exact Below.refl _ _ | refine Below.drew ?_ | refine below_drewN ?_ _ | refine Below.alloc ?_ (by first | omega | (simp <;> omega)) _ | refine Below.setCell ?_ (by first | omega | (simp <;> omega)) _ | refine Below.trans ?_ (Below.mono (by assumption) (by first | omega | (simp <;> omega)))))
  · rw [if_neg h]
    have q1 := fun w => within_s L 1 9 w
    have q2 := fun w => within_s W 10 27 w
    have q3 := fun w => within_s J 16 2097152 w
    have q4 := fun w => within_s O 0 9 w
    have hx : decide (1 ≤ L ∧ L ≤ 9) = false ∨ (decide (1 ≤ L ∧ L ≤ 9) = true ∧ decide (10 ≤ W ∧ W ≤ 27) = false) ∨ (decide (1 ≤ L ∧ L ≤ 9) = true ∧ decide (10 ≤ W ∧ W ≤ 27) = true ∧ decide (16 ≤ J ∧ J ≤ 2097152) = false) ∨ (decide (1 ≤ L ∧ L ≤ 9) = true ∧ decide (10 ≤ W ∧ W ≤ 27) = true ∧ decide (16 ≤ J ∧ J ≤ 2097152) = true ∧ decide (0 ≤ O ∧ O ≤ 9) = false) := by
      unfold pOk at h
      simp only [decide_eq_true_eq, decide_eq_false_iff_not]
      omega
    generalize decide (1 ≤ L ∧ L ≤ 9) = c1 at q1 hx
    generalize decide (10 ≤ W ∧ W ≤ 27) = c2 at q2 hx
    generalize decide (16 ≤ J ∧ J ≤ 2097152) = c3 at q3 hx
    generalize decide (0 ≤ O ∧ O ≤ 9) = c4 at q4 hx
    clear h
    rcases hx with rfl | ⟨rfl, rfl⟩ | ⟨rfl, rfl, rfl⟩ | ⟨rfl, rfl, rfl, rfl⟩
    all_goals
      go_enter Tryd.func55, Tryd.ntmps55
      go_wp2_with (first | (go_at_call 80; (with_reducible refine (q1 _).mono ?_); rintro e w' ⟨rfl, rfl⟩) | (go_at_call 80; (with_reducible refine (q2 _).mono ?_); rintro e w' ⟨rfl, rfl⟩) | (go_at_call 80; (with_reducible refine (q3 _).mono ?_); rintro e w' ⟨rfl, rfl⟩) | (go_at_call 80; (with_reducible refine (q4 _).mono ?_); rintro e w' ⟨rfl, rfl⟩))
      repeat' (first | (go_region <;> go_wp2_with (first | (go_at_call 80; (with_reducible refine (q1 _).mono ?_); rintro e w' ⟨rfl, rfl⟩) | (go_at_call 80; (with_reducible refine (q2 _).mono ?_); rintro e w' ⟨rfl, rfl⟩) | (go_at_call 80; (with_reducible refine (q3 _).mono ?_); rintro e w' ⟨rfl, rfl⟩) | (go_at_call 80; (with_reducible refine (q4 _).mono ?_); rintro e w' ⟨rfl, rfl⟩))))
      all_goals go_light
      all_goals (refine bodyPost_ret (v := .int .i64 2) (by simp [results, Tryd.results55, go_sem, *]) rfl ⟨rfl, ?_⟩; repeat' (first | exact Below.refl _ _ | refine Below.drew ?_ | refine below_drewN ?_ _ | refine Below.alloc ?_ (by first | omega | (simp <;> omega)) _ | refine Below.setCell ?_ (by first | omega | (simp <;> omega)) _ | refine Below.trans ?_ (Below.mono (by assumption) (by first | omega | (simp <;> omega)))))

set_option maxHeartbeats 2000000 in
theorem rpcheck_p (L W J O : Int) (sy ch : Bool) (w : World) : Calls Tryd.prog 56 #[.agg #[.int .i64 L, .int .i64 W, .int .i64 J, .int .i64 O, .bool sy, .bool ch]] w fun e w' => e = .returned (.int .i64 (pchk L W J O)) ∧ Below w.heap.size w w' := by
  unfold pchk
  by_cases h : pOk L W J O
  · rw [if_pos h]
    obtain ⟨h1, h2, h3, h4, h5, h6, h7, h8⟩ := h
    have d1 : ¬ L < 1 := by omega
    have d2 : ¬ 9 < L := by omega
    have d3 : ¬ W < 10 := by omega
    have d4 : ¬ 27 < W := by omega
    have d5 : ¬ J < 16 := by omega
    have d6 : ¬ 2097152 < J := by omega
    have d7 : ¬ O < 0 := by omega
    have d8 : ¬ 9 < O := by omega
    clear h1 h2 h3 h4 h5 h6 h7 h8
    go_enter Tryd.func56, Tryd.ntmps56
    go_wp2
    repeat' (first | (go_region <;> go_wp2))
    all_goals go_light
    all_goals (refine bodyPost_ret (v := .int .i64 0) (by simp [results, Tryd.results56, go_sem, *]) rfl ⟨rfl, ?_⟩; repeat' (first | exact Below.refl _ _ | refine Below.drew ?_ | refine below_drewN ?_ _ | refine Below.alloc ?_ (by first | omega | (simp <;> omega)) _ | refine Below.setCell ?_ (by first | omega | (simp <;> omega)) _ | refine Below.trans ?_ (Below.mono (by assumption) (by first | omega | (simp <;> omega)))))
  · rw [if_neg h]
    have hx : L < 1 ∨ (¬ L < 1 ∧ 9 < L) ∨ (¬ L < 1 ∧ ¬ 9 < L ∧ W < 10) ∨ (¬ L < 1 ∧ ¬ 9 < L ∧ ¬ W < 10 ∧ 27 < W) ∨ (¬ L < 1 ∧ ¬ 9 < L ∧ ¬ W < 10 ∧ ¬ 27 < W ∧ J < 16) ∨ (¬ L < 1 ∧ ¬ 9 < L ∧ ¬ W < 10 ∧ ¬ 27 < W ∧ ¬ J < 16 ∧ 2097152 < J) ∨ (¬ L < 1 ∧ ¬ 9 < L ∧ ¬ W < 10 ∧ ¬ 27 < W ∧ ¬ J < 16 ∧ ¬ 2097152 < J ∧ O < 0) ∨ (¬ L < 1 ∧ ¬ 9 < L ∧ ¬ W < 10 ∧ ¬ 27 < W ∧ ¬ J < 16 ∧ ¬ 2097152 < J ∧ ¬ O < 0 ∧ 9 < O) := by
      unfold pOk at h
      omega
    clear h
    rcases hx with g1 | ⟨g1, g2⟩ | ⟨g1, g2, g3⟩ | ⟨g1, g2, g3, g4⟩ | ⟨g1, g2, g3, g4, g5⟩ | ⟨g1, g2, g3, g4, g5, g6⟩ | ⟨g1, g2, g3, g4, g5, g6, g7⟩ | ⟨g1, g2, g3, g4, g5, g6, g7, g8⟩
    all_goals
      go_enter Tryd.func56, Tryd.ntmps56
      go_wp2
      repeat' (first | (go_region <;> go_wp2))
      all_goals go_light
      all_goals (refine bodyPost_ret (v := .int .i64 2) (by simp [results, Tryd.results56, go_sem, *]) rfl ⟨rfl, ?_⟩; repeat' (first | exact Below.refl _ _ | refine Below.drew ?_ | refine below_drewN ?_ _ | refine Below.alloc ?_ (by first | omega | (simp <;> omega)) _ | refine Below.setCell ?_ (by first | omega | (simp <;> omega)) _ | refine Below.trans ?_ (Below.mono (by assumption) (by first | omega | (simp <;> omega)))))

set_option maxHeartbeats 4000000 in
theorem level_d (L : Int) (w : World) (h1 : 1 ≤ L) (h2 : L ≤ 9) : Calls Tryd.prog 86 #[.int .i64 L, .int .i64 0] w fun e w' => e = .returned (.int .i64 (depthT L)) ∧ Below w.heap.size w w' := by
  rcases nine h1 h2 with rfl | rfl | rfl | rfl | rfl | rfl | rfl | rfl | rfl
  all_goals clear h1 h2
  all_goals
    go_enter Tryd.func86, Tryd.ntmps86
    go_wp2
    go_ret
    exact ⟨rfl, (Below.refl _ _).alloc (Nat.le_refl _) _⟩

set_option maxHeartbeats 4000000 in
theorem level_l (L : Int) (w : World) (h1 : 1 ≤ L) (h2 : L ≤ 9) : Calls Tryd.prog 86 #[.int .i64 L, .int .i64 1] w fun e w' => e = .returned (.int .i64 (lazyT L)) ∧ Below w.heap.size w w' := by
  rcases nine h1 h2 with rfl | rfl | rfl | rfl | rfl | rfl | rfl | rfl | rfl
  all_goals clear h1 h2
  all_goals
    go_enter Tryd.func86, Tryd.ntmps86
    go_wp2
    go_ret
    exact ⟨rfl, (Below.refl _ _).alloc (Nat.le_refl _) _⟩

set_option maxHeartbeats 2000000 in
theorem pdepth_ok (L W J O : Int) (sy ch : Bool) (w : World) (h : pOk L W J O) : Calls Tryd.prog 41 #[.agg #[.int .i64 L, .int .i64 W, .int .i64 J, .int .i64 O, .bool sy, .bool ch]] w fun e w' => e = .returned (.tuple #[.int .i64 (depthT L), .int .i64 0]) ∧ Below w.heap.size w w' := by
  have qC := fun w => pcheck_p L W J O sy ch w
  have hp : pchk L W J O = 0 := by unfold pchk; rw [if_pos h]
  rw [hp] at qC
  have qL := fun w => level_d L w h.1 h.2.1
  clear hp h
  generalize depthT L = v at qL ⊢
  refine calls_of_marks Tryd.func41 rfl ?_
  simp only [Tryd.ntmps41, List.size_toArray, List.length_cons, List.length_nil, Nat.reduceAdd, Nat.reduceSub, Array.replicate_succ, Array.replicate_zero, List.push_toArray, List.append_toArray, List.nil_append, List.cons_append]
  go_wp2_with (first | (go_at_call 55; refine (qC _).mono ?_; rintro e w1 ⟨rfl, hb⟩; have hsz := hb.size; (try simp at hsz); (first | (have hbl := blater2 HA (by first | exact Nat.le_refl _ | (simp; done) | (simp; omega)) hb; obtain ⟨hcc, hff, HA, hne, hne'⟩ := hbl) | (obtain ⟨hcc, hff, HA, hne, hne'⟩ := blater1 hb)); (try simp only [World.size_alloc, World.size_setCell] at HA)) | (go_at_call 86; refine (qL _).mono ?_; rintro e w1 ⟨rfl, hb⟩; have hsz := hb.size; (try simp at hsz); (first | (have hbl := blater2 HA (by first | exact Nat.le_refl _ | (simp; done) | (simp; omega)) hb; obtain ⟨hcc, hff, HA, hne, hne'⟩ := hbl) | (obtain ⟨hcc, hff, HA, hne, hne'⟩ := blater1 hb)); (try simp only [World.size_alloc, World.size_setCell] at HA)) | go_in)
  repeat' (first | (go_region <;> go_wp2_with (first | (go_at_call 55; refine (qC _).mono ?_; rintro e w1 ⟨rfl, hb⟩; have hsz := hb.size; (try simp at hsz); (first | (have hbl := blater2 HA (by first | exact Nat.le_refl _ | (simp; done) | (simp; omega)) hb; obtain ⟨hcc, hff, HA, hne, hne'⟩ := hbl) | (obtain ⟨hcc, hff, HA, hne, hne'⟩ := blater1 hb)); (try simp only [World.size_alloc, World.size_setCell] at HA)) | (go_at_call 86; refine (qL _).mono ?_; rintro e w1 ⟨rfl, hb⟩; have hsz := hb.size; (try simp at hsz); (first | (have hbl := blater2 HA (by first | exact Nat.le_refl _ | (simp; done) | (simp; omega)) hb; obtain ⟨hcc, hff, HA, hne, hne'⟩ := hbl) | (obtain ⟨hcc, hff, HA, hne, hne'⟩ := blater1 hb)); (try simp only [World.size_alloc, World.size_setCell] at HA)) | go_in)))
  all_goals go_light
  all_goals (refine ⟨.tuple #[.int .i64 v, .int .i64 0], by simp [results, Tryd.results41, go_sem, *], rfl, ?_⟩; repeat' (first | exact Below.refl _ _ | refine Below.drew ?_ | refine below_drewN ?_ _ | refine Below.alloc ?_ (by first | omega | (simp <;> omega)) _ | refine Below.setCell ?_ (by first | omega | (simp <;> omega)) _ | refine Below.trans ?_ (Below.mono (by assumption) (by first | omega | (simp <;> omega)))))

set_option maxHeartbeats 2000000 in
theorem plazy_ok (L W J O : Int) (sy ch : Bool) (w : World) (h : pOk L W J O) : Calls Tryd.prog 43 #[.agg #[.int .i64 L, .int .i64 W, .int .i64 J, .int .i64 O, .bool sy, .bool ch]] w fun e w' => e = .returned (.tuple #[.int .i64 (lazyT L), .int .i64 0]) ∧ Below w.heap.size w w' := by
  have qC := fun w => pcheck_p L W J O sy ch w
  have hp : pchk L W J O = 0 := by unfold pchk; rw [if_pos h]
  rw [hp] at qC
  have qL := fun w => level_l L w h.1 h.2.1
  clear hp h
  generalize lazyT L = v at qL ⊢
  refine calls_of_marks Tryd.func43 rfl ?_
  simp only [Tryd.ntmps43, List.size_toArray, List.length_cons, List.length_nil, Nat.reduceAdd, Nat.reduceSub, Array.replicate_succ, Array.replicate_zero, List.push_toArray, List.append_toArray, List.nil_append, List.cons_append]
  go_wp2_with (first | (go_at_call 55; refine (qC _).mono ?_; rintro e w1 ⟨rfl, hb⟩; have hsz := hb.size; (try simp at hsz); (first | (have hbl := blater2 HA (by first | exact Nat.le_refl _ | (simp; done) | (simp; omega)) hb; obtain ⟨hcc, hff, HA, hne, hne'⟩ := hbl) | (obtain ⟨hcc, hff, HA, hne, hne'⟩ := blater1 hb)); (try simp only [World.size_alloc, World.size_setCell] at HA)) | (go_at_call 86; refine (qL _).mono ?_; rintro e w1 ⟨rfl, hb⟩; have hsz := hb.size; (try simp at hsz); (first | (have hbl := blater2 HA (by first | exact Nat.le_refl _ | (simp; done) | (simp; omega)) hb; obtain ⟨hcc, hff, HA, hne, hne'⟩ := hbl) | (obtain ⟨hcc, hff, HA, hne, hne'⟩ := blater1 hb)); (try simp only [World.size_alloc, World.size_setCell] at HA)) | go_in)
  repeat' (first | (go_region <;> go_wp2_with (first | (go_at_call 55; refine (qC _).mono ?_; rintro e w1 ⟨rfl, hb⟩; have hsz := hb.size; (try simp at hsz); (first | (have hbl := blater2 HA (by first | exact Nat.le_refl _ | (simp; done) | (simp; omega)) hb; obtain ⟨hcc, hff, HA, hne, hne'⟩ := hbl) | (obtain ⟨hcc, hff, HA, hne, hne'⟩ := blater1 hb)); (try simp only [World.size_alloc, World.size_setCell] at HA)) | (go_at_call 86; refine (qL _).mono ?_; rintro e w1 ⟨rfl, hb⟩; have hsz := hb.size; (try simp at hsz); (first | (have hbl := blater2 HA (by first | exact Nat.le_refl _ | (simp; done) | (simp; omega)) hb; obtain ⟨hcc, hff, HA, hne, hne'⟩ := hbl) | (obtain ⟨hcc, hff, HA, hne, hne'⟩ := blater1 hb)); (try simp only [World.size_alloc, World.size_setCell] at HA)) | go_in)))
  all_goals go_light
  all_goals (refine ⟨.tuple #[.int .i64 v, .int .i64 0], by simp [results, Tryd.results43, go_sem, *], rfl, ?_⟩; repeat' (first | exact Below.refl _ _ | refine Below.drew ?_ | refine below_drewN ?_ _ | refine Below.alloc ?_ (by first | omega | (simp <;> omega)) _ | refine Below.setCell ?_ (by first | omega | (simp <;> omega)) _ | refine Below.trans ?_ (Below.mono (by assumption) (by first | omega | (simp <;> omega)))))
end Go.Proofs.YtmblpmaelglnpaaDoor
