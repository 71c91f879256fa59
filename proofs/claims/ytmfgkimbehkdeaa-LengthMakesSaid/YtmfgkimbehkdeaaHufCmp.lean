/-
  A node's key, and how keys are compared, walked.
-/
import Derived.Test.YtmfgkimbehkdeaaRows
import Derived.Test.YtmfgkimbehkdeaaGBase
import Derived.Deep.Light
import Derived.Shelf.Abstract
import Derived.Shelf.RegionOpen
import Derived.OwnWalkIn
import Derived.TacticsInMore
import Derived.LoopNIn
import Derived.LoopIn
import Derived.Deep.RegionHeld3
import Derived.IntWalk
import Derived.Deep.AppendLies
import Derived.Deep.RegionLaw
import Derived.OwnWalk
import Derived.Laws.OwnMore
namespace Go.Proofs.Ytmfgkimbehkdeaa
open Go.RowKit
set_option linter.unusedSimpArgs false
set_option linter.unusedVariables false
attribute [local go_sem] Oper.semAt_some
theorem key_p (B : Nat) (c s g : Int) (w : World) (h0 : w.cell? ⟨B, 0, none⟩ = some (.int .i64 c)) (h1 : w.cell? ⟨B, 1, none⟩ = some (.int .i64 s)) (h2 : w.cell? ⟨B, 2, none⟩ = some (.int .i64 g)) :
    Calls Try.prog 74 #[.pointer (some ⟨B, 0, none⟩)] w fun e w' => e = .returned (.agg #[.int .i64 c, .int .i64 g, .int .i64 s]) ∧ Below w.heap.size w w' := by
  have hl := World.block_lt_of_cell? w ⟨B, 0, none⟩ h0
  dsimp only at hl
  have n1 : ¬ B = w.heap.size := by omega
  have n2 : ¬ w.heap.size = B := by omega
  go_enter Try.func74, Try.ntmps74
  go_wp2
  go_region_held3 (fun w' => w'.cell? ⟨B, 0, none⟩ = some (.int .i64 c) ∧ w'.cell? ⟨B, 1, none⟩ = some (.int .i64 s) ∧ w'.cell? ⟨B, 2, none⟩ = some (.int .i64 g)) (first | (simp [go_sem, *]; done) | go_keep) (fail)
  all_goals go_wp2_with fail
  all_goals go_light
  all_goals
    refine bodyPost_ret (v := .agg #[.int .i64 c, .int .i64 g, .int .i64 s]) (by simp [results, Try.results74, go_sem, *]) rfl ⟨rfl, ?_⟩
    repeat' (first | with_reducible exact Below.refl _ _ | with_reducible refine Below.drew ?_ | with_reducible refine Below.alloc ?_ (by first | omega | (simp <;> omega)) _ | with_reducible refine Below.setCell ?_ (by first | omega | (dsimp only; omega) | (simp <;> omega)) _)
def cmpI (x y : Int) : Int := if x < y then -1 else if y < x then 1 else 0
def orI (a b c : Int) : Int := if a ≠ 0 then a else if b ≠ 0 then b else c
theorem nan_p (x : Int) (w : World) : Calls Try.prog 77 #[.int .i64 x] w fun e w' => e = .returned (.bool false) ∧ w' = w := by
  go_enter Try.func77, Try.ntmps77
  go_wp2
  go_ret
  exact ⟨by simp, rfl⟩
theorem cmp_p (x y : Int) (w : World) : Calls Try.prog 76 #[.int .i64 x, .int .i64 y] w fun e w' => e = .returned (.int .i64 (cmpI x y)) ∧ w' = w := by
  unfold cmpI
  by_cases h1 : x < y
  · rw [if_pos h1]
    go_enter Try.func76, Try.ntmps76
    go_wp2_with (go_at_call 77; refine (nan_p _ _).mono ?_; rintro en wx ⟨rfl, rfl⟩)
    go_ret
    exact ⟨rfl, rfl⟩
  · rw [if_neg h1]
    by_cases h2 : y < x
    · rw [if_pos h2]
      go_enter Try.func76, Try.ntmps76
      go_wp2_with (go_at_call 77; refine (nan_p _ _).mono ?_; rintro en wx ⟨rfl, rfl⟩)
      go_ret
      exact ⟨rfl, rfl⟩
    · rw [if_neg h2]
      go_enter Try.func76, Try.ntmps76
      go_wp2_with (go_at_call 77; refine (nan_p _ _).mono ?_; rintro en wx ⟨rfl, rfl⟩)
      go_ret
      exact ⟨rfl, rfl⟩
theorem or_p (B : Nat) (x y z : Int) (w : World) (h0 : w.cell? ⟨B, 0, none⟩ = some (.int .i64 x)) (h1 : w.cell? ⟨B, 1, none⟩ = some (.int .i64 y)) (h2 : w.cell? ⟨B, 2, none⟩ = some (.int .i64 z)) :
    Calls Try.prog 75 #[.slice (some ⟨B, 0, none⟩) 3 3] w fun e w' => e = .returned (.int .i64 (orI x y z)) ∧ w' = w := by
  have hl := World.block_lt_of_cell? w ⟨B, 0, none⟩ h0
  unfold orI
  by_cases hx : x = 0
  · subst hx
    rw [if_neg (by simp)]
    by_cases hy : y = 0
    · subst hy
      rw [if_neg (by simp)]
      have t : (z == 0) = true ∨ (z == 0) = false := by cases (z == 0) <;> simp
      rcases t with t | t
      · obtain rfl : z = 0 := by simpa using t
        go_enter Try.func75, Try.ntmps75
        go_wp2
        refine wp_loop_rounds 4 ?_
        rw [rounds_succ]
        go_wp2
        rw [rounds_succ]
        go_wp2
        rw [rounds_succ]
        go_wp2
        rw [rounds_succ]
        go_wp2
        go_ret
        exact ⟨rfl, rfl⟩
      · go_enter Try.func75, Try.ntmps75
        go_wp2
        refine wp_loop_rounds 3 ?_
        rw [rounds_succ]
        go_wp2
        rw [rounds_succ]
        go_wp2
        rw [rounds_succ]
        go_wp2
        go_ret
        exact ⟨rfl, rfl⟩
    · rw [if_pos hy]
      have t : (y == 0) = false := by simpa using hy
      go_enter Try.func75, Try.ntmps75
      go_wp2
      refine wp_loop_rounds 2 ?_
      rw [rounds_succ]
      go_wp2
      rw [rounds_succ]
      go_wp2
      go_ret
      exact ⟨rfl, rfl⟩
  · rw [if_pos hx]
    have t : (x == 0) = false := by simpa using hx
    go_enter Try.func75, Try.ntmps75
    go_wp2
    refine wp_loop_rounds 1 ?_
    rw [rounds_succ]
    go_wp2
    go_ret
    exact ⟨rfl, rfl⟩
/-- The order of keys, as the program reckons it. -/
def befI (a0 a1 a2 b0 b1 b2 : Int) : Bool := decide (orI (cmpI a0 b0) (cmpI a1 b1) (cmpI a2 b2) < 0)
set_option maxHeartbeats 4000000 in
theorem before_p (a0 a1 a2 b0 b1 b2 : Int) (w : World) : Calls Try.prog 73 #[.agg #[.int .i64 a0, .int .i64 a1, .int .i64 a2], .agg #[.int .i64 b0, .int .i64 b1, .int .i64 b2]] w fun e w' => e = .returned (.bool (befI a0 a1 a2 b0 b1 b2)) ∧ Below w.heap.size w w' := by
  unfold befI
  have q0 := fun w => cmp_p a0 b0 w
  have q1 := fun w => cmp_p a1 b1 w
  have q2 := fun w => cmp_p a2 b2 w
  generalize cmpI a0 b0 = x at q0 ⊢
  generalize cmpI a1 b1 = y at q1 ⊢
  generalize cmpI a2 b2 = z at q2 ⊢
  have qo := fun B w => or_p B x y z w
  generalize orI x y z = o at qo ⊢
  go_enter Try.func73, Try.ntmps73
  go_wp2
  go_region_held3 (fun w' => w'.cell? ⟨w.heap.size, 0, none⟩ = some (.int .i64 a0) ∧ w'.cell? ⟨w.heap.size, 1, none⟩ = some (.int .i64 a1) ∧ w'.cell? ⟨w.heap.size, 2, none⟩ = some (.int .i64 a2) ∧ w'.cell? ⟨w.heap.size + 1, 0, none⟩ = some (.int .i64 b0) ∧ w'.cell? ⟨w.heap.size + 1, 1, none⟩ = some (.int .i64 b1) ∧ w'.cell? ⟨w.heap.size + 1, 2, none⟩ = some (.int .i64 b2)) (first | (simp [go_sem, *]; done) | go_keep) (first | (go_at_call 76; (with_reducible refine (q0 _).mono ?_); rintro en wx ⟨rfl, rfl⟩) | (go_at_call 76; (with_reducible refine (q1 _).mono ?_); rintro en wx ⟨rfl, rfl⟩) | (go_at_call 76; (with_reducible refine (q2 _).mono ?_); rintro en wx ⟨rfl, rfl⟩) | (go_at_call 75; refine (qo _ _ (by simp [go_sem, *]) (by simp [go_sem, *]) (by simp [go_sem, *])).mono ?_; rintro en wx ⟨rfl, rfl⟩))
  all_goals go_wp2_with fail
  all_goals go_light
  all_goals
    refine bodyPost_ret (v := .bool (decide (o < 0))) (by simp [results, Try.results73, go_sem, *]) rfl ⟨rfl, ?_⟩
    repeat' (first | with_reducible exact Below.refl _ _ | with_reducible refine Below.drew ?_ | with_reducible refine Below.alloc ?_ (by first | omega | (simp <;> omega)) _ | with_reducible refine Below.setCell ?_ (by first | omega | (dsimp only; omega) | (simp <;> omega)) _)
theorem cell_keep {X Y : World} (hb : Below X.heap.size X Y) {a : Addr} {v : Value} (h : X.cell? a = some v) : Y.cell? a = some v := (hb.cell (p := a) (World.block_lt_of_cell? X a h)).trans h
theorem less_keep {X Y : World} {bp op i j Bi Bj : Nat} {a0 a1 a2 b0 b1 b2 : Int} (h : X.cell? ⟨bp, op + i, none⟩ = some (.pointer (some ⟨Bi, 0, none⟩)) ∧ X.cell? ⟨bp, op + j, none⟩ = some (.pointer (some ⟨Bj, 0, none⟩)) ∧ X.cell? ⟨Bi, 0, none⟩ = some (.int .i64 a0) ∧ X.cell? ⟨Bi, 1, none⟩ = some (.int .i64 a2) ∧ X.cell? ⟨Bi, 2, none⟩ = some (.int .i64 a1) ∧ X.cell? ⟨Bj, 0, none⟩ = some (.int .i64 b0) ∧ X.cell? ⟨Bj, 1, none⟩ = some (.int .i64 b2) ∧ X.cell? ⟨Bj, 2, none⟩ = some (.int .i64 b1)) (hb : Below X.heap.size X Y) : Y.cell? ⟨bp, op + i, none⟩ = some (.pointer (some ⟨Bi, 0, none⟩)) ∧ Y.cell? ⟨bp, op + j, none⟩ = some (.pointer (some ⟨Bj, 0, none⟩)) ∧ Y.cell? ⟨Bi, 0, none⟩ = some (.int .i64 a0) ∧ Y.cell? ⟨Bi, 1, none⟩ = some (.int .i64 a2) ∧ Y.cell? ⟨Bi, 2, none⟩ = some (.int .i64 a1) ∧ Y.cell? ⟨Bj, 0, none⟩ = some (.int .i64 b0) ∧ Y.cell? ⟨Bj, 1, none⟩ = some (.int .i64 b2) ∧ Y.cell? ⟨Bj, 2, none⟩ = some (.int .i64 b1) :=
  ⟨cell_keep hb h.1, cell_keep hb h.2.1, cell_keep hb h.2.2.1, cell_keep hb h.2.2.2.1, cell_keep hb h.2.2.2.2.1, cell_keep hb h.2.2.2.2.2.1, cell_keep hb h.2.2.2.2.2.2.1, cell_keep hb h.2.2.2.2.2.2.2⟩
set_option maxHeartbeats 4000000 in
theorem less_p (bp op n c i j Bi Bj : Nat) (a0 a1 a2 b0 b1 b2 : Int) (w : World) (hi : i < n) (hj : j < n) (hS : w.cell? ⟨bp, op + i, none⟩ = some (.pointer (some ⟨Bi, 0, none⟩)) ∧ w.cell? ⟨bp, op + j, none⟩ = some (.pointer (some ⟨Bj, 0, none⟩)) ∧ w.cell? ⟨Bi, 0, none⟩ = some (.int .i64 a0) ∧ w.cell? ⟨Bi, 1, none⟩ = some (.int .i64 a2) ∧ w.cell? ⟨Bi, 2, none⟩ = some (.int .i64 a1) ∧ w.cell? ⟨Bj, 0, none⟩ = some (.int .i64 b0) ∧ w.cell? ⟨Bj, 1, none⟩ = some (.int .i64 b2) ∧ w.cell? ⟨Bj, 2, none⟩ = some (.int .i64 b1)) :
    Calls Try.prog 69 #[.slice (some ⟨bp, op, none⟩) n c, .int .i64 (i : Int), .int .i64 (j : Int)] w fun e w' => e = .returned (.bool (befI a0 a1 a2 b0 b1 b2)) ∧ Below w.heap.size w w' := by
  have qb := fun w => before_p a0 a1 a2 b0 b1 b2 w
  generalize befI a0 a1 a2 b0 b1 b2 = o at qb ⊢
  obtain ⟨s0, s1, s2, s3, s4, s5, s6, s7⟩ := id hS
  have HS := Lib.hid hS
  clear hS
  have i0 : (0 : Int) ≤ (i : Int) := by omega
  have i1 : (i : Int) < (n : Int) := by omega
  have j0 : (0 : Int) ≤ (j : Int) := by omega
  have j1 : (j : Int) < (n : Int) := by omega
  go_enter Try.func69, Try.ntmps69
  go_wp2
  go_region_held3 (fun w' => w'.cell? ⟨bp, op + i, none⟩ = some (.pointer (some ⟨Bi, 0, none⟩)) ∧ w'.cell? ⟨bp, op + j, none⟩ = some (.pointer (some ⟨Bj, 0, none⟩)) ∧ w'.cell? ⟨Bi, 0, none⟩ = some (.int .i64 a0) ∧ w'.cell? ⟨Bi, 1, none⟩ = some (.int .i64 a2) ∧ w'.cell? ⟨Bi, 2, none⟩ = some (.int .i64 a1) ∧ w'.cell? ⟨Bj, 0, none⟩ = some (.int .i64 b0) ∧ w'.cell? ⟨Bj, 1, none⟩ = some (.int .i64 b2) ∧ w'.cell? ⟨Bj, 2, none⟩ = some (.int .i64 b1)) ((refine less_keep HS.out ?_; repeat' (first | with_reducible exact Below.refl _ _ | with_reducible refine Below.drew ?_ | with_reducible refine Below.alloc ?_ (by first | omega | (simp <;> omega)) _ | with_reducible refine Below.setCell ?_ (by first | omega | (dsimp only; omega) | (simp <;> omega)) _ | with_reducible refine Below.trans ?_ (Below.mono (by assumption) (by first | omega | (simp <;> omega)))))) (first | (go_at_call 74; (with_reducible refine (key_p Bi a0 a2 a1 _ (by simp [*]) (by simp [*]) (by simp [*])).mono ?_); rintro en wx ⟨rfl, hbx⟩; have hsx := hbx.size; (try simp at hsx)) | (go_at_call 74; (with_reducible refine (key_p Bj b0 b2 b1 _ (by simp [*]) (by simp [*]) (by simp [*])).mono ?_); rintro en wy ⟨rfl, hby⟩; have hsy := hby.size; (try simp at hsy)) | (go_at_call 73; refine (qb _).mono ?_; rintro en wz ⟨rfl, hbz⟩; have hsz := hbz.size; (try simp at hsz)))
  all_goals go_wp2_with fail
  all_goals go_light
  all_goals
    refine bodyPost_ret (v := .bool o) (by simp [results, Try.results69, go_sem, *]) rfl ⟨rfl, ?_⟩
    repeat' (first | with_reducible exact Below.refl _ _ | with_reducible refine Below.drew ?_ | with_reducible refine Below.alloc ?_ (by first | omega | (simp <;> omega)) _ | with_reducible refine Below.setCell ?_ (by first | omega | (dsimp only; omega) | (simp <;> omega)) _ | with_reducible refine Below.trans ?_ (Below.mono (by assumption) (by first | omega | (simp <;> omega))))
set_option maxHeartbeats 4000000 in
theorem swap_p (bp op n c i j : Nat) (x y : Option Addr) (w : World) (hi : i < n) (hj : j < n) (hij : i ≠ j) (hx : w.cell? ⟨bp, op + i, none⟩ = some (.pointer x)) (hy : w.cell? ⟨bp, op + j, none⟩ = some (.pointer y)) (hfx : w.frozen? ⟨bp, op + i, none⟩ = false) (hfy : w.frozen? ⟨bp, op + j, none⟩ = false) :
    Calls Try.prog 72 #[.slice (some ⟨bp, op, none⟩) n c, .int .i64 (i : Int), .int .i64 (j : Int)] w fun e w' => e = .returned (.tuple #[]) ∧ (w' = ((w.setCell ⟨bp, op + i, none⟩ (.pointer y)).setCell ⟨bp, op + j, none⟩ (.pointer x)).drew ∨ w' = ((w.setCell ⟨bp, op + j, none⟩ (.pointer x)).setCell ⟨bp, op + i, none⟩ (.pointer y)).drew) := by
  have i0 : (0 : Int) ≤ (i : Int) := by omega
  have i1 : (i : Int) < (n : Int) := by omega
  have j0 : (0 : Int) ≤ (j : Int) := by omega
  have j1 : (j : Int) < (n : Int) := by omega
  have e1 : ¬ op + i = op + j := by omega
  have e2 : ¬ op + j = op + i := by omega
  have e3 : ¬ j = i := by omega
  go_enter Try.func72, Try.ntmps72
  go_wp2
  go_region
  all_goals go_wp2_with fail
  all_goals go_light
  all_goals
    refine bodyPost_end (results_none rfl _ _ _) rfl ⟨rfl, ?_⟩
    first | exact .inl rfl | exact .inr rfl
theorem pop_p (H bp op n c : Nat) (q : Option Addr) (w : World) (hn : n + 1 ≤ c) (hc : n < 100000) (hH : w.cell? ⟨H, 0, none⟩ = some (.slice (some ⟨bp, op, none⟩) (n + 1) c)) (hf : w.frozen? ⟨H, 0, none⟩ = false) (hq : w.cell? ⟨bp, op + n, none⟩ = some (.pointer q)) :
    Calls Try.prog 70 #[.pointer (some ⟨H, 0, none⟩)] w fun e w' => e = .returned (.iface 48 (.pointer q)) ∧ w' = w.setCell ⟨H, 0, none⟩ (.slice (some ⟨bp, op, none⟩) n c) := by
  have e1 : IntKind.i64.wrap (((n + 1 : Nat) : Int) - 1) = (n : Int) := by rw [IntWalk.i64_in _ (by omega)]; omega
  have e2 : IntKind.i64.wrap ((n : Int) + 1 - 1) = (n : Int) := by rw [IntWalk.i64_in _ (by omega)]; omega
  have i0 : (0 : Int) ≤ (n : Int) := by omega
  have i1 : (n : Int) < (n : Int) + 1 := by omega
  have i2 : (n : Int) ≤ (c : Int) := by omega
  go_enter Try.func70, Try.ntmps70
  go_wp2
  go_ret
  exact ⟨rfl, rfl⟩
theorem own_basep {w : World} {base : Nat} {e : TypeId} {v : Value} {n : Nat} {xs : List Value} (h : w.ownsRow base e 1 v n xs) : ∀ g, v.ownBlock = some g → base ≤ g := by
  intro g hg
  rcases h.2 with ⟨rfl, rfl⟩ | ⟨g', cap, cur, rfl, hb, _⟩
  · cases hg
  · cases hg; exact hb
theorem taN (v : Value) (w : World) : (Instr.typeAssert (.iface 48 v) 20 48 false).run Try.prog w = .ok v w := by kernel_rfl
attribute [local go_sem] taN
theorem infoPtr : (Try.prog.info? 48).map (fun i => (i.zero, i.size, i.bytes)) = some (some (.pointer none), 1, 8) := by kernel_rfl
set_option maxHeartbeats 4000000 in
theorem push_p (H base n : Nat) (v : Value) (xs : List Value) (B : Nat) (w : World) (hHb : v.ownBlock ≠ some H) (hbase : base ≤ w.heap.size) (hn : n < 100000) (hH : w.cell? ⟨H, 0, none⟩ = some v) (hf : w.frozen? ⟨H, 0, none⟩ = false) (hown : w.ownsRow base 48 1 v n xs) :
    Calls Try.prog 71 #[.pointer (some ⟨H, 0, none⟩), .iface 48 (.pointer (some ⟨B, 0, none⟩))] w fun e w' => e = .returned (.tuple #[]) ∧ ∃ (g cap : Nat) (w1 : World), w1.ownsRow base 48 1 (.slice (some ⟨g, 0, none⟩) (n + 1) cap) (n + 1) (xs ++ [.pointer (some ⟨B, 0, none⟩)]) ∧ w' = w1.setCell ⟨H, 0, none⟩ (.slice (some ⟨g, 0, none⟩) (n + 1) cap) ∧ (w.alloc (.cells #[.pointer (some ⟨B, 0, none⟩)] 48)).drew.grownBy w1 v.ownBlock ∧ (v.ownBlock = some g ∨ g = w.heap.size + 1) ∧ g < w1.heap.size := by
  obtain ⟨i3, hi3, hz⟩ := Option.map_eq_some_iff.1 infoPtr
  simp only [Prod.mk.injEq] at hz
  obtain ⟨hz0, hz1, hz2⟩ := hz
  have hl := World.block_lt_of_cell? w ⟨H, 0, none⟩ hH
  dsimp only at hl
  have n1 : ¬ H = w.heap.size := by omega
  have n2 : ¬ w.heap.size = H := by omega
  go_enter Try.func71, Try.ntmps71
  go_wp2
  go_region_law ((refine step_append_lies _ (by rfl) _ _ _ (by rfl) base 48 i3 _ 1 8 Try.underlying46 hi3 hz0 hz1 hz2 rfl (by omega) v n _ (by rfl) ((hown.alloc _).drew) ⟨w.heap.size, 0, none⟩ 1 1 [.pointer (some ⟨B, 0, none⟩)] (by rfl) (by rfl) (World.news_of_block (cs := #[.pointer (some ⟨B, 0, none⟩)]) (t := 48) (fr := (0, 0)) (heap_alloc_new w _)) (by simp [Value.oneCell']) (by omega) (by unfold maxLen; omega) (by omega) (by simp; omega) (w.heap.size + 1) (by simp) ?_; intro gg cap2 w6 hown6 hgrow6 hat hlt6; (have r1 : w6.cell? ⟨H, 0, none⟩ = some v := by (rw [hgrow6.cell_far _ (by simp; omega) (fun hh => hHb hh.symm)]; simp [go_sem, *])); (have r2 : w6.frozen? ⟨H, 0, none⟩ = false := by (rw [hgrow6.frozen_far _ (by simp; omega) (fun hh => hHb hh.symm)]; simp [go_sem, *]))))
  all_goals go_wp2_with fail
  all_goals go_light
  all_goals
    exact bodyPost_end (results_none rfl _ _ _) rfl ⟨rfl, _, _, _, hown6, rfl, hgrow6, hat, hlt6⟩
set_option maxHeartbeats 4000000 in
theorem swap_same (bp op n c i : Nat) (x : Option Addr) (w : World) (hi : i < n) (hx : w.cell? ⟨bp, op + i, none⟩ = some (.pointer x)) (hfx : w.frozen? ⟨bp, op + i, none⟩ = false) :
    Calls Try.prog 72 #[.slice (some ⟨bp, op, none⟩) n c, .int .i64 (i : Int), .int .i64 (i : Int)] w fun e w' => e = .returned (.tuple #[]) ∧ w' = ((w.setCell ⟨bp, op + i, none⟩ (.pointer x)).setCell ⟨bp, op + i, none⟩ (.pointer x)).drew := by
  have i0 : (0 : Int) ≤ (i : Int) := by omega
  have i1 : (i : Int) < (n : Int) := by omega
  go_enter Try.func72, Try.ntmps72
  go_wp2
  go_region
  all_goals go_wp2_with fail
  all_goals go_light
  all_goals
    exact bodyPost_end (results_none rfl _ _ _) rfl ⟨rfl, rfl⟩
end Go.Proofs.Ytmfgkimbehkdeaa
