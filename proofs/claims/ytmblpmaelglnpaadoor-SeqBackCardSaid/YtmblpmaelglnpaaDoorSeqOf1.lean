/-
  Checks of lists of numbers: equally long, within bounds; walked.
-/
import Derived.Test.YtmblpmaelglnpaaDoorRows
import Derived.Test.YtmblpmaelglnpaaDoorSeqNeeds
import Derived.Test.YtmblpmaelglnpaaDoorGBase
import Derived.Deep.Light
import Derived.Shelf.Abstract
import Derived.Shelf.RegionOpen
import Derived.OwnWalkIn
import Derived.TacticsInMore
import Derived.LoopNIn
import Derived.LoopIn
import Derived.Maps.OwnIn
import Derived.Outline
import Derived.IntWalk
import Derived.WalkMore
namespace Go.Proofs.YtmblpmaelglnpaaDoor
open Go.RowKit
set_option linter.unusedSimpArgs false
set_option linter.unusedVariables false
open Go.Shelf
attribute [local go_sem] Oper.semAt_some

def wiB (lo hi x : Int) : Bool := decide (lo ≤ x) && decide (x ≤ hi)
set_option maxHeartbeats 1000000 in
theorem within1_p (x lo hi : Int) (bl bh : Nat) (w : World) (hlo : w.cell? ⟨bl, 0, none⟩ = some (.int .i64 lo)) (hhi : w.cell? ⟨bh, 0, none⟩ = some (.int .i64 hi)) :
    Calls Tryd.prog 102 #[.int .i64 x, .pointer (some ⟨bl, 0, none⟩), .pointer (some ⟨bh, 0, none⟩)] w fun e w' => e = .returned (.bool (!wiB lo hi x)) ∧ Below w.heap.size w w' := by
  unfold wiB
  by_cases h1 : x < lo
  · have d1 : decide (x < lo) = true := by simpa using h1
    have d2 : decide (lo ≤ x) = false := by simp; omega
    go_enter Tryd.func102, Tryd.ntmps102
    go_wp2
    go_ret
    exact ⟨by rw [d2]; rfl, Below.refl _ _⟩
  · have d1 : decide (x < lo) = false := by simpa using h1
    have d2 : decide (lo ≤ x) = true := by simp; omega
    have d3 : (!(decide (lo ≤ x) && decide (x ≤ hi))) = decide (hi < x) := by
      rw [d2]
      by_cases h : x ≤ hi
      · rw [decide_eq_true h, decide_eq_false (by omega)]; rfl
      · rw [decide_eq_false h, decide_eq_true (by omega)]; rfl
    rw [d3]
    go_enter Tryd.func102, Tryd.ntmps102
    go_wp2
    go_ret
    exact ⟨rfl, Below.refl _ _⟩
set_option maxRecDepth 100000 in
set_option maxHeartbeats 4000000 in
theorem index_p (a : Option Addr) (xs : List Int) (cap : Nat) (lo hi : Int) (bl bh : Nat) (w : World) (ha : Row .i64 w a xs) (hl : xs.length ≤ 9223372036854775807) (hlo : w.cell? ⟨bl, 0, none⟩ = some (.int .i64 lo)) (hhi : w.cell? ⟨bh, 0, none⟩ = some (.int .i64 hi)) :
    Calls Tryd.prog 117 #[.slice a xs.length cap, .func (.func 102) #[] #[.pointer (some ⟨bl, 0, none⟩), .pointer (some ⟨bh, 0, none⟩)]] w fun e w' => ∃ r : Int, e = .returned (.int .i64 r) ∧ decide (0 ≤ r) = (!xs.all (wiB lo hi)) ∧ Below w.heap.size w w' := by
  have lbl := World.block_lt_of_cell? w ⟨bl, 0, none⟩ hlo
  have lbh := World.block_lt_of_cell? w ⟨bh, 0, none⟩ hhi
  dsimp only at lbl lbh
  go_enter Tryd.func117, Tryd.ntmps117
  go_wp2
  go_loopw [8] (fun v wr => ∃ k : Nat, v = .int .i64 (k : Int) ∧ k ≤ xs.length ∧ Hid ((xs.take k).all (wiB lo hi) = true) ∧ Below w.heap.size w wr) (fun v _ => xs.length - (intOf v).toNat)
  case atStart => exact ⟨0, rfl, by omega, Lib.hid rfl, Below.refl _ _⟩
  case round =>
    obtain ⟨k, rfl, hk, HS, hb⟩ := hrel
    by_cases hlt : k < xs.length
    · obtain ⟨b1, o1, rfl, hb1, hc1⟩ := (ha.later hb).at hlt
      have c1 := hc1 k hlt
      obtain ⟨x, hx⟩ : ∃ x, xs.getD k 0 = x := ⟨_, rfl⟩
      rw [hx] at c1
      have hx2 : xs[k] = x := by rw [← hx, List.getD_eq_getElem?_getD, List.getElem?_eq_getElem hlt]; rfl
      have HX := Lib.hid hx2
      have l1 := (hb.cell (p := ⟨bl, 0, none⟩) lbl).trans hlo
      have l2 := (hb.cell (p := ⟨bh, 0, none⟩) lbh).trans hhi
      have qW := fun w h1 h2 => within1_p x lo hi bl bh w h1 h2
      have i0 : (0 : Int) ≤ (k : Int) := by omega
      have i1 : (k : Int) < (xs.length : Int) := by omega
      obtain ⟨d, hd⟩ : ∃ d, wiB lo hi x = d := ⟨_, rfl⟩
      rw [hd] at qW
      have HD := Lib.hid hd
      clear hc1 hx hd hx2
      cases d with
      | true =>
        go_wp2_with (go_at_call 102; refine (qW _ l1 l2).mono ?_; rintro e w3 ⟨rfl, hb3⟩; have hs3 := hb3.size)
        go_roundw
        case rel =>
          refine ⟨k + 1, by go_num, by omega, Lib.hid ?_, hb.trans (hb3.mono hb.size)⟩
          rw [List.take_add_one, List.getElem?_eq_getElem hlt, List.all_append, HS.out, HX.out]
          simp [HD.out]
        case measure => go_light; simp [intOf] <;> omega
      | false =>
        have hr : (!xs.all (wiB lo hi)) = true := by
          simp only [Bool.not_eq_true', List.all_eq_false]
          exact ⟨xs[k], List.getElem_mem hlt, by rw [HX.out, HD.out]; simp⟩
        have HR := Lib.hid hr
        clear hr
        go_wp2_with (go_at_call 102; refine (qW _ l1 l2).mono ?_; rintro e w3 ⟨rfl, hb3⟩; have hs3 := hb3.size)
        refine bodyPost_ret (v := .int .i64 (k : Int)) (by simp [results, Tryd.results117, go_sem, *]) rfl ⟨_, rfl, ?_, hb.trans (hb3.mono hb.size)⟩
        rw [HR.out]
        simp
    · obtain rfl : k = xs.length := by omega
      have jj : ¬ (xs.length : Int) < (xs.length : Int) := by omega
      have hr : (!xs.all (wiB lo hi)) = false := by
        have := HS.out
        rw [List.take_length] at this
        rw [this]
        rfl
      have HR := Lib.hid hr
      clear hr
      go_wp2
      refine bodyPost_ret (v := .int .i64 (-1)) (by simp [results, Tryd.results117, go_sem, *]) rfl ⟨_, rfl, ?_, hb⟩
      rw [HR.out]
      rfl
set_option maxRecDepth 100000 in
set_option maxHeartbeats 1000000 in
theorem contains_p (a : Option Addr) (xs : List Int) (cap : Nat) (lo hi : Int) (bl bh : Nat) (w : World) (ha : Row .i64 w a xs) (hl : xs.length ≤ 9223372036854775807) (hlo : w.cell? ⟨bl, 0, none⟩ = some (.int .i64 lo)) (hhi : w.cell? ⟨bh, 0, none⟩ = some (.int .i64 hi)) :
    Calls Tryd.prog 101 #[.slice a xs.length cap, .func (.func 102) #[] #[.pointer (some ⟨bl, 0, none⟩), .pointer (some ⟨bh, 0, none⟩)]] w fun e w' => e = .returned (.bool (!xs.all (wiB lo hi))) ∧ Below w.heap.size w w' := by
  obtain ⟨d, hd⟩ : ∃ d, (!xs.all (wiB lo hi)) = d := ⟨_, rfl⟩
  have qI := fun w ha h1 h2 => index_p a xs cap lo hi bl bh w ha hl h1 h2
  rw [hd] at qI ⊢
  clear hd
  go_enter Tryd.func101, Tryd.ntmps101
  go_wp2_with (go_at_call 117; refine (qI _ ha hlo hhi).mono ?_; rintro e w3 ⟨r, rfl, hr, hb3⟩; have hs3 := hb3.size)
  go_ret
  exact ⟨rfl, hb3⟩
set_option maxRecDepth 100000 in
set_option maxHeartbeats 1000000 in
theorem within_p (a : Option Addr) (xs : List Int) (cap : Nat) (lo hi : Int) (w : World) (ha : Row .i64 w a xs) (hl : xs.length ≤ 9223372036854775807) :
    Calls Tryd.prog 73 #[.slice a xs.length cap, .int .i64 lo, .int .i64 hi] w fun e w' => e = .returned (.bool (xs.all (wiB lo hi))) ∧ Below w.heap.size w w' := by
  obtain ⟨d, hd⟩ : ∃ d, xs.all (wiB lo hi) = d := ⟨_, rfl⟩
  have qI := fun bl bh w ha h1 h2 => contains_p a xs cap lo hi bl bh w ha hl h1 h2
  rw [hd] at qI ⊢
  clear hd
  go_enter Tryd.func73, Tryd.ntmps73
  go_wp2_with (go_at_call 101; refine (qI _ _ _ (ha.later (by repeat' (first | with_reducible exact Below.refl _ _ | with_reducible refine Below.drew ?_ | with_reducible refine below_drewN ?_ _ | with_reducible refine Below.alloc ?_ (by first | omega | (simp <;> omega)) _ | with_reducible refine Below.setCell ?_ (by first | omega | (dsimp only; omega) | (simp <;> omega)) _ | with_reducible refine Below.trans ?_ (Below.mono (by assumption) (by first | omega | (simp <;> omega)))))) (by simp [go_sem]) (by simp [go_sem])).mono ?_; rintro e w3 ⟨rfl, hb3⟩; have hs3 := hb3.size; (simp at hs3))
  go_ret
  refine ⟨by simp, ?_⟩
  repeat' (first | with_reducible exact Below.refl _ _ | with_reducible refine Below.drew ?_ | with_reducible refine below_drewN ?_ _ | with_reducible refine Below.alloc ?_ (by first | omega | (simp <;> omega)) _ | with_reducible refine Below.setCell ?_ (by first | omega | (dsimp only; omega) | (simp <;> omega)) _ | with_reducible refine Below.trans ?_ (Below.mono (by assumption) (by first | omega | (simp <;> omega))))

set_option maxHeartbeats 1000000 in
theorem alike1_p (pn : Option Addr) (n cn : Nat) (bb : Nat) (B : Nat) (p0 p1 p2 : Option Addr) (n0 n1 n2 c0 c1 c2 : Nat) (w : World) (hb : w.cell? ⟨bb, 0, none⟩ = some (.slice (some ⟨B, 0, none⟩) 3 3)) (h0 : w.cell? ⟨B, 0, none⟩ = some (.slice p0 n0 c0)) (h1 : w.cell? ⟨B, 1, none⟩ = some (.slice p1 n1 c1)) (h2 : w.cell? ⟨B, 2, none⟩ = some (.slice p2 n2 c2)) :
    Calls Tryd.prog 100 #[.slice pn n cn, .pointer (some ⟨bb, 0, none⟩)] w fun e w' => e = .returned (.bool (!decide (n = n0))) ∧ Below w.heap.size w w' := by
  go_enter Tryd.func100, Tryd.ntmps100
  go_wp2
  go_ret
  have e1 : ((n : Int) != (n0 : Int)) = !decide (n = n0) := by
    by_cases h : n = n0
    · rw [h]; simp
    · have : (n : Int) ≠ (n0 : Int) := by omega
      simp [h, this]
  refine ⟨?_, Below.refl _ _⟩
  show Ending.returned (.bool ((n : Int) != (n0 : Int))) = _
  rw [e1]
set_option maxRecDepth 100000 in
set_option maxHeartbeats 4000000 in
theorem indexS_p (bb : Nat) (B : Nat) (p0 p1 p2 : Option Addr) (n0 n1 n2 c0 c1 c2 : Nat) (w : World) (hb : w.cell? ⟨bb, 0, none⟩ = some (.slice (some ⟨B, 0, none⟩) 3 3)) (h0 : w.cell? ⟨B, 0, none⟩ = some (.slice p0 n0 c0)) (h1 : w.cell? ⟨B, 1, none⟩ = some (.slice p1 n1 c1)) (h2 : w.cell? ⟨B, 2, none⟩ = some (.slice p2 n2 c2)) :
    Calls Tryd.prog 116 #[.slice (some ⟨B, 0, none⟩) 3 3, .func (.func 100) #[] #[.pointer (some ⟨bb, 0, none⟩)]] w fun e w' => ∃ r : Int, e = .returned (.int .i64 r) ∧ decide (0 ≤ r) = (!(decide (n1 = n0) && decide (n2 = n0))) ∧ Below w.heap.size w w' := by
  have lb := World.block_lt_of_cell? w ⟨bb, 0, none⟩ hb
  have lB := World.block_lt_of_cell? w ⟨B, 0, none⟩ h0
  dsimp only at lb lB
  have q0 := fun w hb h0 h1 h2 => alike1_p p0 n0 c0 bb B p0 p1 p2 n0 n1 n2 c0 c1 c2 w hb h0 h1 h2
  have q1 := fun w hb h0 h1 h2 => alike1_p p1 n1 c1 bb B p0 p1 p2 n0 n1 n2 c0 c1 c2 w hb h0 h1 h2
  have q2 := fun w hb h0 h1 h2 => alike1_p p2 n2 c2 bb B p0 p1 p2 n0 n1 n2 c0 c1 c2 w hb h0 h1 h2
  rw [decide_eq_true (rfl : n0 = n0)] at q0
  obtain ⟨d1, e1⟩ : ∃ d, decide (n1 = n0) = d := ⟨_, rfl⟩
  obtain ⟨d2, e2⟩ : ∃ d, decide (n2 = n0) = d := ⟨_, rfl⟩
  rw [e1, e2]
  rw [e1] at q1
  rw [e2] at q2
  clear e1 e2
  go_enter Tryd.func116, Tryd.ntmps116
  go_wp2
  cases d1
  · (refine wp_loop_rounds 4 ?_; rw [rounds_succ]; go_wp2_with (first | (go_at_call 100; (with_reducible refine (q0 _ hb h0 h1 h2).mono ?_); rintro e w3 ⟨rfl, hb3⟩; have hs_w3 := hb3.size; have xb := (hb3.cell (p := ⟨bb, 0, none⟩) lb).trans hb; have x0 := (hb3.cell (p := ⟨B, 0, none⟩) lB).trans h0; have x1 := (hb3.cell (p := ⟨B, 1, none⟩) lB).trans h1; have x2 := (hb3.cell (p := ⟨B, 2, none⟩) lB).trans h2; have lxb : bb < w3.heap.size := (by omega); have lxB : B < w3.heap.size := (by omega)) | (go_at_call 100; (with_reducible refine (q1 _ xb x0 x1 x2).mono ?_); rintro e w4 ⟨rfl, hb4⟩; have hs_w4 := hb4.size; have yb := (hb4.cell (p := ⟨bb, 0, none⟩) lxb).trans xb; have y0 := (hb4.cell (p := ⟨B, 0, none⟩) lxB).trans x0; have y1 := (hb4.cell (p := ⟨B, 1, none⟩) lxB).trans x1; have y2 := (hb4.cell (p := ⟨B, 2, none⟩) lxB).trans x2; have lyb : bb < w4.heap.size := (by omega); have lyB : B < w4.heap.size := (by omega)) | (go_at_call 100; (with_reducible refine (q2 _ yb y0 y1 y2).mono ?_); rintro e w5 ⟨rfl, hb5⟩; have hs_w5 := hb5.size; have zb := (hb5.cell (p := ⟨bb, 0, none⟩) lyb).trans yb; have z0 := (hb5.cell (p := ⟨B, 0, none⟩) lyB).trans y0; have z1 := (hb5.cell (p := ⟨B, 1, none⟩) lyB).trans y1; have z2 := (hb5.cell (p := ⟨B, 2, none⟩) lyB).trans y2; have lzb : bb < w5.heap.size := (by omega); have lzB : B < w5.heap.size := (by omega))))
    (rw [rounds_succ]; go_wp2_with (first | (go_at_call 100; (with_reducible refine (q0 _ hb h0 h1 h2).mono ?_); rintro e w3 ⟨rfl, hb3⟩; have hs_w3 := hb3.size; have xb := (hb3.cell (p := ⟨bb, 0, none⟩) lb).trans hb; have x0 := (hb3.cell (p := ⟨B, 0, none⟩) lB).trans h0; have x1 := (hb3.cell (p := ⟨B, 1, none⟩) lB).trans h1; have x2 := (hb3.cell (p := ⟨B, 2, none⟩) lB).trans h2; have lxb : bb < w3.heap.size := (by omega); have lxB : B < w3.heap.size := (by omega)) | (go_at_call 100; (with_reducible refine (q1 _ xb x0 x1 x2).mono ?_); rintro e w4 ⟨rfl, hb4⟩; have hs_w4 := hb4.size; have yb := (hb4.cell (p := ⟨bb, 0, none⟩) lxb).trans xb; have y0 := (hb4.cell (p := ⟨B, 0, none⟩) lxB).trans x0; have y1 := (hb4.cell (p := ⟨B, 1, none⟩) lxB).trans x1; have y2 := (hb4.cell (p := ⟨B, 2, none⟩) lxB).trans x2; have lyb : bb < w4.heap.size := (by omega); have lyB : B < w4.heap.size := (by omega)) | (go_at_call 100; (with_reducible refine (q2 _ yb y0 y1 y2).mono ?_); rintro e w5 ⟨rfl, hb5⟩; have hs_w5 := hb5.size; have zb := (hb5.cell (p := ⟨bb, 0, none⟩) lyb).trans yb; have z0 := (hb5.cell (p := ⟨B, 0, none⟩) lyB).trans y0; have z1 := (hb5.cell (p := ⟨B, 1, none⟩) lyB).trans y1; have z2 := (hb5.cell (p := ⟨B, 2, none⟩) lyB).trans y2; have lzb : bb < w5.heap.size := (by omega); have lzB : B < w5.heap.size := (by omega))))
    go_light
    refine bodyPost_ret (v := .int .i64 1) (by simp [results, Tryd.results116, go_sem, *]) rfl ⟨_, rfl, rfl, ?_⟩
    repeat' (first | with_reducible exact Below.refl _ _ | with_reducible refine Below.drew ?_ | with_reducible refine below_drewN ?_ _ | with_reducible refine Below.alloc ?_ (by first | omega | (simp <;> omega)) _ | with_reducible refine Below.setCell ?_ (by first | omega | (dsimp only; omega) | (simp <;> omega)) _ | with_reducible refine Below.trans ?_ (Below.mono (by assumption) (by first | omega | (simp <;> omega))))
  · cases d2
    · (refine wp_loop_rounds 4 ?_; rw [rounds_succ]; go_wp2_with (first | (go_at_call 100; (with_reducible refine (q0 _ hb h0 h1 h2).mono ?_); rintro e w3 ⟨rfl, hb3⟩; have hs_w3 := hb3.size; have xb := (hb3.cell (p := ⟨bb, 0, none⟩) lb).trans hb; have x0 := (hb3.cell (p := ⟨B, 0, none⟩) lB).trans h0; have x1 := (hb3.cell (p := ⟨B, 1, none⟩) lB).trans h1; have x2 := (hb3.cell (p := ⟨B, 2, none⟩) lB).trans h2; have lxb : bb < w3.heap.size := (by omega); have lxB : B < w3.heap.size := (by omega)) | (go_at_call 100; (with_reducible refine (q1 _ xb x0 x1 x2).mono ?_); rintro e w4 ⟨rfl, hb4⟩; have hs_w4 := hb4.size; have yb := (hb4.cell (p := ⟨bb, 0, none⟩) lxb).trans xb; have y0 := (hb4.cell (p := ⟨B, 0, none⟩) lxB).trans x0; have y1 := (hb4.cell (p := ⟨B, 1, none⟩) lxB).trans x1; have y2 := (hb4.cell (p := ⟨B, 2, none⟩) lxB).trans x2; have lyb : bb < w4.heap.size := (by omega); have lyB : B < w4.heap.size := (by omega)) | (go_at_call 100; (with_reducible refine (q2 _ yb y0 y1 y2).mono ?_); rintro e w5 ⟨rfl, hb5⟩; have hs_w5 := hb5.size; have zb := (hb5.cell (p := ⟨bb, 0, none⟩) lyb).trans yb; have z0 := (hb5.cell (p := ⟨B, 0, none⟩) lyB).trans y0; have z1 := (hb5.cell (p := ⟨B, 1, none⟩) lyB).trans y1; have z2 := (hb5.cell (p := ⟨B, 2, none⟩) lyB).trans y2; have lzb : bb < w5.heap.size := (by omega); have lzB : B < w5.heap.size := (by omega))))
      (rw [rounds_succ]; go_wp2_with (first | (go_at_call 100; (with_reducible refine (q0 _ hb h0 h1 h2).mono ?_); rintro e w3 ⟨rfl, hb3⟩; have hs_w3 := hb3.size; have xb := (hb3.cell (p := ⟨bb, 0, none⟩) lb).trans hb; have x0 := (hb3.cell (p := ⟨B, 0, none⟩) lB).trans h0; have x1 := (hb3.cell (p := ⟨B, 1, none⟩) lB).trans h1; have x2 := (hb3.cell (p := ⟨B, 2, none⟩) lB).trans h2; have lxb : bb < w3.heap.size := (by omega); have lxB : B < w3.heap.size := (by omega)) | (go_at_call 100; (with_reducible refine (q1 _ xb x0 x1 x2).mono ?_); rintro e w4 ⟨rfl, hb4⟩; have hs_w4 := hb4.size; have yb := (hb4.cell (p := ⟨bb, 0, none⟩) lxb).trans xb; have y0 := (hb4.cell (p := ⟨B, 0, none⟩) lxB).trans x0; have y1 := (hb4.cell (p := ⟨B, 1, none⟩) lxB).trans x1; have y2 := (hb4.cell (p := ⟨B, 2, none⟩) lxB).trans x2; have lyb : bb < w4.heap.size := (by omega); have lyB : B < w4.heap.size := (by omega)) | (go_at_call 100; (with_reducible refine (q2 _ yb y0 y1 y2).mono ?_); rintro e w5 ⟨rfl, hb5⟩; have hs_w5 := hb5.size; have zb := (hb5.cell (p := ⟨bb, 0, none⟩) lyb).trans yb; have z0 := (hb5.cell (p := ⟨B, 0, none⟩) lyB).trans y0; have z1 := (hb5.cell (p := ⟨B, 1, none⟩) lyB).trans y1; have z2 := (hb5.cell (p := ⟨B, 2, none⟩) lyB).trans y2; have lzb : bb < w5.heap.size := (by omega); have lzB : B < w5.heap.size := (by omega))))
      (rw [rounds_succ]; go_wp2_with (first | (go_at_call 100; (with_reducible refine (q0 _ hb h0 h1 h2).mono ?_); rintro e w3 ⟨rfl, hb3⟩; have hs_w3 := hb3.size; have xb := (hb3.cell (p := ⟨bb, 0, none⟩) lb).trans hb; have x0 := (hb3.cell (p := ⟨B, 0, none⟩) lB).trans h0; have x1 := (hb3.cell (p := ⟨B, 1, none⟩) lB).trans h1; have x2 := (hb3.cell (p := ⟨B, 2, none⟩) lB).trans h2; have lxb : bb < w3.heap.size := (by omega); have lxB : B < w3.heap.size := (by omega)) | (go_at_call 100; (with_reducible refine (q1 _ xb x0 x1 x2).mono ?_); rintro e w4 ⟨rfl, hb4⟩; have hs_w4 := hb4.size; have yb := (hb4.cell (p := ⟨bb, 0, none⟩) lxb).trans xb; have y0 := (hb4.cell (p := ⟨B, 0, none⟩) lxB).trans x0; have y1 := (hb4.cell (p := ⟨B, 1, none⟩) lxB).trans x1; have y2 := (hb4.cell (p := ⟨B, 2, none⟩) lxB).trans x2; have lyb : bb < w4.heap.size := (by omega); have lyB : B < w4.heap.size := (by omega)) | (go_at_call 100; (with_reducible refine (q2 _ yb y0 y1 y2).mono ?_); rintro e w5 ⟨rfl, hb5⟩; have hs_w5 := hb5.size; have zb := (hb5.cell (p := ⟨bb, 0, none⟩) lyb).trans yb; have z0 := (hb5.cell (p := ⟨B, 0, none⟩) lyB).trans y0; have z1 := (hb5.cell (p := ⟨B, 1, none⟩) lyB).trans y1; have z2 := (hb5.cell (p := ⟨B, 2, none⟩) lyB).trans y2; have lzb : bb < w5.heap.size := (by omega); have lzB : B < w5.heap.size := (by omega))))
      go_light
      refine bodyPost_ret (v := .int .i64 2) (by simp [results, Tryd.results116, go_sem, *]) rfl ⟨_, rfl, rfl, ?_⟩
      repeat' (first | with_reducible exact Below.refl _ _ | with_reducible refine Below.drew ?_ | with_reducible refine below_drewN ?_ _ | with_reducible refine Below.alloc ?_ (by first | omega | (simp <;> omega)) _ | with_reducible refine Below.setCell ?_ (by first | omega | (dsimp only; omega) | (simp <;> omega)) _ | with_reducible refine Below.trans ?_ (Below.mono (by assumption) (by first | omega | (simp <;> omega))))
    · (refine wp_loop_rounds 4 ?_; rw [rounds_succ]; go_wp2_with (first | (go_at_call 100; (with_reducible refine (q0 _ hb h0 h1 h2).mono ?_); rintro e w3 ⟨rfl, hb3⟩; have hs_w3 := hb3.size; have xb := (hb3.cell (p := ⟨bb, 0, none⟩) lb).trans hb; have x0 := (hb3.cell (p := ⟨B, 0, none⟩) lB).trans h0; have x1 := (hb3.cell (p := ⟨B, 1, none⟩) lB).trans h1; have x2 := (hb3.cell (p := ⟨B, 2, none⟩) lB).trans h2; have lxb : bb < w3.heap.size := (by omega); have lxB : B < w3.heap.size := (by omega)) | (go_at_call 100; (with_reducible refine (q1 _ xb x0 x1 x2).mono ?_); rintro e w4 ⟨rfl, hb4⟩; have hs_w4 := hb4.size; have yb := (hb4.cell (p := ⟨bb, 0, none⟩) lxb).trans xb; have y0 := (hb4.cell (p := ⟨B, 0, none⟩) lxB).trans x0; have y1 := (hb4.cell (p := ⟨B, 1, none⟩) lxB).trans x1; have y2 := (hb4.cell (p := ⟨B, 2, none⟩) lxB).trans x2; have lyb : bb < w4.heap.size := (by omega); have lyB : B < w4.heap.size := (by omega)) | (go_at_call 100; (with_reducible refine (q2 _ yb y0 y1 y2).mono ?_); rintro e w5 ⟨rfl, hb5⟩; have hs_w5 := hb5.size; have zb := (hb5.cell (p := ⟨bb, 0, none⟩) lyb).trans yb; have z0 := (hb5.cell (p := ⟨B, 0, none⟩) lyB).trans y0; have z1 := (hb5.cell (p := ⟨B, 1, none⟩) lyB).trans y1; have z2 := (hb5.cell (p := ⟨B, 2, none⟩) lyB).trans y2; have lzb : bb < w5.heap.size := (by omega); have lzB : B < w5.heap.size := (by omega))))
      (rw [rounds_succ]; go_wp2_with (first | (go_at_call 100; (with_reducible refine (q0 _ hb h0 h1 h2).mono ?_); rintro e w3 ⟨rfl, hb3⟩; have hs_w3 := hb3.size; have xb := (hb3.cell (p := ⟨bb, 0, none⟩) lb).trans hb; have x0 := (hb3.cell (p := ⟨B, 0, none⟩) lB).trans h0; have x1 := (hb3.cell (p := ⟨B, 1, none⟩) lB).trans h1; have x2 := (hb3.cell (p := ⟨B, 2, none⟩) lB).trans h2; have lxb : bb < w3.heap.size := (by omega); have lxB : B < w3.heap.size := (by omega)) | (go_at_call 100; (with_reducible refine (q1 _ xb x0 x1 x2).mono ?_); rintro e w4 ⟨rfl, hb4⟩; have hs_w4 := hb4.size; have yb := (hb4.cell (p := ⟨bb, 0, none⟩) lxb).trans xb; have y0 := (hb4.cell (p := ⟨B, 0, none⟩) lxB).trans x0; have y1 := (hb4.cell (p := ⟨B, 1, none⟩) lxB).trans x1; have y2 := (hb4.cell (p := ⟨B, 2, none⟩) lxB).trans x2; have lyb : bb < w4.heap.size := (by omega); have lyB : B < w4.heap.size := (by omega)) | (go_at_call 100; (with_reducible refine (q2 _ yb y0 y1 y2).mono ?_); rintro e w5 ⟨rfl, hb5⟩; have hs_w5 := hb5.size; have zb := (hb5.cell (p := ⟨bb, 0, none⟩) lyb).trans yb; have z0 := (hb5.cell (p := ⟨B, 0, none⟩) lyB).trans y0; have z1 := (hb5.cell (p := ⟨B, 1, none⟩) lyB).trans y1; have z2 := (hb5.cell (p := ⟨B, 2, none⟩) lyB).trans y2; have lzb : bb < w5.heap.size := (by omega); have lzB : B < w5.heap.size := (by omega))))
      (rw [rounds_succ]; go_wp2_with (first | (go_at_call 100; (with_reducible refine (q0 _ hb h0 h1 h2).mono ?_); rintro e w3 ⟨rfl, hb3⟩; have hs_w3 := hb3.size; have xb := (hb3.cell (p := ⟨bb, 0, none⟩) lb).trans hb; have x0 := (hb3.cell (p := ⟨B, 0, none⟩) lB).trans h0; have x1 := (hb3.cell (p := ⟨B, 1, none⟩) lB).trans h1; have x2 := (hb3.cell (p := ⟨B, 2, none⟩) lB).trans h2; have lxb : bb < w3.heap.size := (by omega); have lxB : B < w3.heap.size := (by omega)) | (go_at_call 100; (with_reducible refine (q1 _ xb x0 x1 x2).mono ?_); rintro e w4 ⟨rfl, hb4⟩; have hs_w4 := hb4.size; have yb := (hb4.cell (p := ⟨bb, 0, none⟩) lxb).trans xb; have y0 := (hb4.cell (p := ⟨B, 0, none⟩) lxB).trans x0; have y1 := (hb4.cell (p := ⟨B, 1, none⟩) lxB).trans x1; have y2 := (hb4.cell (p := ⟨B, 2, none⟩) lxB).trans x2; have lyb : bb < w4.heap.size := (by omega); have lyB : B < w4.heap.size := (by omega)) | (go_at_call 100; (with_reducible refine (q2 _ yb y0 y1 y2).mono ?_); rintro e w5 ⟨rfl, hb5⟩; have hs_w5 := hb5.size; have zb := (hb5.cell (p := ⟨bb, 0, none⟩) lyb).trans yb; have z0 := (hb5.cell (p := ⟨B, 0, none⟩) lyB).trans y0; have z1 := (hb5.cell (p := ⟨B, 1, none⟩) lyB).trans y1; have z2 := (hb5.cell (p := ⟨B, 2, none⟩) lyB).trans y2; have lzb : bb < w5.heap.size := (by omega); have lzB : B < w5.heap.size := (by omega))))
      (rw [rounds_succ]; go_wp2_with (first | (go_at_call 100; (with_reducible refine (q0 _ hb h0 h1 h2).mono ?_); rintro e w3 ⟨rfl, hb3⟩; have hs_w3 := hb3.size; have xb := (hb3.cell (p := ⟨bb, 0, none⟩) lb).trans hb; have x0 := (hb3.cell (p := ⟨B, 0, none⟩) lB).trans h0; have x1 := (hb3.cell (p := ⟨B, 1, none⟩) lB).trans h1; have x2 := (hb3.cell (p := ⟨B, 2, none⟩) lB).trans h2; have lxb : bb < w3.heap.size := (by omega); have lxB : B < w3.heap.size := (by omega)) | (go_at_call 100; (with_reducible refine (q1 _ xb x0 x1 x2).mono ?_); rintro e w4 ⟨rfl, hb4⟩; have hs_w4 := hb4.size; have yb := (hb4.cell (p := ⟨bb, 0, none⟩) lxb).trans xb; have y0 := (hb4.cell (p := ⟨B, 0, none⟩) lxB).trans x0; have y1 := (hb4.cell (p := ⟨B, 1, none⟩) lxB).trans x1; have y2 := (hb4.cell (p := ⟨B, 2, none⟩) lxB).trans x2; have lyb : bb < w4.heap.size := (by omega); have lyB : B < w4.heap.size := (by omega)) | (go_at_call 100; (with_reducible refine (q2 _ yb y0 y1 y2).mono ?_); rintro e w5 ⟨rfl, hb5⟩; have hs_w5 := hb5.size; have zb := (hb5.cell (p := ⟨bb, 0, none⟩) lyb).trans yb; have z0 := (hb5.cell (p := ⟨B, 0, none⟩) lyB).trans y0; have z1 := (hb5.cell (p := ⟨B, 1, none⟩) lyB).trans y1; have z2 := (hb5.cell (p := ⟨B, 2, none⟩) lyB).trans y2; have lzb : bb < w5.heap.size := (by omega); have lzB : B < w5.heap.size := (by omega))))
      go_light
      refine bodyPost_ret (v := .int .i64 (-1)) (by simp [results, Tryd.results116, go_sem, *]) rfl ⟨_, rfl, rfl, ?_⟩
      repeat' (first | with_reducible exact Below.refl _ _ | with_reducible refine Below.drew ?_ | with_reducible refine below_drewN ?_ _ | with_reducible refine Below.alloc ?_ (by first | omega | (simp <;> omega)) _ | with_reducible refine Below.setCell ?_ (by first | omega | (dsimp only; omega) | (simp <;> omega)) _ | with_reducible refine Below.trans ?_ (Below.mono (by assumption) (by first | omega | (simp <;> omega))))
set_option maxRecDepth 100000 in
set_option maxHeartbeats 1000000 in
theorem containsS_p (bb : Nat) (B : Nat) (p0 p1 p2 : Option Addr) (n0 n1 n2 c0 c1 c2 : Nat) (w : World) (hb : w.cell? ⟨bb, 0, none⟩ = some (.slice (some ⟨B, 0, none⟩) 3 3)) (h0 : w.cell? ⟨B, 0, none⟩ = some (.slice p0 n0 c0)) (h1 : w.cell? ⟨B, 1, none⟩ = some (.slice p1 n1 c1)) (h2 : w.cell? ⟨B, 2, none⟩ = some (.slice p2 n2 c2)) :
    Calls Tryd.prog 99 #[.slice (some ⟨B, 0, none⟩) 3 3, .func (.func 100) #[] #[.pointer (some ⟨bb, 0, none⟩)]] w fun e w' => e = .returned (.bool (!(decide (n1 = n0) && decide (n2 = n0)))) ∧ Below w.heap.size w w' := by
  have qI := fun w hb h0 h1 h2 => indexS_p bb B p0 p1 p2 n0 n1 n2 c0 c1 c2 w hb h0 h1 h2
  generalize (!(decide (n1 = n0) && decide (n2 = n0))) = d at qI ⊢
  go_enter Tryd.func99, Tryd.ntmps99
  go_wp2_with (go_at_call 116; refine (qI _ hb h0 h1 h2).mono ?_; rintro e w3 ⟨r, rfl, hr, hb3⟩; have hs3 := hb3.size)
  go_ret
  exact ⟨rfl, hb3⟩
set_option maxRecDepth 100000 in
set_option maxHeartbeats 1000000 in
theorem alike_p (B : Nat) (p0 p1 p2 : Option Addr) (n0 n1 n2 c0 c1 c2 : Nat) (w : World) (h0 : w.cell? ⟨B, 0, none⟩ = some (.slice p0 n0 c0)) (h1 : w.cell? ⟨B, 1, none⟩ = some (.slice p1 n1 c1)) (h2 : w.cell? ⟨B, 2, none⟩ = some (.slice p2 n2 c2)) :
    Calls Tryd.prog 72 #[.slice (some ⟨B, 0, none⟩) 3 3] w fun e w' => e = .returned (.bool (decide (n1 = n0) && decide (n2 = n0))) ∧ Below w.heap.size w w' := by
  have qI := fun bb w hb h0 h1 h2 => containsS_p bb B p0 p1 p2 n0 n1 n2 c0 c1 c2 w hb h0 h1 h2
  generalize (decide (n1 = n0) && decide (n2 = n0)) = d at qI ⊢
  have lB := World.block_lt_of_cell? w ⟨B, 0, none⟩ h0
  dsimp only at lB
  have X := (Below.refl _ w).alloc (Nat.le_refl _) (.cells #[.slice (some ⟨B, 0, none⟩) 3 3] 122)
  go_enter Tryd.func72, Tryd.ntmps72
  go_wp2_with (go_at_call 99; refine (qI _ _ (by simp [go_sem]) ((X.cell (p := ⟨B, 0, none⟩) lB).trans h0) ((X.cell (p := ⟨B, 1, none⟩) lB).trans h1) ((X.cell (p := ⟨B, 2, none⟩) lB).trans h2)).mono ?_; rintro e w3 ⟨rfl, hb3⟩; have hs3 := hb3.size; (simp at hs3))
  go_ret
  refine ⟨by simp, ?_⟩
  repeat' (first | with_reducible exact Below.refl _ _ | with_reducible refine Below.drew ?_ | with_reducible refine below_drewN ?_ _ | with_reducible refine Below.alloc ?_ (by first | omega | (simp <;> omega)) _ | with_reducible refine Below.setCell ?_ (by first | omega | (dsimp only; omega) | (simp <;> omega)) _ | with_reducible refine Below.trans ?_ (Below.mono (by assumption) (by first | omega | (simp <;> omega))))
end Go.Proofs.YtmblpmaelglnpaaDoor
