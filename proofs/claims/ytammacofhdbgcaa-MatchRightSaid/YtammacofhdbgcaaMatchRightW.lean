/-
  MatchRight, walked.
-/
import Derived.Test.YtammacofhdbgcaaRows
import Derived.Test.YtammacofhdbgcaaMatchDeeperW
import Derived.Test.YtammacofhdbgcaaCommon
import Derived.Deep.Light
import Derived.Shelf.Abstract
import Derived.Shelf.RegionOpen
import Derived.OwnWalkIn
import Derived.TacticsInMore
import Derived.LoopNIn
import Derived.LoopIn
import Derived.Outline
import Derived.Deep.RegionHeld3
import Derived.IntWalk
namespace Go.Proofs.Ytammacofhdbgcaa
open Go.RowKit
set_option linter.unusedSimpArgs false
set_option linter.unusedVariables false
open Go.Shelf
attribute [local go_sem] eq32 Oper.semAt_some

/-- What is said of the i-th match. -/
def RightAt (s : ByteArray) (p e a b c li : Int) (m : Int × Int × Int × Int) : Prop :=
  (Rask a b c m.2.2.1 li).1 = m.1 ∧ (Rask a b c m.2.2.1 li).2.2 = 0 ∧ Rgain m.2.1 m.2.2.1 = (m.2.2.2, 0) ∧ mchk s p e 10 m.1 m.2.1 = 0
theorem right_at (s : ByteArray) (p e d : Nat) (a b c li : Int) (hs : s.size ≤ 1048576) (hp : p ≤ e) (he : e ≤ s.size) (hc : chkL true [a, b, c] = 0) (hl : 0 ≤ li) (i : Nat) (hi : i < (cands s p e 10 d).length) :
    RightAt s p e a b c li ((mofs s p e a b c li (cands s p e 10 d)).getD i (0, 0, 0, 0)) := by
  have hw : wchk s.size p e 10 = 0 := wchk_0 (by omega) ⟨by omega, by omega, by omega, by omega, by omega⟩
  rw [mofs_get _ _ _ _ _ _ _ _ _ hi]
  obtain ⟨h1, h2, h3, h4⟩ := cands_mem s p e 10 d _ (getD_mem _ i 0 hi)
  generalize (cands s p e 10 d).getD i 0 = q at h1 h2 h3 h4
  obtain ⟨v, y, z, g1, g2, g3, g4, _⟩ := rval_first (a := a) (b := b) (c := c) (d := (p : Int) - (q : Int)) (l := li) hc (by omega) (by omega) hl
  have hcm := cmn_le s (e - p) q p
  have hmc := mchk_ok s p e q 10 hw h1 h2 h3 h4
  unfold RightAt mof
  simp only [g1]
  refine ⟨by rw [g2], by rw [g2], ?_, hmc⟩
  unfold Rgain
  rw [if_neg (by omega)]
/-- How often the best has come. -/
def bsf (k j : Nat) : Int := if j ≤ k then 0 else 1
theorem bsf_same (k : Nat) : bsf k (k + 1) = bsf k k + 1 := by unfold bsf; rw [if_neg (by omega), if_pos (by omega)]; rfl
theorem bsf_other (k j : Nat) (h : j ≠ k) : bsf k (j + 1) = bsf k j := by
  unfold bsf
  by_cases h1 : j < k
  · rw [if_pos (by omega), if_pos (by omega)]
  · rw [if_neg (by omega), if_neg (by omega)]

set_option maxRecDepth 100000 in
set_option maxHeartbeats 8000000 in
theorem matchRight_t (pn : Option Addr) (xs : List Int) (cn : Nat) (at_ dp n : Int) (w : World) (hn : Row .i64 w pn xs) (hl : xs.length ≤ 9223372036854775807) :
    Calls Try.prog 8 #[.slice pn xs.length cn, .int .i64 at_, .int .i64 dp, .int .i64 n] w fun e' w' => e' = .returned (.bool true) ∧ Below w.heap.size w w' := by
  go_enter Try.func8, Try.ntmps8
  go_wp2_with ((go_at_call 21; refine (view_k pn xs cn at_ dp n _ hn hl).mono ?_; rintro e w1 ⟨s, p, d, a, b, c, li, hs, hp, hd1, hd2, hch, hli0, hli2, rfl, hb1⟩; have hz1 := hb1.size))
  have hA1 := view_all s p s.size d a b c li (by omega) hp (Nat.le_refl _) hd1 (by omega) hch hli0
  have hra := right_at s p s.size d a b c li (by omega) hp (Nat.le_refl _) hch hli0
  have hbe := best_all s p s.size a b c li 10 d
  have hrs := mofs_rising s p s.size a b c li 10 d
  have hln := cands_len s p s.size 10 d
  have hml := mofs_len s p s.size a b c li (cands s p s.size 10 d)
  have hR : Rat s p s.size 10 d a b c li = (mbZ (mofs s p s.size a b c li (cands s p s.size 10 d)) (mofs s p s.size a b c li (cands s p s.size 10 d)).length, decide (0 < (mofs s p s.size a b c li (cands s p s.size 10 d)).length), 0) := by
    unfold Rat
    rw [hA1, if_pos rfl]
  rw [← hml] at hra hbe hln
  generalize mofs s p s.size a b c li (cands s p s.size 10 d) = ms at hA1 hra hbe hrs hln hR
  clear hml
  have qA1 := fun w => alls_k s p s.size 10 d a b c li ms w (by omega) hA1
  have qT := fun w => mat_p s p s.size 10 d a b c li w (by omega)
  rw [hR] at qT
  dsimp only at qT
  have HCH := Lib.hid hch
  have HRA := Lib.hid hra
  have HRS := Lib.hid hrs
  clear hA1 hR hra hrs hch
  have v0 : (w1.alloc (.cells #[.string s, .int .i64 (p : Int), .int .i64 (s.size : Int), .int .i64 10, .int .i64 (d : Int), .int .i64 a, .int .i64 b, .int .i64 c, .int .i64 li] 25)).cell? ⟨w1.heap.size, 0, none⟩ = some (.string s) := by simp [go_sem]
  have v1 : (w1.alloc (.cells #[.string s, .int .i64 (p : Int), .int .i64 (s.size : Int), .int .i64 10, .int .i64 (d : Int), .int .i64 a, .int .i64 b, .int .i64 c, .int .i64 li] 25)).cell? ⟨w1.heap.size, 1, none⟩ = some (.int .i64 (p : Int)) := by simp [go_sem]
  have v2 : (w1.alloc (.cells #[.string s, .int .i64 (p : Int), .int .i64 (s.size : Int), .int .i64 10, .int .i64 (d : Int), .int .i64 a, .int .i64 b, .int .i64 c, .int .i64 li] 25)).cell? ⟨w1.heap.size, 2, none⟩ = some (.int .i64 (s.size : Int)) := by simp [go_sem]
  have v3 : (w1.alloc (.cells #[.string s, .int .i64 (p : Int), .int .i64 (s.size : Int), .int .i64 10, .int .i64 (d : Int), .int .i64 a, .int .i64 b, .int .i64 c, .int .i64 li] 25)).cell? ⟨w1.heap.size, 3, none⟩ = some (.int .i64 10) := by simp [go_sem]
  have v4 : (w1.alloc (.cells #[.string s, .int .i64 (p : Int), .int .i64 (s.size : Int), .int .i64 10, .int .i64 (d : Int), .int .i64 a, .int .i64 b, .int .i64 c, .int .i64 li] 25)).cell? ⟨w1.heap.size, 4, none⟩ = some (.int .i64 (d : Int)) := by simp [go_sem]
  have v5 : (w1.alloc (.cells #[.string s, .int .i64 (p : Int), .int .i64 (s.size : Int), .int .i64 10, .int .i64 (d : Int), .int .i64 a, .int .i64 b, .int .i64 c, .int .i64 li] 25)).cell? ⟨w1.heap.size, 5, none⟩ = some (.int .i64 a) := by simp [go_sem]
  have v6 : (w1.alloc (.cells #[.string s, .int .i64 (p : Int), .int .i64 (s.size : Int), .int .i64 10, .int .i64 (d : Int), .int .i64 a, .int .i64 b, .int .i64 c, .int .i64 li] 25)).cell? ⟨w1.heap.size, 6, none⟩ = some (.int .i64 b) := by simp [go_sem]
  have v7 : (w1.alloc (.cells #[.string s, .int .i64 (p : Int), .int .i64 (s.size : Int), .int .i64 10, .int .i64 (d : Int), .int .i64 a, .int .i64 b, .int .i64 c, .int .i64 li] 25)).cell? ⟨w1.heap.size, 7, none⟩ = some (.int .i64 c) := by simp [go_sem]
  have v8 : (w1.alloc (.cells #[.string s, .int .i64 (p : Int), .int .i64 (s.size : Int), .int .i64 10, .int .i64 (d : Int), .int .i64 a, .int .i64 b, .int .i64 c, .int .i64 li] 25)).cell? ⟨w1.heap.size, 8, none⟩ = some (.int .i64 li) := by simp [go_sem]
  by_cases h0 : ms.length = 0
  · have hz : mbZ ms ms.length = (0, 0, 0, 0) := by unfold mbZ; rw [if_pos h0]
    rw [hz, h0] at qT
    dsimp only at qT
    have qT' : ∀ w, Calls Try.prog 18 #[.string s, .int .i64 (p : Int), .int .i64 (s.size : Int), .int .i64 10, .int .i64 (d : Int), .agg #[.int .i64 a, .int .i64 b, .int .i64 c], .int .i64 li] w fun en w' => en = .returned (.tuple #[.agg #[.int .i64 0, .int .i64 0, .int .i64 0, .int .i64 0], .bool false, .int .i64 0]) ∧ Below w.heap.size w w' := qT
    clear qT hz hbe
    go_wp2_with (first | (go_at_call 23; (with_reducible refine (qA1 _).mono ?_); rintro e w2 ⟨pa, ca, hca, rfl, hoa, hrA, hb2⟩; have hz2 := hb2.size; (simp at hz2); have u0 : w2.cell? ⟨w1.heap.size, 0, none⟩ = some (.string s) := (hb2.cell (p := ⟨w1.heap.size, 0, none⟩) (by simp)).trans v0; have u1 : w2.cell? ⟨w1.heap.size, 1, none⟩ = some (.int .i64 (p : Int)) := (hb2.cell (p := ⟨w1.heap.size, 1, none⟩) (by simp)).trans v1; have u2 : w2.cell? ⟨w1.heap.size, 2, none⟩ = some (.int .i64 (s.size : Int)) := (hb2.cell (p := ⟨w1.heap.size, 2, none⟩) (by simp)).trans v2; have u3 : w2.cell? ⟨w1.heap.size, 3, none⟩ = some (.int .i64 10) := (hb2.cell (p := ⟨w1.heap.size, 3, none⟩) (by simp)).trans v3; have u4 : w2.cell? ⟨w1.heap.size, 4, none⟩ = some (.int .i64 (d : Int)) := (hb2.cell (p := ⟨w1.heap.size, 4, none⟩) (by simp)).trans v4; have u5 : w2.cell? ⟨w1.heap.size, 5, none⟩ = some (.int .i64 a) := (hb2.cell (p := ⟨w1.heap.size, 5, none⟩) (by simp)).trans v5; have u6 : w2.cell? ⟨w1.heap.size, 6, none⟩ = some (.int .i64 b) := (hb2.cell (p := ⟨w1.heap.size, 6, none⟩) (by simp)).trans v6; have u7 : w2.cell? ⟨w1.heap.size, 7, none⟩ = some (.int .i64 c) := (hb2.cell (p := ⟨w1.heap.size, 7, none⟩) (by simp)).trans v7; have u8 : w2.cell? ⟨w1.heap.size, 8, none⟩ = some (.int .i64 li) := (hb2.cell (p := ⟨w1.heap.size, 8, none⟩) (by simp)).trans v8) | (go_at_call 18; (with_reducible refine (qT' _).mono ?_); rintro e w3 ⟨rfl, hb3⟩; have hz3 := hb3.size; have hrA3 := hrA.later hb3; have o13 : w1.heap.size < w3.heap.size := (by omega); have y0 : w3.cell? ⟨w1.heap.size, 0, none⟩ = some (.string s) := (hb3.cell (p := ⟨w1.heap.size, 0, none⟩) (by show w1.heap.size < _; omega)).trans u0; have y1 : w3.cell? ⟨w1.heap.size, 1, none⟩ = some (.int .i64 (p : Int)) := (hb3.cell (p := ⟨w1.heap.size, 1, none⟩) (by show w1.heap.size < _; omega)).trans u1; have y2 : w3.cell? ⟨w1.heap.size, 2, none⟩ = some (.int .i64 (s.size : Int)) := (hb3.cell (p := ⟨w1.heap.size, 2, none⟩) (by show w1.heap.size < _; omega)).trans u2; have y3 : w3.cell? ⟨w1.heap.size, 3, none⟩ = some (.int .i64 10) := (hb3.cell (p := ⟨w1.heap.size, 3, none⟩) (by show w1.heap.size < _; omega)).trans u3; have y4 : w3.cell? ⟨w1.heap.size, 4, none⟩ = some (.int .i64 (d : Int)) := (hb3.cell (p := ⟨w1.heap.size, 4, none⟩) (by show w1.heap.size < _; omega)).trans u4; have y5 : w3.cell? ⟨w1.heap.size, 5, none⟩ = some (.int .i64 a) := (hb3.cell (p := ⟨w1.heap.size, 5, none⟩) (by show w1.heap.size < _; omega)).trans u5; have y6 : w3.cell? ⟨w1.heap.size, 6, none⟩ = some (.int .i64 b) := (hb3.cell (p := ⟨w1.heap.size, 6, none⟩) (by show w1.heap.size < _; omega)).trans u6; have y7 : w3.cell? ⟨w1.heap.size, 7, none⟩ = some (.int .i64 c) := (hb3.cell (p := ⟨w1.heap.size, 7, none⟩) (by show w1.heap.size < _; omega)).trans u7; have y8 : w3.cell? ⟨w1.heap.size, 8, none⟩ = some (.int .i64 li) := (hb3.cell (p := ⟨w1.heap.size, 8, none⟩) (by show w1.heap.size < _; omega)).trans u8) | (go_at_call 15; refine (mawake_t _).mono ?_; rintro e w1 ⟨rfl, hb⟩; have hsz := hb.size; (try simp at hsz)))
    refine wp_loop_rounds 1 ?_
    rw [rounds_succ]
    go_wp2_with (first | (go_at_call 15; refine (mawake_t _).mono ?_; rintro e w1 ⟨rfl, hb⟩; have hsz := hb.size; (try simp at hsz)))
    go_light
    refine bodyPost_ret (v := .bool true) (by simp [results, Try.results8, go_sem, *]) rfl ⟨rfl, ?_⟩
    repeat' (first | exact Below.refl _ _ | refine Below.drew ?_ | refine below_drewN ?_ _ | refine Below.alloc ?_ (by first | omega | (simp <;> omega)) _ | refine Below.setCell ?_ (by first | omega | (simp <;> omega)) _ | refine Below.trans ?_ (Below.mono (by assumption) (by first | omega | (simp <;> omega))))
  · obtain ⟨k, hk, hxk, hbk⟩ := hbe (by omega)
    obtain ⟨⟨x1, x2, x3, x4⟩, hx⟩ : ∃ x, mbZ ms ms.length = x := ⟨_, rfl⟩
    have hxx := hx
    rw [hxk] at hxx
    rw [hx, decide_eq_true (show 0 < ms.length by omega)] at qT
    rw [hxx] at hbk
    dsimp only at qT
    have HXX := Lib.hid hxx
    have HBK := Lib.hid hbk
    clear hx hxk hxx hbk hbe
    have hn1 : ms.length ≤ 64 := by omega
    have hn2 : 0 < ms.length := by omega
    have hn3 : decide (d < ms.length) = false := by simp; omega
    clear h0 hln
    go_wp2_with (first | (go_at_call 23; (with_reducible refine (qA1 _).mono ?_); rintro e w2 ⟨pa, ca, hca, rfl, hoa, hrA, hb2⟩; have hz2 := hb2.size; (simp at hz2); have u0 : w2.cell? ⟨w1.heap.size, 0, none⟩ = some (.string s) := (hb2.cell (p := ⟨w1.heap.size, 0, none⟩) (by simp)).trans v0; have u1 : w2.cell? ⟨w1.heap.size, 1, none⟩ = some (.int .i64 (p : Int)) := (hb2.cell (p := ⟨w1.heap.size, 1, none⟩) (by simp)).trans v1; have u2 : w2.cell? ⟨w1.heap.size, 2, none⟩ = some (.int .i64 (s.size : Int)) := (hb2.cell (p := ⟨w1.heap.size, 2, none⟩) (by simp)).trans v2; have u3 : w2.cell? ⟨w1.heap.size, 3, none⟩ = some (.int .i64 10) := (hb2.cell (p := ⟨w1.heap.size, 3, none⟩) (by simp)).trans v3; have u4 : w2.cell? ⟨w1.heap.size, 4, none⟩ = some (.int .i64 (d : Int)) := (hb2.cell (p := ⟨w1.heap.size, 4, none⟩) (by simp)).trans v4; have u5 : w2.cell? ⟨w1.heap.size, 5, none⟩ = some (.int .i64 a) := (hb2.cell (p := ⟨w1.heap.size, 5, none⟩) (by simp)).trans v5; have u6 : w2.cell? ⟨w1.heap.size, 6, none⟩ = some (.int .i64 b) := (hb2.cell (p := ⟨w1.heap.size, 6, none⟩) (by simp)).trans v6; have u7 : w2.cell? ⟨w1.heap.size, 7, none⟩ = some (.int .i64 c) := (hb2.cell (p := ⟨w1.heap.size, 7, none⟩) (by simp)).trans v7; have u8 : w2.cell? ⟨w1.heap.size, 8, none⟩ = some (.int .i64 li) := (hb2.cell (p := ⟨w1.heap.size, 8, none⟩) (by simp)).trans v8) | (go_at_call 18; (with_reducible refine (qT _).mono ?_); rintro e w3 ⟨rfl, hb3⟩; have hz3 := hb3.size; have hrA3 := hrA.later hb3; have o13 : w1.heap.size < w3.heap.size := (by omega); have y0 : w3.cell? ⟨w1.heap.size, 0, none⟩ = some (.string s) := (hb3.cell (p := ⟨w1.heap.size, 0, none⟩) (by show w1.heap.size < _; omega)).trans u0; have y1 : w3.cell? ⟨w1.heap.size, 1, none⟩ = some (.int .i64 (p : Int)) := (hb3.cell (p := ⟨w1.heap.size, 1, none⟩) (by show w1.heap.size < _; omega)).trans u1; have y2 : w3.cell? ⟨w1.heap.size, 2, none⟩ = some (.int .i64 (s.size : Int)) := (hb3.cell (p := ⟨w1.heap.size, 2, none⟩) (by show w1.heap.size < _; omega)).trans u2; have y3 : w3.cell? ⟨w1.heap.size, 3, none⟩ = some (.int .i64 10) := (hb3.cell (p := ⟨w1.heap.size, 3, none⟩) (by show w1.heap.size < _; omega)).trans u3; have y4 : w3.cell? ⟨w1.heap.size, 4, none⟩ = some (.int .i64 (d : Int)) := (hb3.cell (p := ⟨w1.heap.size, 4, none⟩) (by show w1.heap.size < _; omega)).trans u4; have y5 : w3.cell? ⟨w1.heap.size, 5, none⟩ = some (.int .i64 a) := (hb3.cell (p := ⟨w1.heap.size, 5, none⟩) (by show w1.heap.size < _; omega)).trans u5; have y6 : w3.cell? ⟨w1.heap.size, 6, none⟩ = some (.int .i64 b) := (hb3.cell (p := ⟨w1.heap.size, 6, none⟩) (by show w1.heap.size < _; omega)).trans u6; have y7 : w3.cell? ⟨w1.heap.size, 7, none⟩ = some (.int .i64 c) := (hb3.cell (p := ⟨w1.heap.size, 7, none⟩) (by show w1.heap.size < _; omega)).trans u7; have y8 : w3.cell? ⟨w1.heap.size, 8, none⟩ = some (.int .i64 li) := (hb3.cell (p := ⟨w1.heap.size, 8, none⟩) (by show w1.heap.size < _; omega)).trans u8))
    obtain ⟨W0, hW0⟩ : ∃ W0, w3.alloc (.cells #[.int .i64 x1, .int .i64 x2, .int .i64 x3, .int .i64 x4] 32) = W0 := ⟨_, rfl⟩
    have BA : Below w3.heap.size w3 W0 := by rw [← hW0]; exact (Below.refl _ _).alloc (Nat.le_refl _) _
    have v0 : W0.cell? ⟨w1.heap.size, 0, none⟩ = some (.string s) := (BA.cell (p := ⟨w1.heap.size, 0, none⟩) (by show w1.heap.size < _; omega)).trans y0
    have v1 : W0.cell? ⟨w1.heap.size, 1, none⟩ = some (.int .i64 (p : Int)) := (BA.cell (p := ⟨w1.heap.size, 1, none⟩) (by show w1.heap.size < _; omega)).trans y1
    have v2 : W0.cell? ⟨w1.heap.size, 2, none⟩ = some (.int .i64 (s.size : Int)) := (BA.cell (p := ⟨w1.heap.size, 2, none⟩) (by show w1.heap.size < _; omega)).trans y2
    have v3 : W0.cell? ⟨w1.heap.size, 3, none⟩ = some (.int .i64 10) := (BA.cell (p := ⟨w1.heap.size, 3, none⟩) (by show w1.heap.size < _; omega)).trans y3
    have v4 : W0.cell? ⟨w1.heap.size, 4, none⟩ = some (.int .i64 (d : Int)) := (BA.cell (p := ⟨w1.heap.size, 4, none⟩) (by show w1.heap.size < _; omega)).trans y4
    have v5 : W0.cell? ⟨w1.heap.size, 5, none⟩ = some (.int .i64 a) := (BA.cell (p := ⟨w1.heap.size, 5, none⟩) (by show w1.heap.size < _; omega)).trans y5
    have v6 : W0.cell? ⟨w1.heap.size, 6, none⟩ = some (.int .i64 b) := (BA.cell (p := ⟨w1.heap.size, 6, none⟩) (by show w1.heap.size < _; omega)).trans y6
    have v7 : W0.cell? ⟨w1.heap.size, 7, none⟩ = some (.int .i64 c) := (BA.cell (p := ⟨w1.heap.size, 7, none⟩) (by show w1.heap.size < _; omega)).trans y7
    have v8 : W0.cell? ⟨w1.heap.size, 8, none⟩ = some (.int .i64 li) := (BA.cell (p := ⟨w1.heap.size, 8, none⟩) (by show w1.heap.size < _; omega)).trans y8
    have z0 : W0.cell? ⟨w3.heap.size, 0, none⟩ = some (.int .i64 x1) := by rw [← hW0]; clear hW0; simp [go_sem]
    have z1 : W0.cell? ⟨w3.heap.size, 1, none⟩ = some (.int .i64 x2) := by rw [← hW0]; clear hW0; simp [go_sem]
    have z2 : W0.cell? ⟨w3.heap.size, 2, none⟩ = some (.int .i64 x3) := by rw [← hW0]; clear hW0; simp [go_sem]
    have z3 : W0.cell? ⟨w3.heap.size, 3, none⟩ = some (.int .i64 x4) := by rw [← hW0]; clear hW0; simp [go_sem]
    have B0 : Below w.heap.size w W0 := by
      rw [← hW0]
      repeat' (first | exact Below.refl _ _ | refine Below.drew ?_ | refine below_drewN ?_ _ | refine Below.alloc ?_ (by first | omega | (simp <;> omega)) _ | refine Below.setCell ?_ (by first | omega | (simp <;> omega)) _ | refine Below.trans ?_ (Below.mono (by assumption) (by first | omega | (simp <;> omega))))
    have hR0 := hrA3.later BA
    have hS0 : W0.heap.size = w3.heap.size + 1 := by rw [← hW0]; simp
    have o1 : w1.heap.size < W0.heap.size := by omega
    have o2 : w3.heap.size < W0.heap.size := by omega
    rw [hW0]
    clear hW0 BA hb1 hb2 hb3 hrA hrA3 hn qA1 qT hoa hca hS0 y0 y1 y2 y3 y4 y5 y6 y7 y8 u0 u1 u2 u3 u4 u5 u6 u7 u8 hn3
    go_loopw [15, 16] (fun be i wr => ∃ j : Nat, j ≤ ms.length ∧ i = .int .i64 (j : Int) ∧ be = .int .i64 (bsf k j) ∧ Below W0.heap.size W0 wr) (fun _ i _ => ms.length - (intOf i).toNat)
    case atStart => exact ⟨0, by omega, rfl, by unfold bsf; rw [if_pos (Nat.zero_le _)], Below.refl _ _⟩
    case round =>
      obtain ⟨j, hj, rfl, rfl, hbw⟩ := hrel
      have hsw := hbw.size
      by_cases hlt : j < ms.length
      · obtain ⟨b1, q1, rfl, hb1, hc1⟩ := (hR0.later hbw).at hlt
        obtain ⟨c1, c2, c3, c4⟩ := hc1 j hlt
        obtain ⟨r1, r2, r3, r4⟩ := HRA.out j hlt
        obtain ⟨⟨D, L, V, G⟩, hx⟩ : ∃ q, ms.getD j (0, 0, 0, 0) = q := ⟨_, rfl⟩
        rw [hx] at c1 c2 c3 c4 r1 r2 r3 r4
        dsimp only at c1 c2 c3 c4 r1 r2 r3 r4
        have qD := fun w => distance_p a b c V li w
        rw [r1, r2] at qD
        have qG := fun w => (gain_p L V w).mono (R' := fun e w' => e = .returned (.tuple #[.int .i64 (Rgain L V).1, .int .i64 (Rgain L V).2]) ∧ Below w.heap.size w w') (fun e w' h => ⟨h.1, by rw [h.2]; exact Below.refl _ _⟩)
        rw [r3] at qG
        have qK := fun w => mcheck_p s p s.size 10 D L V G w (by omega)
        rw [r4] at qK
        dsimp only at qG
        clear r1 r2 r3 r4
        have l1 : w1.heap.size < wr.heap.size := by omega
        have l2 : w3.heap.size < wr.heap.size := by omega
        have y0 := (hbw.cell (p := ⟨w1.heap.size, 0, none⟩) o1).trans v0
        have y1 := (hbw.cell (p := ⟨w1.heap.size, 1, none⟩) o1).trans v1
        have y2 := (hbw.cell (p := ⟨w1.heap.size, 2, none⟩) o1).trans v2
        have y3 := (hbw.cell (p := ⟨w1.heap.size, 3, none⟩) o1).trans v3
        have y4 := (hbw.cell (p := ⟨w1.heap.size, 4, none⟩) o1).trans v4
        have y5 := (hbw.cell (p := ⟨w1.heap.size, 5, none⟩) o1).trans v5
        have y6 := (hbw.cell (p := ⟨w1.heap.size, 6, none⟩) o1).trans v6
        have y7 := (hbw.cell (p := ⟨w1.heap.size, 7, none⟩) o1).trans v7
        have y8 := (hbw.cell (p := ⟨w1.heap.size, 8, none⟩) o1).trans v8
        have t0 := (hbw.cell (p := ⟨w3.heap.size, 0, none⟩) o2).trans z0
        have t1 := (hbw.cell (p := ⟨w3.heap.size, 1, none⟩) o2).trans z1
        have t2 := (hbw.cell (p := ⟨w3.heap.size, 2, none⟩) o2).trans z2
        have t3 := (hbw.cell (p := ⟨w3.heap.size, 3, none⟩) o2).trans z3
        have i0 : (0 : Int) ≤ (j : Int) := by omega
        have i1 : (j : Int) < (ms.length : Int) := by omega
        have HX := Lib.hid hx
        have b0 : 0 ≤ bsf k j ∧ bsf k j ≤ 1 := by unfold bsf; split <;> omega
        obtain ⟨b0, b1'⟩ := b0
        have hjk : (j = k ∧ (D, L, V, G) = (x1, x2, x3, x4)) ∨ (j ≠ k ∧ D ≠ x1 ∧ mbet (x1, x2, x3, x4) (D, L, V, G) = true ∧ mbet (D, L, V, G) (x1, x2, x3, x4) = false) := by
          by_cases hjk : j = k
          · subst hjk
            exact .inl ⟨rfl, by rw [← HX.out, HXX.out]⟩
          · have h1 := HBK.out j hlt hjk
            rw [HX.out] at h1
            refine .inr ⟨hjk, ?_, h1, mbet_asym _ _ h1⟩
            rcases Nat.lt_or_gt_of_ne hjk with h2 | h2
            · have := HRS.out j k h2 hk
              rw [HX.out, HXX.out] at this
              simp only at this
              omega
            · have := HRS.out k j h2 hlt
              rw [HX.out, HXX.out] at this
              simp only at this
              omega
        have hj0 : j = 0 ∨ ∃ j1 D', j1 + 1 = j ∧ D' < D ∧ wr.cell? ⟨b1, q1 + j1 * 4, none⟩ = some (.int .i64 D') := by
          rcases Nat.eq_zero_or_pos j with h | h
          · exact .inl h
          · obtain ⟨e1, _⟩ := hc1 (j - 1) (by omega)
            have := HRS.out (j - 1) j (by omega) hlt
            rw [HX.out] at this
            exact .inr ⟨j - 1, _, by omega, this, e1⟩
        have HJ0 := Lib.hid hj0
        have HJK := Lib.hid hjk
        clear hj0 hjk hc1 hj
        rcases HJ0.out with hz | ⟨j1, D', hz, hd, e1⟩
        · have p1 : ¬ 0 < j := by omega
          have p2 : ¬ (0 : Int) < (j : Int) := by omega
          clear hz
          go_wp2
          refine wp_region_later1 (by kernel_rfl) (by kernel_rfl) ?_
          intro hLC
          repeat (go_big_quiet_step ((go_at_call 34; exact Calls.later_of (qD _))))
          refine wpQuiet_nil ?_
          intro wA hbwA
          clear hLC
          replace c1 := (hbwA.cell (p := ⟨b1, q1 + j * 4, none⟩) hb1).trans c1
          replace c2 := (hbwA.cell (p := ⟨b1, q1 + j * 4 + 1, none⟩) hb1).trans c2
          replace c3 := (hbwA.cell (p := ⟨b1, q1 + j * 4 + 2, none⟩) hb1).trans c3
          replace c4 := (hbwA.cell (p := ⟨b1, q1 + j * 4 + 3, none⟩) hb1).trans c4
          replace y0 := (hbwA.cell (p := ⟨w1.heap.size, 0, none⟩) l1).trans y0
          replace y1 := (hbwA.cell (p := ⟨w1.heap.size, 1, none⟩) l1).trans y1
          replace y2 := (hbwA.cell (p := ⟨w1.heap.size, 2, none⟩) l1).trans y2
          replace y3 := (hbwA.cell (p := ⟨w1.heap.size, 3, none⟩) l1).trans y3
          replace y4 := (hbwA.cell (p := ⟨w1.heap.size, 4, none⟩) l1).trans y4
          replace y5 := (hbwA.cell (p := ⟨w1.heap.size, 5, none⟩) l1).trans y5
          replace y6 := (hbwA.cell (p := ⟨w1.heap.size, 6, none⟩) l1).trans y6
          replace y7 := (hbwA.cell (p := ⟨w1.heap.size, 7, none⟩) l1).trans y7
          replace y8 := (hbwA.cell (p := ⟨w1.heap.size, 8, none⟩) l1).trans y8
          replace t0 := (hbwA.cell (p := ⟨w3.heap.size, 0, none⟩) l2).trans t0
          replace t1 := (hbwA.cell (p := ⟨w3.heap.size, 1, none⟩) l2).trans t1
          replace t2 := (hbwA.cell (p := ⟨w3.heap.size, 2, none⟩) l2).trans t2
          replace t3 := (hbwA.cell (p := ⟨w3.heap.size, 3, none⟩) l2).trans t3
          have hwA := hbwA.size
          replace hb1 : b1 < wA.heap.size := by omega
          replace l1 : w1.heap.size < wA.heap.size := by omega
          replace l2 : w3.heap.size < wA.heap.size := by omega
          go_wp2
          refine wp_region_later1 (by kernel_rfl) (by kernel_rfl) ?_
          intro hLC
          repeat (go_big_quiet_step ((go_at_call 28; exact Calls.later_of (qG _))))
          refine wpQuiet_nil ?_
          intro wB hbwB
          clear hLC
          replace c1 := (hbwB.cell (p := ⟨b1, q1 + j * 4, none⟩) hb1).trans c1
          replace c2 := (hbwB.cell (p := ⟨b1, q1 + j * 4 + 1, none⟩) hb1).trans c2
          replace c3 := (hbwB.cell (p := ⟨b1, q1 + j * 4 + 2, none⟩) hb1).trans c3
          replace c4 := (hbwB.cell (p := ⟨b1, q1 + j * 4 + 3, none⟩) hb1).trans c4
          replace y0 := (hbwB.cell (p := ⟨w1.heap.size, 0, none⟩) l1).trans y0
          replace y1 := (hbwB.cell (p := ⟨w1.heap.size, 1, none⟩) l1).trans y1
          replace y2 := (hbwB.cell (p := ⟨w1.heap.size, 2, none⟩) l1).trans y2
          replace y3 := (hbwB.cell (p := ⟨w1.heap.size, 3, none⟩) l1).trans y3
          replace y4 := (hbwB.cell (p := ⟨w1.heap.size, 4, none⟩) l1).trans y4
          replace y5 := (hbwB.cell (p := ⟨w1.heap.size, 5, none⟩) l1).trans y5
          replace y6 := (hbwB.cell (p := ⟨w1.heap.size, 6, none⟩) l1).trans y6
          replace y7 := (hbwB.cell (p := ⟨w1.heap.size, 7, none⟩) l1).trans y7
          replace y8 := (hbwB.cell (p := ⟨w1.heap.size, 8, none⟩) l1).trans y8
          replace t0 := (hbwB.cell (p := ⟨w3.heap.size, 0, none⟩) l2).trans t0
          replace t1 := (hbwB.cell (p := ⟨w3.heap.size, 1, none⟩) l2).trans t1
          replace t2 := (hbwB.cell (p := ⟨w3.heap.size, 2, none⟩) l2).trans t2
          replace t3 := (hbwB.cell (p := ⟨w3.heap.size, 3, none⟩) l2).trans t3
          have hwB := hbwB.size
          replace hb1 : b1 < wB.heap.size := by omega
          replace l1 : w1.heap.size < wB.heap.size := by omega
          replace l2 : w3.heap.size < wB.heap.size := by omega
          go_wp2
          refine wp_region_later1 (by kernel_rfl) (by kernel_rfl) ?_
          intro hLC
          repeat (go_big_quiet_step ((go_at_call 29; exact Calls.later_of (qK _))))
          refine wpQuiet_nil ?_
          intro wC hbwC
          clear hLC
          replace c1 := (hbwC.cell (p := ⟨b1, q1 + j * 4, none⟩) hb1).trans c1
          replace c2 := (hbwC.cell (p := ⟨b1, q1 + j * 4 + 1, none⟩) hb1).trans c2
          replace c3 := (hbwC.cell (p := ⟨b1, q1 + j * 4 + 2, none⟩) hb1).trans c3
          replace c4 := (hbwC.cell (p := ⟨b1, q1 + j * 4 + 3, none⟩) hb1).trans c4
          replace y0 := (hbwC.cell (p := ⟨w1.heap.size, 0, none⟩) l1).trans y0
          replace y1 := (hbwC.cell (p := ⟨w1.heap.size, 1, none⟩) l1).trans y1
          replace y2 := (hbwC.cell (p := ⟨w1.heap.size, 2, none⟩) l1).trans y2
          replace y3 := (hbwC.cell (p := ⟨w1.heap.size, 3, none⟩) l1).trans y3
          replace y4 := (hbwC.cell (p := ⟨w1.heap.size, 4, none⟩) l1).trans y4
          replace y5 := (hbwC.cell (p := ⟨w1.heap.size, 5, none⟩) l1).trans y5
          replace y6 := (hbwC.cell (p := ⟨w1.heap.size, 6, none⟩) l1).trans y6
          replace y7 := (hbwC.cell (p := ⟨w1.heap.size, 7, none⟩) l1).trans y7
          replace y8 := (hbwC.cell (p := ⟨w1.heap.size, 8, none⟩) l1).trans y8
          replace t0 := (hbwC.cell (p := ⟨w3.heap.size, 0, none⟩) l2).trans t0
          replace t1 := (hbwC.cell (p := ⟨w3.heap.size, 1, none⟩) l2).trans t1
          replace t2 := (hbwC.cell (p := ⟨w3.heap.size, 2, none⟩) l2).trans t2
          replace t3 := (hbwC.cell (p := ⟨w3.heap.size, 3, none⟩) l2).trans t3
          have hwC := hbwC.size
          replace hb1 : b1 < wC.heap.size := by omega
          replace l1 : w1.heap.size < wC.heap.size := by omega
          replace l2 : w3.heap.size < wC.heap.size := by omega
          rcases HJK.out with ⟨hjk, hxe⟩ | ⟨hjk, hdx, hm1, hm2⟩
          · simp only [Prod.mk.injEq] at hxe
            obtain ⟨rfl, rfl, rfl, rfl⟩ := hxe
            have HJ := Lib.hid hjk
            clear hjk
            go_wp2
            refine wp_region_later1 (by kernel_rfl) (by kernel_rfl) ?_
            intro hLC
            repeat (go_big_quiet_step (fail))
            refine wpQuiet_nil ?_
            intro wD hbwD
            clear hLC
            replace c1 := (hbwD.cell (p := ⟨b1, q1 + j * 4, none⟩) hb1).trans c1
            replace c2 := (hbwD.cell (p := ⟨b1, q1 + j * 4 + 1, none⟩) hb1).trans c2
            replace c3 := (hbwD.cell (p := ⟨b1, q1 + j * 4 + 2, none⟩) hb1).trans c3
            replace c4 := (hbwD.cell (p := ⟨b1, q1 + j * 4 + 3, none⟩) hb1).trans c4
            replace y0 := (hbwD.cell (p := ⟨w1.heap.size, 0, none⟩) l1).trans y0
            replace y1 := (hbwD.cell (p := ⟨w1.heap.size, 1, none⟩) l1).trans y1
            replace y2 := (hbwD.cell (p := ⟨w1.heap.size, 2, none⟩) l1).trans y2
            replace y3 := (hbwD.cell (p := ⟨w1.heap.size, 3, none⟩) l1).trans y3
            replace y4 := (hbwD.cell (p := ⟨w1.heap.size, 4, none⟩) l1).trans y4
            replace y5 := (hbwD.cell (p := ⟨w1.heap.size, 5, none⟩) l1).trans y5
            replace y6 := (hbwD.cell (p := ⟨w1.heap.size, 6, none⟩) l1).trans y6
            replace y7 := (hbwD.cell (p := ⟨w1.heap.size, 7, none⟩) l1).trans y7
            replace y8 := (hbwD.cell (p := ⟨w1.heap.size, 8, none⟩) l1).trans y8
            replace t0 := (hbwD.cell (p := ⟨w3.heap.size, 0, none⟩) l2).trans t0
            replace t1 := (hbwD.cell (p := ⟨w3.heap.size, 1, none⟩) l2).trans t1
            replace t2 := (hbwD.cell (p := ⟨w3.heap.size, 2, none⟩) l2).trans t2
            replace t3 := (hbwD.cell (p := ⟨w3.heap.size, 3, none⟩) l2).trans t3
            have hwD := hbwD.size
            replace hb1 : b1 < wD.heap.size := by omega
            replace l1 : w1.heap.size < wD.heap.size := by omega
            replace l2 : w3.heap.size < wD.heap.size := by omega
            go_wp2
            go_roundw
            case rel => exact ⟨j + 1, by omega, by go_num, by have := HJ.out; subst this; rw [bsf_same], (((hbw.trans (hbwA.mono hsw)).trans (hbwB.mono (by omega))).trans (hbwC.mono (by omega))).trans (hbwD.mono (by omega))⟩
            case measure => go_light; simp [intOf] <;> omega
          · have g1 : (D == x1) = false := by simpa using hdx
            have qE := fun w => better_p (x1, x2, x3, x4) (D, L, V, G) w
            have qF := fun w => better_p (D, L, V, G) (x1, x2, x3, x4) w
            rw [hm1] at qE
            rw [hm2] at qF
            dsimp only at qE qF
            have HJ := Lib.hid hjk
            clear hjk hdx hm1 hm2
            go_wp2
            refine wp_region_later1 (by kernel_rfl) (by kernel_rfl) ?_
            intro hLC
            repeat (go_big_quiet_step (fail))
            refine wpQuiet_nil ?_
            intro wD hbwD
            clear hLC
            replace c1 := (hbwD.cell (p := ⟨b1, q1 + j * 4, none⟩) hb1).trans c1
            replace c2 := (hbwD.cell (p := ⟨b1, q1 + j * 4 + 1, none⟩) hb1).trans c2
            replace c3 := (hbwD.cell (p := ⟨b1, q1 + j * 4 + 2, none⟩) hb1).trans c3
            replace c4 := (hbwD.cell (p := ⟨b1, q1 + j * 4 + 3, none⟩) hb1).trans c4
            replace y0 := (hbwD.cell (p := ⟨w1.heap.size, 0, none⟩) l1).trans y0
            replace y1 := (hbwD.cell (p := ⟨w1.heap.size, 1, none⟩) l1).trans y1
            replace y2 := (hbwD.cell (p := ⟨w1.heap.size, 2, none⟩) l1).trans y2
            replace y3 := (hbwD.cell (p := ⟨w1.heap.size, 3, none⟩) l1).trans y3
            replace y4 := (hbwD.cell (p := ⟨w1.heap.size, 4, none⟩) l1).trans y4
            replace y5 := (hbwD.cell (p := ⟨w1.heap.size, 5, none⟩) l1).trans y5
            replace y6 := (hbwD.cell (p := ⟨w1.heap.size, 6, none⟩) l1).trans y6
            replace y7 := (hbwD.cell (p := ⟨w1.heap.size, 7, none⟩) l1).trans y7
            replace y8 := (hbwD.cell (p := ⟨w1.heap.size, 8, none⟩) l1).trans y8
            replace t0 := (hbwD.cell (p := ⟨w3.heap.size, 0, none⟩) l2).trans t0
            replace t1 := (hbwD.cell (p := ⟨w3.heap.size, 1, none⟩) l2).trans t1
            replace t2 := (hbwD.cell (p := ⟨w3.heap.size, 2, none⟩) l2).trans t2
            replace t3 := (hbwD.cell (p := ⟨w3.heap.size, 3, none⟩) l2).trans t3
            have hwD := hbwD.size
            replace hb1 : b1 < wD.heap.size := by omega
            replace l1 : w1.heap.size < wD.heap.size := by omega
            replace l2 : w3.heap.size < wD.heap.size := by omega
            go_wp2
            refine wp_region_later1 (by kernel_rfl) (by kernel_rfl) ?_
            intro hLC
            repeat (go_big_quiet_step ((go_at_call 26; first | (with_reducible exact Calls.later_of (qE _)) | (with_reducible exact Calls.later_of (qF _)))))
            refine wpQuiet_nil ?_
            intro wE hbwE
            clear hLC
            replace c1 := (hbwE.cell (p := ⟨b1, q1 + j * 4, none⟩) hb1).trans c1
            replace c2 := (hbwE.cell (p := ⟨b1, q1 + j * 4 + 1, none⟩) hb1).trans c2
            replace c3 := (hbwE.cell (p := ⟨b1, q1 + j * 4 + 2, none⟩) hb1).trans c3
            replace c4 := (hbwE.cell (p := ⟨b1, q1 + j * 4 + 3, none⟩) hb1).trans c4
            replace y0 := (hbwE.cell (p := ⟨w1.heap.size, 0, none⟩) l1).trans y0
            replace y1 := (hbwE.cell (p := ⟨w1.heap.size, 1, none⟩) l1).trans y1
            replace y2 := (hbwE.cell (p := ⟨w1.heap.size, 2, none⟩) l1).trans y2
            replace y3 := (hbwE.cell (p := ⟨w1.heap.size, 3, none⟩) l1).trans y3
            replace y4 := (hbwE.cell (p := ⟨w1.heap.size, 4, none⟩) l1).trans y4
            replace y5 := (hbwE.cell (p := ⟨w1.heap.size, 5, none⟩) l1).trans y5
            replace y6 := (hbwE.cell (p := ⟨w1.heap.size, 6, none⟩) l1).trans y6
            replace y7 := (hbwE.cell (p := ⟨w1.heap.size, 7, none⟩) l1).trans y7
            replace y8 := (hbwE.cell (p := ⟨w1.heap.size, 8, none⟩) l1).trans y8
            replace t0 := (hbwE.cell (p := ⟨w3.heap.size, 0, none⟩) l2).trans t0
            replace t1 := (hbwE.cell (p := ⟨w3.heap.size, 1, none⟩) l2).trans t1
            replace t2 := (hbwE.cell (p := ⟨w3.heap.size, 2, none⟩) l2).trans t2
            replace t3 := (hbwE.cell (p := ⟨w3.heap.size, 3, none⟩) l2).trans t3
            have hwE := hbwE.size
            replace hb1 : b1 < wE.heap.size := by omega
            replace l1 : w1.heap.size < wE.heap.size := by omega
            replace l2 : w3.heap.size < wE.heap.size := by omega
            go_wp2
            go_roundw
            case rel => exact ⟨j + 1, by omega, by go_num, by rw [bsf_other _ _ HJ.out], ((((hbw.trans (hbwA.mono hsw)).trans (hbwB.mono (by omega))).trans (hbwC.mono (by omega))).trans (hbwD.mono (by omega))).trans (hbwE.mono (by omega))⟩
            case measure => go_light; simp [intOf] <;> omega
        · have p1 : 0 < j := by omega
          have p2 : (0 : Int) < (j : Int) := by omega
          have p3 : 0 ≤ (j : Int) - 1 := by omega
          have p4 : (j : Int) - 1 < (ms.length : Int) := by omega
          have p5 : ((j : Int) - 1).toNat = j1 := by omega
          have p6 : IntKind.i64.wrap ((j : Int) - 1) = (j : Int) - 1 := IntWalk.i64_in _ (by omega)
          have p7 : ¬ D ≤ D' := by omega
          clear hz
          go_wp2
          refine wp_region_later1 (by kernel_rfl) (by kernel_rfl) ?_
          intro hLC
          repeat (go_big_quiet_step ((go_at_call 34; exact Calls.later_of (qD _))))
          refine wpQuiet_nil ?_
          intro wA hbwA
          clear hLC
          replace c1 := (hbwA.cell (p := ⟨b1, q1 + j * 4, none⟩) hb1).trans c1
          replace c2 := (hbwA.cell (p := ⟨b1, q1 + j * 4 + 1, none⟩) hb1).trans c2
          replace c3 := (hbwA.cell (p := ⟨b1, q1 + j * 4 + 2, none⟩) hb1).trans c3
          replace c4 := (hbwA.cell (p := ⟨b1, q1 + j * 4 + 3, none⟩) hb1).trans c4
          replace y0 := (hbwA.cell (p := ⟨w1.heap.size, 0, none⟩) l1).trans y0
          replace y1 := (hbwA.cell (p := ⟨w1.heap.size, 1, none⟩) l1).trans y1
          replace y2 := (hbwA.cell (p := ⟨w1.heap.size, 2, none⟩) l1).trans y2
          replace y3 := (hbwA.cell (p := ⟨w1.heap.size, 3, none⟩) l1).trans y3
          replace y4 := (hbwA.cell (p := ⟨w1.heap.size, 4, none⟩) l1).trans y4
          replace y5 := (hbwA.cell (p := ⟨w1.heap.size, 5, none⟩) l1).trans y5
          replace y6 := (hbwA.cell (p := ⟨w1.heap.size, 6, none⟩) l1).trans y6
          replace y7 := (hbwA.cell (p := ⟨w1.heap.size, 7, none⟩) l1).trans y7
          replace y8 := (hbwA.cell (p := ⟨w1.heap.size, 8, none⟩) l1).trans y8
          replace t0 := (hbwA.cell (p := ⟨w3.heap.size, 0, none⟩) l2).trans t0
          replace t1 := (hbwA.cell (p := ⟨w3.heap.size, 1, none⟩) l2).trans t1
          replace t2 := (hbwA.cell (p := ⟨w3.heap.size, 2, none⟩) l2).trans t2
          replace t3 := (hbwA.cell (p := ⟨w3.heap.size, 3, none⟩) l2).trans t3
          replace e1 := (hbwA.cell (p := ⟨b1, q1 + j1 * 4, none⟩) hb1).trans e1
          have hwA := hbwA.size
          replace hb1 : b1 < wA.heap.size := by omega
          replace l1 : w1.heap.size < wA.heap.size := by omega
          replace l2 : w3.heap.size < wA.heap.size := by omega
          go_wp2
          refine wp_region_later1 (by kernel_rfl) (by kernel_rfl) ?_
          intro hLC
          repeat (go_big_quiet_step ((go_at_call 28; exact Calls.later_of (qG _))))
          refine wpQuiet_nil ?_
          intro wB hbwB
          clear hLC
          replace c1 := (hbwB.cell (p := ⟨b1, q1 + j * 4, none⟩) hb1).trans c1
          replace c2 := (hbwB.cell (p := ⟨b1, q1 + j * 4 + 1, none⟩) hb1).trans c2
          replace c3 := (hbwB.cell (p := ⟨b1, q1 + j * 4 + 2, none⟩) hb1).trans c3
          replace c4 := (hbwB.cell (p := ⟨b1, q1 + j * 4 + 3, none⟩) hb1).trans c4
          replace y0 := (hbwB.cell (p := ⟨w1.heap.size, 0, none⟩) l1).trans y0
          replace y1 := (hbwB.cell (p := ⟨w1.heap.size, 1, none⟩) l1).trans y1
          replace y2 := (hbwB.cell (p := ⟨w1.heap.size, 2, none⟩) l1).trans y2
          replace y3 := (hbwB.cell (p := ⟨w1.heap.size, 3, none⟩) l1).trans y3
          replace y4 := (hbwB.cell (p := ⟨w1.heap.size, 4, none⟩) l1).trans y4
          replace y5 := (hbwB.cell (p := ⟨w1.heap.size, 5, none⟩) l1).trans y5
          replace y6 := (hbwB.cell (p := ⟨w1.heap.size, 6, none⟩) l1).trans y6
          replace y7 := (hbwB.cell (p := ⟨w1.heap.size, 7, none⟩) l1).trans y7
          replace y8 := (hbwB.cell (p := ⟨w1.heap.size, 8, none⟩) l1).trans y8
          replace t0 := (hbwB.cell (p := ⟨w3.heap.size, 0, none⟩) l2).trans t0
          replace t1 := (hbwB.cell (p := ⟨w3.heap.size, 1, none⟩) l2).trans t1
          replace t2 := (hbwB.cell (p := ⟨w3.heap.size, 2, none⟩) l2).trans t2
          replace t3 := (hbwB.cell (p := ⟨w3.heap.size, 3, none⟩) l2).trans t3
          replace e1 := (hbwB.cell (p := ⟨b1, q1 + j1 * 4, none⟩) hb1).trans e1
          have hwB := hbwB.size
          replace hb1 : b1 < wB.heap.size := by omega
          replace l1 : w1.heap.size < wB.heap.size := by omega
          replace l2 : w3.heap.size < wB.heap.size := by omega
          go_wp2
          refine wp_region_later1 (by kernel_rfl) (by kernel_rfl) ?_
          intro hLC
          repeat (go_big_quiet_step ((go_at_call 29; exact Calls.later_of (qK _))))
          refine wpQuiet_nil ?_
          intro wC hbwC
          clear hLC
          replace c1 := (hbwC.cell (p := ⟨b1, q1 + j * 4, none⟩) hb1).trans c1
          replace c2 := (hbwC.cell (p := ⟨b1, q1 + j * 4 + 1, none⟩) hb1).trans c2
          replace c3 := (hbwC.cell (p := ⟨b1, q1 + j * 4 + 2, none⟩) hb1).trans c3
          replace c4 := (hbwC.cell (p := ⟨b1, q1 + j * 4 + 3, none⟩) hb1).trans c4
          replace y0 := (hbwC.cell (p := ⟨w1.heap.size, 0, none⟩) l1).trans y0
          replace y1 := (hbwC.cell (p := ⟨w1.heap.size, 1, none⟩) l1).trans y1
          replace y2 := (hbwC.cell (p := ⟨w1.heap.size, 2, none⟩) l1).trans y2
          replace y3 := (hbwC.cell (p := ⟨w1.heap.size, 3, none⟩) l1).trans y3
          replace y4 := (hbwC.cell (p := ⟨w1.heap.size, 4, none⟩) l1).trans y4
          replace y5 := (hbwC.cell (p := ⟨w1.heap.size, 5, none⟩) l1).trans y5
          replace y6 := (hbwC.cell (p := ⟨w1.heap.size, 6, none⟩) l1).trans y6
          replace y7 := (hbwC.cell (p := ⟨w1.heap.size, 7, none⟩) l1).trans y7
          replace y8 := (hbwC.cell (p := ⟨w1.heap.size, 8, none⟩) l1).trans y8
          replace t0 := (hbwC.cell (p := ⟨w3.heap.size, 0, none⟩) l2).trans t0
          replace t1 := (hbwC.cell (p := ⟨w3.heap.size, 1, none⟩) l2).trans t1
          replace t2 := (hbwC.cell (p := ⟨w3.heap.size, 2, none⟩) l2).trans t2
          replace t3 := (hbwC.cell (p := ⟨w3.heap.size, 3, none⟩) l2).trans t3
          replace e1 := (hbwC.cell (p := ⟨b1, q1 + j1 * 4, none⟩) hb1).trans e1
          have hwC := hbwC.size
          replace hb1 : b1 < wC.heap.size := by omega
          replace l1 : w1.heap.size < wC.heap.size := by omega
          replace l2 : w3.heap.size < wC.heap.size := by omega
          rcases HJK.out with ⟨hjk, hxe⟩ | ⟨hjk, hdx, hm1, hm2⟩
          · simp only [Prod.mk.injEq] at hxe
            obtain ⟨rfl, rfl, rfl, rfl⟩ := hxe
            have HJ := Lib.hid hjk
            clear hjk
            go_wp2
            refine wp_region_later1 (by kernel_rfl) (by kernel_rfl) ?_
            intro hLC
            repeat (go_big_quiet_step (fail))
            refine wpQuiet_nil ?_
            intro wD hbwD
            clear hLC
            replace c1 := (hbwD.cell (p := ⟨b1, q1 + j * 4, none⟩) hb1).trans c1
            replace c2 := (hbwD.cell (p := ⟨b1, q1 + j * 4 + 1, none⟩) hb1).trans c2
            replace c3 := (hbwD.cell (p := ⟨b1, q1 + j * 4 + 2, none⟩) hb1).trans c3
            replace c4 := (hbwD.cell (p := ⟨b1, q1 + j * 4 + 3, none⟩) hb1).trans c4
            replace y0 := (hbwD.cell (p := ⟨w1.heap.size, 0, none⟩) l1).trans y0
            replace y1 := (hbwD.cell (p := ⟨w1.heap.size, 1, none⟩) l1).trans y1
            replace y2 := (hbwD.cell (p := ⟨w1.heap.size, 2, none⟩) l1).trans y2
            replace y3 := (hbwD.cell (p := ⟨w1.heap.size, 3, none⟩) l1).trans y3
            replace y4 := (hbwD.cell (p := ⟨w1.heap.size, 4, none⟩) l1).trans y4
            replace y5 := (hbwD.cell (p := ⟨w1.heap.size, 5, none⟩) l1).trans y5
            replace y6 := (hbwD.cell (p := ⟨w1.heap.size, 6, none⟩) l1).trans y6
            replace y7 := (hbwD.cell (p := ⟨w1.heap.size, 7, none⟩) l1).trans y7
            replace y8 := (hbwD.cell (p := ⟨w1.heap.size, 8, none⟩) l1).trans y8
            replace t0 := (hbwD.cell (p := ⟨w3.heap.size, 0, none⟩) l2).trans t0
            replace t1 := (hbwD.cell (p := ⟨w3.heap.size, 1, none⟩) l2).trans t1
            replace t2 := (hbwD.cell (p := ⟨w3.heap.size, 2, none⟩) l2).trans t2
            replace t3 := (hbwD.cell (p := ⟨w3.heap.size, 3, none⟩) l2).trans t3
            replace e1 := (hbwD.cell (p := ⟨b1, q1 + j1 * 4, none⟩) hb1).trans e1
            have hwD := hbwD.size
            replace hb1 : b1 < wD.heap.size := by omega
            replace l1 : w1.heap.size < wD.heap.size := by omega
            replace l2 : w3.heap.size < wD.heap.size := by omega
            go_wp2
            go_roundw
            case rel => exact ⟨j + 1, by omega, by go_num, by have := HJ.out; subst this; rw [bsf_same], (((hbw.trans (hbwA.mono hsw)).trans (hbwB.mono (by omega))).trans (hbwC.mono (by omega))).trans (hbwD.mono (by omega))⟩
            case measure => go_light; simp [intOf] <;> omega
          · have g1 : (D == x1) = false := by simpa using hdx
            have qE := fun w => better_p (x1, x2, x3, x4) (D, L, V, G) w
            have qF := fun w => better_p (D, L, V, G) (x1, x2, x3, x4) w
            rw [hm1] at qE
            rw [hm2] at qF
            dsimp only at qE qF
            have HJ := Lib.hid hjk
            clear hjk hdx hm1 hm2
            go_wp2
            refine wp_region_later1 (by kernel_rfl) (by kernel_rfl) ?_
            intro hLC
            repeat (go_big_quiet_step (fail))
            refine wpQuiet_nil ?_
            intro wD hbwD
            clear hLC
            replace c1 := (hbwD.cell (p := ⟨b1, q1 + j * 4, none⟩) hb1).trans c1
            replace c2 := (hbwD.cell (p := ⟨b1, q1 + j * 4 + 1, none⟩) hb1).trans c2
            replace c3 := (hbwD.cell (p := ⟨b1, q1 + j * 4 + 2, none⟩) hb1).trans c3
            replace c4 := (hbwD.cell (p := ⟨b1, q1 + j * 4 + 3, none⟩) hb1).trans c4
            replace y0 := (hbwD.cell (p := ⟨w1.heap.size, 0, none⟩) l1).trans y0
            replace y1 := (hbwD.cell (p := ⟨w1.heap.size, 1, none⟩) l1).trans y1
            replace y2 := (hbwD.cell (p := ⟨w1.heap.size, 2, none⟩) l1).trans y2
            replace y3 := (hbwD.cell (p := ⟨w1.heap.size, 3, none⟩) l1).trans y3
            replace y4 := (hbwD.cell (p := ⟨w1.heap.size, 4, none⟩) l1).trans y4
            replace y5 := (hbwD.cell (p := ⟨w1.heap.size, 5, none⟩) l1).trans y5
            replace y6 := (hbwD.cell (p := ⟨w1.heap.size, 6, none⟩) l1).trans y6
            replace y7 := (hbwD.cell (p := ⟨w1.heap.size, 7, none⟩) l1).trans y7
            replace y8 := (hbwD.cell (p := ⟨w1.heap.size, 8, none⟩) l1).trans y8
            replace t0 := (hbwD.cell (p := ⟨w3.heap.size, 0, none⟩) l2).trans t0
            replace t1 := (hbwD.cell (p := ⟨w3.heap.size, 1, none⟩) l2).trans t1
            replace t2 := (hbwD.cell (p := ⟨w3.heap.size, 2, none⟩) l2).trans t2
            replace t3 := (hbwD.cell (p := ⟨w3.heap.size, 3, none⟩) l2).trans t3
            replace e1 := (hbwD.cell (p := ⟨b1, q1 + j1 * 4, none⟩) hb1).trans e1
            have hwD := hbwD.size
            replace hb1 : b1 < wD.heap.size := by omega
            replace l1 : w1.heap.size < wD.heap.size := by omega
            replace l2 : w3.heap.size < wD.heap.size := by omega
            go_wp2
            refine wp_region_later1 (by kernel_rfl) (by kernel_rfl) ?_
            intro hLC
            repeat (go_big_quiet_step ((go_at_call 26; first | (with_reducible exact Calls.later_of (qE _)) | (with_reducible exact Calls.later_of (qF _)))))
            refine wpQuiet_nil ?_
            intro wE hbwE
            clear hLC
            replace c1 := (hbwE.cell (p := ⟨b1, q1 + j * 4, none⟩) hb1).trans c1
            replace c2 := (hbwE.cell (p := ⟨b1, q1 + j * 4 + 1, none⟩) hb1).trans c2
            replace c3 := (hbwE.cell (p := ⟨b1, q1 + j * 4 + 2, none⟩) hb1).trans c3
            replace c4 := (hbwE.cell (p := ⟨b1, q1 + j * 4 + 3, none⟩) hb1).trans c4
            replace y0 := (hbwE.cell (p := ⟨w1.heap.size, 0, none⟩) l1).trans y0
            replace y1 := (hbwE.cell (p := ⟨w1.heap.size, 1, none⟩) l1).trans y1
            replace y2 := (hbwE.cell (p := ⟨w1.heap.size, 2, none⟩) l1).trans y2
            replace y3 := (hbwE.cell (p := ⟨w1.heap.size, 3, none⟩) l1).trans y3
            replace y4 := (hbwE.cell (p := ⟨w1.heap.size, 4, none⟩) l1).trans y4
            replace y5 := (hbwE.cell (p := ⟨w1.heap.size, 5, none⟩) l1).trans y5
            replace y6 := (hbwE.cell (p := ⟨w1.heap.size, 6, none⟩) l1).trans y6
            replace y7 := (hbwE.cell (p := ⟨w1.heap.size, 7, none⟩) l1).trans y7
            replace y8 := (hbwE.cell (p := ⟨w1.heap.size, 8, none⟩) l1).trans y8
            replace t0 := (hbwE.cell (p := ⟨w3.heap.size, 0, none⟩) l2).trans t0
            replace t1 := (hbwE.cell (p := ⟨w3.heap.size, 1, none⟩) l2).trans t1
            replace t2 := (hbwE.cell (p := ⟨w3.heap.size, 2, none⟩) l2).trans t2
            replace t3 := (hbwE.cell (p := ⟨w3.heap.size, 3, none⟩) l2).trans t3
            replace e1 := (hbwE.cell (p := ⟨b1, q1 + j1 * 4, none⟩) hb1).trans e1
            have hwE := hbwE.size
            replace hb1 : b1 < wE.heap.size := by omega
            replace l1 : w1.heap.size < wE.heap.size := by omega
            replace l2 : w3.heap.size < wE.heap.size := by omega
            go_wp2
            go_roundw
            case rel => exact ⟨j + 1, by omega, by go_num, by rw [bsf_other _ _ HJ.out], ((((hbw.trans (hbwA.mono hsw)).trans (hbwB.mono (by omega))).trans (hbwC.mono (by omega))).trans (hbwD.mono (by omega))).trans (hbwE.mono (by omega))⟩
            case measure => go_light; simp [intOf] <;> omega
      · obtain rfl : j = ms.length := by omega
        have hb1 : bsf k ms.length = 1 := by unfold bsf; rw [if_neg (by omega)]
        go_wp2_with (first | (go_at_call 15; refine (mawake_t _).mono ?_; rintro e w1 ⟨rfl, hb⟩; have hsz := hb.size; (try simp at hsz)))
        go_light
        refine bodyPost_ret (v := .bool true) (by simp [results, Try.results8, go_sem, *]) rfl ⟨rfl, ?_⟩
        repeat' (first | exact Below.refl _ _ | refine Below.drew ?_ | refine below_drewN ?_ _ | refine Below.alloc ?_ (by first | omega | (simp <;> omega)) _ | refine Below.setCell ?_ (by first | omega | (simp <;> omega)) _ | refine Below.trans ?_ (Below.mono (by assumption) (by first | omega | (simp <;> omega))))
end Go.Proofs.Ytammacofhdbgcaa
