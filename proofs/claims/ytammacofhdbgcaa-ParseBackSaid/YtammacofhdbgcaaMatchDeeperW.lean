/-
  MatchDeeper, walked.
-/
import Derived.Test.YtammacofhdbgcaaRows
import Derived.Test.YtammacofhdbgcaaMatchView
import Derived.Test.YtammacofhdbgcaaGBase
import Derived.Deep.Light
import Derived.Shelf.Abstract
import Derived.Shelf.RegionOpen
import Derived.OwnWalkIn
import Derived.TacticsInMore
import Derived.LoopNIn
import Derived.LoopIn
import Derived.Outline
import Derived.Deep.RegionHeld3
import Derived.IntWalk
namespace Go.Proofs.Ytammacofhdbgcaa
open Go.RowKit
set_option linter.unusedSimpArgs false
set_option linter.unusedVariables false
open Go.Shelf
theorem view_all (s : ByteArray) (p e d : Nat) (a b c li : Int) (hs : s.size ≤ 1048576) (hp : p ≤ e) (he : e ≤ s.size) (h1 : 1 ≤ d) (h2 : d ≤ 64) (hc : chkL true [a, b, c] = 0) (hl : 0 ≤ li) :
    Rall s p e 10 d a b c li = (mofs s p e a b c li (cands s p e 10 d), 0) := by
  unfold Rall
  have hw : wchk s.size p e 10 = 0 := wchk_0 (by omega) ⟨by omega, by omega, by omega, by omega, by omega⟩
  rw [if_neg (by simpa using hw), if_neg (by simpa using hc), if_neg (by omega)]
  simp
theorem cands_take (s : ByteArray) (p e l d d2 : Nat) (h : d ≤ d2) : cands s p e l d = (cands s p e l d2).take d := by
  unfold cands
  split
  · simp
  · rw [List.take_take, Nat.min_eq_left h]
theorem RowM.take {w : World} {a : Option Addr} {ms : List (Int × Int × Int × Int)} (h : RowM w a ms) (n : Nat) : RowM w a (ms.take n) := by
  rcases h with h | ⟨b, off, ha, hb, hc⟩
  · subst h; exact .inl (by simp)
  · refine .inr ⟨b, off, ha, hb, fun i hi => ?_⟩
    have h1 : i < n ∧ i < ms.length := by simp at hi; omega
    have e : (ms.take n).getD i (0, 0, 0, 0) = ms.getD i (0, 0, 0, 0) := by simp [List.getD_eq_getElem?_getD, List.getElem?_take, h1.1]
    rw [e]
    exact hc i h1.2
theorem take_same {α : Type} (l : List α) (n : Nat) : l.take (l.take n).length = l.take n := by
  rw [List.length_take]
  by_cases h : n ≤ l.length
  · rw [Nat.min_eq_left h]
  · rw [Nat.min_eq_right (by omega), List.take_of_length_le (Nat.le_refl _), List.take_of_length_le (by omega)]
/-- With a greater depth the best is not worse. -/
theorem deeper_best (s : ByteArray) (p e : Nat) (a b c li : Int) (l d d2 : Nat) (h : d ≤ d2) (h0 : 0 < (cands s p e l d).length) :
    mbet (mbZ (mofs s p e a b c li (cands s p e l d)) (mofs s p e a b c li (cands s p e l d)).length) (mbZ (mofs s p e a b c li (cands s p e l d2)) (mofs s p e a b c li (cands s p e l d2)).length) = false := by
  have hle : (cands s p e l d).length ≤ (cands s p e l d2).length := by rw [cands_take s p e l d d2 h]; simp; omega
  obtain ⟨k, h1, h2, _⟩ := best_all s p e a b c li l d h0
  obtain ⟨k2, g1, g2, g3⟩ := best_all s p e a b c li l d2 (by omega)
  rw [h2, g2]
  have hk : (mofs s p e a b c li (cands s p e l d)).getD k (0, 0, 0, 0) = (mofs s p e a b c li (cands s p e l d2)).getD k (0, 0, 0, 0) := by
    rw [mofs_get _ _ _ _ _ _ _ _ _ h1, mofs_get _ _ _ _ _ _ _ _ _ (by omega)]
    congr 1
    rw [cands_take s p e l d d2 h] at h1 ⊢
    have h1d : k < d := by simp at h1; omega
    simp [List.getD_eq_getElem?_getD, List.getElem?_take, h1d]
  rw [hk]
  by_cases hkk : k = k2
  · rw [hkk]; exact mbet_irr _
  · exact mbet_asym _ _ (g3 k (by omega) hkk)
theorem modS (a b : Int) (hb : 1 ≤ b) (hb2 : b ≤ 4611686018427387904) (w : World) :
    Calls Try.prog 22 #[.int .i64 a, .int .i64 b] w fun e w' => e = .returned (.int .i64 (a % b)) ∧ w' = w := by
  have h1 := Int.lt_tmod_of_pos a (b := b) (by omega)
  have h2 := Int.tmod_lt_of_pos a (b := b) (by omega)
  go_enter Try.func22, Try.ntmps22
  go_wp2
  all_goals go_ret
  · rw [← tmod_neg' (by omega) (by assumption)]
    exact ⟨rfl, rfl⟩
  · rw [← tmod_pos' (by omega) (by assumption)]
    exact ⟨rfl, rfl⟩
attribute [local go_sem] eq32 Oper.semAt_some

set_option maxRecDepth 100000 in
set_option maxHeartbeats 8000000 in
theorem matchDeeper_t (pn : Option Addr) (xs : List Int) (cn : Nat) (at_ dp n mo : Int) (w : World) (hn : Row .i64 w pn xs) (hl : xs.length ≤ 9223372036854775807) :
    Calls Try.prog 5 #[.slice pn xs.length cn, .int .i64 at_, .int .i64 dp, .int .i64 n, .int .i64 mo] w fun e' w' => e' = .returned (.bool true) ∧ Below w.heap.size w w' := by
  have qM := fun w => modS mo 16 (by omega) (by omega) w
  obtain ⟨r, hr⟩ : ∃ r : Nat, mo % 16 = (r : Int) := ⟨(mo % 16).toNat, by omega⟩
  have hr15 : r < 16 := by omega
  rw [hr] at qM
  clear hr
  go_enter Try.func5, Try.ntmps5
  go_wp2_with ((go_at_call 21; refine (view_k pn xs cn at_ dp n _ hn hl).mono ?_; rintro e w1 ⟨s, p, d, a, b, c, li, hs, hp, hd1, hd2, hch, hli0, hli2, rfl, hb1⟩; have hz1 := hb1.size))
  have hA1 := view_all s p s.size d a b c li (by omega) hp (Nat.le_refl _) hd1 (by omega) hch hli0
  have hA2 := view_all s p s.size (d + r) a b c li (by omega) hp (Nat.le_refl _) (by omega) (by omega) hch hli0
  have hdb := deeper_best s p s.size a b c li 10 d (d + r) (by omega)
  have hle : (cands s p s.size 10 d).length ≤ (cands s p s.size 10 (d + r)).length := by rw [cands_take s p s.size 10 d (d + r) (by omega)]; simp; omega
  have hT : (mofs s p s.size a b c li (cands s p s.size 10 (d + r))).take (mofs s p s.size a b c li (cands s p s.size 10 d)).length = mofs s p s.size a b c li (cands s p s.size 10 d) := by
    rw [mofs_take, mofs_len, cands_take s p s.size 10 d (d + r) (by omega), take_same]
  have hm1 := rall_len s p s.size 10 d a b c li
  have hm2 := rall_len s p s.size 10 ((d + r : Nat) : Int) a b c li
  rw [hA1] at hm1
  rw [hA2] at hm2
  dsimp only at hm1 hm2
  rw [← mofs_len s p s.size a b c li, ← mofs_len s p s.size a b c li (cands s p s.size 10 (d + r))] at hle
  rw [← mofs_len s p s.size a b c li] at hdb
  generalize mofs s p s.size a b c li (cands s p s.size 10 d) = ms1 at hA1 hT hle hdb hm1
  generalize mofs s p s.size a b c li (cands s p s.size 10 (d + r)) = ms2 at hA2 hT hle hdb hm2
  have qA1 := fun w => alls_k s p s.size 10 d a b c li ms1 w (by omega) hA1
  have qA2 := fun w => alls_k s p s.size 10 ((d + r : Nat) : Int) a b c li ms2 w (by omega) hA2
  rw [show ((d + r : Nat) : Int) = (d : Int) + (r : Int) by omega] at qA2
  have qB1 := fun w pa ca h => best_p pa ms1 ca w h (by omega)
  have qB2 := fun w pb cb h => best_p pb ms2 cb w h (by omega)
  obtain ⟨⟨x1, x2, x3, x4⟩, hx⟩ : ∃ x, mbZ ms1 ms1.length = x := ⟨_, rfl⟩
  obtain ⟨⟨y1, y2, y3, y4⟩, hy⟩ : ∃ y, mbZ ms2 ms2.length = y := ⟨_, rfl⟩
  rw [hx] at qB1 hdb
  rw [hy] at qB2 hdb
  have qC := fun w => better_p (x1, x2, x3, x4) (y1, y2, y3, y4) w
  dsimp only at qB1 qB2 qC
  have HT := Lib.hid hT
  obtain ⟨fb, hfb⟩ : ∃ x, decide (0 < ms1.length) = x := ⟨_, rfl⟩
  obtain ⟨fc, hfc⟩ : ∃ x, decide (0 < ms2.length) = x := ⟨_, rfl⟩
  rw [hfb] at qB1
  rw [hfc] at qB2
  have hcase : fb = false ∨ (fb = true ∧ mbet (x1, x2, x3, x4) (y1, y2, y3, y4) = false) := by
    by_cases h0 : 0 < ms1.length
    · exact .inr ⟨by rw [← hfb]; simpa using h0, hdb h0⟩
    · exact .inl (by rw [← hfb]; simpa using h0)
  have hle2 : decide (ms2.length < ms1.length) = false := by simpa using hle
  replace hm1 : ms1.length ≤ 9223372036854775807 := by omega
  have hm3 : (ms1.length : Int) ≤ (ms2.length : Int) := by omega
  have HCH := Lib.hid hch
  clear hA1 hA2 hT hdb hx hy hfb hfc hch
  have hwr : IntKind.i64.wrap ((d : Int) + (r : Int)) = (d : Int) + (r : Int) := IntWalk.i64_in _ (by omega)
  go_region_held3 (fun w' => w'.cell? ⟨w1.heap.size, 4, none⟩ = some (.int .i64 (d : Int))) (go_keep)
    (first | (go_at_call 22; refine (qM _).mono ?_; rintro e w' ⟨rfl, rfl⟩))
  clear hwr
  obtain ⟨W0, hW0⟩ : ∃ W0, ((w1.alloc (.cells #[.string s, .int .i64 (p : Int), .int .i64 (s.size : Int), .int .i64 10, .int .i64 (d : Int), .int .i64 a, .int .i64 b, .int .i64 c, .int .i64 li] 25)).alloc (.cells #[.string s, .int .i64 (p : Int), .int .i64 (s.size : Int), .int .i64 10, .int .i64 ((d : Int) + (r : Int)), .int .i64 a, .int .i64 b, .int .i64 c, .int .i64 li] 25)).drew = W0 := ⟨_, rfl⟩
  have v0 : W0.cell? ⟨w1.heap.size, 0, none⟩ = some (.string s) := by rw [← hW0]; clear hW0; simp [go_sem]
  have v1 : W0.cell? ⟨w1.heap.size, 1, none⟩ = some (.int .i64 (p : Int)) := by rw [← hW0]; clear hW0; simp [go_sem]
  have v2 : W0.cell? ⟨w1.heap.size, 2, none⟩ = some (.int .i64 (s.size : Int)) := by rw [← hW0]; clear hW0; simp [go_sem]
  have v3 : W0.cell? ⟨w1.heap.size, 3, none⟩ = some (.int .i64 10) := by rw [← hW0]; clear hW0; simp [go_sem]
  have v4 : W0.cell? ⟨w1.heap.size, 4, none⟩ = some (.int .i64 (d : Int)) := by rw [← hW0]; clear hW0; simp [go_sem]
  have v5 : W0.cell? ⟨w1.heap.size, 5, none⟩ = some (.int .i64 a) := by rw [← hW0]; clear hW0; simp [go_sem]
  have v6 : W0.cell? ⟨w1.heap.size, 6, none⟩ = some (.int .i64 b) := by rw [← hW0]; clear hW0; simp [go_sem]
  have v7 : W0.cell? ⟨w1.heap.size, 7, none⟩ = some (.int .i64 c) := by rw [← hW0]; clear hW0; simp [go_sem]
  have v8 : W0.cell? ⟨w1.heap.size, 8, none⟩ = some (.int .i64 li) := by rw [← hW0]; clear hW0; simp [go_sem]
  have u0 : W0.cell? ⟨w1.heap.size + 1, 0, none⟩ = some (.string s) := by rw [← hW0]; clear hW0; simp [go_sem]
  have u1 : W0.cell? ⟨w1.heap.size + 1, 1, none⟩ = some (.int .i64 (p : Int)) := by rw [← hW0]; clear hW0; simp [go_sem]
  have u2 : W0.cell? ⟨w1.heap.size + 1, 2, none⟩ = some (.int .i64 (s.size : Int)) := by rw [← hW0]; clear hW0; simp [go_sem]
  have u3 : W0.cell? ⟨w1.heap.size + 1, 3, none⟩ = some (.int .i64 10) := by rw [← hW0]; clear hW0; simp [go_sem]
  have u4 : W0.cell? ⟨w1.heap.size + 1, 4, none⟩ = some (.int .i64 ((d : Int) + (r : Int))) := by rw [← hW0]; clear hW0; simp [go_sem]
  have u5 : W0.cell? ⟨w1.heap.size + 1, 5, none⟩ = some (.int .i64 a) := by rw [← hW0]; clear hW0; simp [go_sem]
  have u6 : W0.cell? ⟨w1.heap.size + 1, 6, none⟩ = some (.int .i64 b) := by rw [← hW0]; clear hW0; simp [go_sem]
  have u7 : W0.cell? ⟨w1.heap.size + 1, 7, none⟩ = some (.int .i64 c) := by rw [← hW0]; clear hW0; simp [go_sem]
  have u8 : W0.cell? ⟨w1.heap.size + 1, 8, none⟩ = some (.int .i64 li) := by rw [← hW0]; clear hW0; simp [go_sem]
  have hS0 : W0.heap.size = w1.heap.size + 1 + 1 := by rw [← hW0]; simp
  have B0 : Below w.heap.size w W0 := by
    rw [← hW0]
    repeat' (first | exact Below.refl _ _ | refine Below.drew ?_ | refine below_drewN ?_ _ | refine Below.alloc ?_ (by first | omega | (simp <;> omega)) _ | refine Below.setCell ?_ (by first | omega | (simp <;> omega)) _ | refine Below.trans ?_ (Below.mono (by assumption) (by first | omega | (simp <;> omega))))
  rw [hW0]
  clear hW0 hb1 hn qM
  rcases hcase with rfl | ⟨rfl, hbt⟩
  case' inr => rw [hbt] at qC; clear hbt
  all_goals go_wp2_with (first | (go_at_call 23; (with_reducible refine (qA1 _).mono ?_); rintro e w2 ⟨pa, ca, hca, rfl, hoa, hrA, hb2⟩; have hz2 := hb2.size; have y0 : w2.cell? ⟨w1.heap.size + 1, 0, none⟩ = some (.string s) := (hb2.cell (p := ⟨w1.heap.size + 1, 0, none⟩) (by show w1.heap.size + 1 < _; omega)).trans u0; have y1 : w2.cell? ⟨w1.heap.size + 1, 1, none⟩ = some (.int .i64 (p : Int)) := (hb2.cell (p := ⟨w1.heap.size + 1, 1, none⟩) (by show w1.heap.size + 1 < _; omega)).trans u1; have y2 : w2.cell? ⟨w1.heap.size + 1, 2, none⟩ = some (.int .i64 (s.size : Int)) := (hb2.cell (p := ⟨w1.heap.size + 1, 2, none⟩) (by show w1.heap.size + 1 < _; omega)).trans u2; have y3 : w2.cell? ⟨w1.heap.size + 1, 3, none⟩ = some (.int .i64 10) := (hb2.cell (p := ⟨w1.heap.size + 1, 3, none⟩) (by show w1.heap.size + 1 < _; omega)).trans u3; have y4 : w2.cell? ⟨w1.heap.size + 1, 4, none⟩ = some (.int .i64 ((d : Int) + (r : Int))) := (hb2.cell (p := ⟨w1.heap.size + 1, 4, none⟩) (by show w1.heap.size + 1 < _; omega)).trans u4; have y5 : w2.cell? ⟨w1.heap.size + 1, 5, none⟩ = some (.int .i64 a) := (hb2.cell (p := ⟨w1.heap.size + 1, 5, none⟩) (by show w1.heap.size + 1 < _; omega)).trans u5; have y6 : w2.cell? ⟨w1.heap.size + 1, 6, none⟩ = some (.int .i64 b) := (hb2.cell (p := ⟨w1.heap.size + 1, 6, none⟩) (by show w1.heap.size + 1 < _; omega)).trans u6; have y7 : w2.cell? ⟨w1.heap.size + 1, 7, none⟩ = some (.int .i64 c) := (hb2.cell (p := ⟨w1.heap.size + 1, 7, none⟩) (by show w1.heap.size + 1 < _; omega)).trans u7; have y8 : w2.cell? ⟨w1.heap.size + 1, 8, none⟩ = some (.int .i64 li) := (hb2.cell (p := ⟨w1.heap.size + 1, 8, none⟩) (by show w1.heap.size + 1 < _; omega)).trans u8) | (go_at_call 23; (with_reducible refine (qA2 _).mono ?_); rintro e w3 ⟨pb, cb, hcb, rfl, hob, hrB, hb3⟩; have hz3 := hb3.size; have hrA3 := hrA.later hb3; have hsl := (fun w => run_slice_to (P := Try.prog) w 27 32 Try.underlying27 4 (by kernel_rfl) pb ms2.length cb ms1.length (Nat.le_trans hle hcb)); have hrB2 := hrB.take ms1.length; rw [HT.out] at hrB2; clear v0 v1 v2 v3 v4 v5 v6 v7 v8 u0 u1 u2 u3 u4 u5 u6 u7 u8 y0 y1 y2 y3 y4 y5 y6 y7 y8) | (go_at_call 20; refine (sameM_k _ _ ms1 _ _ _ _ rfl hrA3 hrB2 hm1).mono ?_; rintro e w4 ⟨rfl, hb4⟩; have hz4 := hb4.size; have hrA4 := hrA3.later hb4; have hrB4 := hrB.later hb4; clear hrA hrA3 hrB hrB2 hsl) | (go_at_call 25; (with_reducible refine (qB1 _ pa ca hrA4).mono ?_); rintro e w5 ⟨rfl, hb5⟩; have hz5 := hb5.size; have hrB5 := hrB4.later hb5) | (go_at_call 25; (with_reducible refine (qB2 _ pb cb (hrB5.later ((Below.refl _ _).alloc (Nat.le_refl _) _))).mono ?_); rintro e w6 ⟨rfl, hb6⟩; have hz6 := hb6.size; (simp at hz6); have k0 : w6.cell? ⟨w5.heap.size, 0, none⟩ = some (.int .i64 x1) := (hb6.cell (p := ⟨w5.heap.size, 0, none⟩) (by simp)).trans (by simp [go_sem]); have k1 : w6.cell? ⟨w5.heap.size, 1, none⟩ = some (.int .i64 x2) := (hb6.cell (p := ⟨w5.heap.size, 1, none⟩) (by simp)).trans (by simp [go_sem]); have k2 : w6.cell? ⟨w5.heap.size, 2, none⟩ = some (.int .i64 x3) := (hb6.cell (p := ⟨w5.heap.size, 2, none⟩) (by simp)).trans (by simp [go_sem]); have k3 : w6.cell? ⟨w5.heap.size, 3, none⟩ = some (.int .i64 x4) := (hb6.cell (p := ⟨w5.heap.size, 3, none⟩) (by simp)).trans (by simp [go_sem]); have hne : ¬ w5.heap.size = w6.heap.size := (by omega); have hne' : ¬ w6.heap.size = w5.heap.size := (by omega); have hlt56 : w5.heap.size < w6.heap.size := (by omega)) | (go_at_call 26; (with_reducible refine (qC _).mono ?_); rintro e w7 ⟨rfl, hb7⟩; have hz7 := hb7.size; (simp at hz7)) | (go_at_call 15; refine (mawake_t _).mono ?_; rintro e w1 ⟨rfl, hb⟩; have hsz := hb.size; (try simp at hsz)))
  all_goals go_light
  all_goals refine bodyPost_ret (v := .bool true) (by simp [results, Try.results5, go_sem, *]) rfl ⟨rfl, ?_⟩
  all_goals (repeat' (first | exact Below.refl _ _ | refine Below.drew ?_ | refine below_drewN ?_ _ | refine Below.alloc ?_ (by first | omega | (simp <;> omega)) _ | refine Below.setCell ?_ (by first | omega | (simp <;> omega)) _ | refine Below.trans ?_ (Below.mono (by assumption) (by first | omega | (simp <;> omega)))))
end Go.Proofs.Ytammacofhdbgcaa
