/-
  MatchChecks, walked.
-/
import Derived.Test.YtammacofhdbgcaaRows
import Derived.Test.YtammacofhdbgcaaMatchLaw
import Derived.Test.YtammacofhdbgcaaCommon
import Derived.Deep.Light
import Derived.Shelf.Abstract
import Derived.Shelf.RegionOpen
import Derived.OwnWalkIn
import Derived.TacticsInMore
import Derived.LoopNIn
import Derived.LoopIn
import Derived.Outline
namespace Go.Proofs.Ytammacofhdbgcaa
open Go.RowKit
set_option linter.unusedSimpArgs false
set_option linter.unusedVariables false
open Go.Shelf
attribute [local go_sem] eq32 Oper.semAt_some

set_option maxRecDepth 100000 in
set_option maxHeartbeats 2000000 in
theorem matchChecks_0 (s : ByteArray) (p e l d a b c li md ml mv mg : Int) (pl : Option Addr) (ms : List (Int × Int × Int × Int)) (cl : Nat) (w : World) (h : 400 < s.size ∨ 20 < ms.length) :
    Calls Try.prog 7 #[.agg #[.string s, .int .i64 p, .int .i64 e, .int .i64 l, .int .i64 d, .int .i64 a, .int .i64 b, .int .i64 c, .int .i64 li], .agg #[.int .i64 md, .int .i64 ml, .int .i64 mv, .int .i64 mg], .slice pl ms.length cl] w fun e' w' => e' = .returned (.bool true) ∧ Below w.heap.size w w' := by
  have hx : (400 : Int) < (s.size : Int) ∨ (¬ (400 : Int) < (s.size : Int) ∧ (20 : Int) < (ms.length : Int)) := by omega
  clear h
  rcases hx with g1 | ⟨g1, g2⟩
  all_goals
    go_enter Try.func7, Try.ntmps7
    go_wp2_with ((go_at_call 15; refine (mawake_t _).mono ?_; rintro e w1 ⟨rfl, hb⟩; have hsz := hb.size; (try simp at hsz)))
    repeat' (first | (go_region <;> go_wp2_with ((go_at_call 15; refine (mawake_t _).mono ?_; rintro e w1 ⟨rfl, hb⟩; have hsz := hb.size; (try simp at hsz)))))
    all_goals go_light
    all_goals (try simp only [beq_iff_eq, beq_eq_false_iff_ne, bne_iff_ne, bne_eq_false_iff_eq, ne_eq] at *)
    all_goals
      refine bodyPost_ret (v := .bool true) (by simp [results, Try.results7, go_sem, *]) rfl ⟨rfl, ?_⟩
      repeat' (first | exact Below.refl _ _ | refine Below.drew ?_ | refine below_drewN ?_ _ | refine Below.alloc ?_ (by first | omega | (simp <;> omega)) _ | refine Below.setCell ?_ (by first | omega | (simp <;> omega)) _ | refine Below.trans ?_ (Below.mono (by assumption) (by first | omega | (simp <;> omega))))

set_option maxRecDepth 100000 in
set_option maxHeartbeats 8000000 in
theorem matchChecks_1 (s : ByteArray) (p e l d a b c li md ml mv mg gv ge ck bd bl bv bg : Int) (fb : Bool) (pl : Option Addr) (ms : List (Int × Int × Int × Int)) (cl : Nat) (w : World) (h1 : s.size ≤ 400) (h2 : ms.length ≤ 20) (ha : RowM w pl ms)
    (q1 : ∀ w, Calls Try.prog 28 #[.int .i64 ml, .int .i64 mv] w fun e w' => e = .returned (.tuple #[.int .i64 gv, .int .i64 ge]) ∧ w' = w)
    (q2 : ∀ w, Calls Try.prog 30 #[.int .i64 ml, .int .i64 mv] w fun e w' => e = .returned (.tuple #[.int .i64 gv, .int .i64 ge]) ∧ w' = w)
    (q3 : ∀ w, RowM w pl ms → Calls Try.prog 25 #[.slice pl ms.length cl] w fun e w' => e = .returned (.tuple #[.agg #[.int .i64 bd, .int .i64 bl, .int .i64 bv, .int .i64 bg], .bool fb]) ∧ Below w.heap.size w w')
    (q4 : ∀ w, RowM w pl ms → Calls Try.prog 31 #[.slice pl ms.length cl] w fun e w' => e = .returned (.tuple #[.agg #[.int .i64 bd, .int .i64 bl, .int .i64 bv, .int .i64 bg], .bool fb]) ∧ Below w.heap.size w w')
    (q5 : ∀ w, Calls Try.prog 29 #[.string s, .int .i64 p, .int .i64 e, .int .i64 l, .agg #[.int .i64 md, .int .i64 ml, .int .i64 mv, .int .i64 mg]] w fun e' w' => e' = .returned (.int .i64 ck) ∧ Below w.heap.size w w')
    (q6 : ∀ w, Calls Try.prog 32 #[.string s, .int .i64 p, .int .i64 e, .int .i64 l, .agg #[.int .i64 md, .int .i64 ml, .int .i64 mv, .int .i64 mg]] w fun e' w' => e' = .returned (.int .i64 ck) ∧ Below w.heap.size w w') :
    Calls Try.prog 7 #[.agg #[.string s, .int .i64 p, .int .i64 e, .int .i64 l, .int .i64 d, .int .i64 a, .int .i64 b, .int .i64 c, .int .i64 li], .agg #[.int .i64 md, .int .i64 ml, .int .i64 mv, .int .i64 mg], .slice pl ms.length cl] w fun e' w' => e' = .returned (.bool true) ∧ Below w.heap.size w w' := by
  have g1 : ¬ (400 : Int) < (s.size : Int) := by omega
  have g2 : ¬ (20 : Int) < (ms.length : Int) := by omega
  have o1 : w.heap.size < w.heap.size + 1 + 1 := by omega
  go_enter Try.func7, Try.ntmps7
  go_wp2_with (first | (go_at_call 15; refine (mawake_t _).mono ?_; rintro e w1 ⟨rfl, hb⟩; have hsz := hb.size; (try simp at hsz)) | (go_at_call 28; refine (q1 _).mono ?_; rintro e w' ⟨rfl, rfl⟩) | (go_at_call 30; refine (q2 _).mono ?_; rintro e w' ⟨rfl, rfl⟩) | (go_at_call 25; refine (q3 _ (ha.later (by repeat' (first | exact Below.refl _ _ | refine Below.drew ?_ | refine below_drewN ?_ _ | refine Below.alloc ?_ (by first | omega | (simp <;> omega)) _ | refine Below.setCell ?_ (by first | omega | (simp <;> omega)) _ | refine Below.trans ?_ (Below.mono (by assumption) (by first | omega | (simp <;> omega))))))).mono ?_; rintro e wA ⟨rfl, hb⟩; have hsz := hb.size; (try simp at hsz); (first | (have hbl := blater2 HA (by first | exact Nat.le_refl _ | (simp; done) | (simp; omega)) hb; obtain ⟨hcc, hff, HA, hne, hne'⟩ := hbl) | (obtain ⟨hcc, hff, HA, hne, hne'⟩ := blater1 hb)); (try simp only [World.size_alloc, World.size_setCell] at HA)) | (go_at_call 31; refine (q4 _ (ha.later (by repeat' (first | exact Below.refl _ _ | refine Below.drew ?_ | refine below_drewN ?_ _ | refine Below.alloc ?_ (by first | omega | (simp <;> omega)) _ | refine Below.setCell ?_ (by first | omega | (simp <;> omega)) _ | refine Below.trans ?_ (Below.mono (by assumption) (by first | omega | (simp <;> omega))))))).mono ?_; rintro e wB ⟨rfl, hb⟩; have hsz := hb.size; (try simp at hsz); (first | (have hbl := blater2 HA (by first | exact Nat.le_refl _ | (simp; done) | (simp; omega)) hb; obtain ⟨hcc, hff, HA, hne, hne'⟩ := hbl) | (obtain ⟨hcc, hff, HA, hne, hne'⟩ := blater1 hb)); (try simp only [World.size_alloc, World.size_setCell] at HA)))
  obtain ⟨W2, hW2⟩ : ∃ W2, (wB.alloc (.cells #[.int .i64 bd, .int .i64 bl, .int .i64 bv, .int .i64 bg] 32)) = W2 := ⟨_, rfl⟩
  have v0 : W2.cell? ⟨w.heap.size, 0, none⟩ = some (.string s) := by rw [← hW2]; clear hW2; simp [go_sem, *]
  have v1 : W2.cell? ⟨w.heap.size, 1, none⟩ = some (.int .i64 p) := by rw [← hW2]; clear hW2; simp [go_sem, *]
  have v2 : W2.cell? ⟨w.heap.size, 2, none⟩ = some (.int .i64 e) := by rw [← hW2]; clear hW2; simp [go_sem, *]
  have v3 : W2.cell? ⟨w.heap.size, 3, none⟩ = some (.int .i64 l) := by rw [← hW2]; clear hW2; simp [go_sem, *]
  have x0 : W2.cell? ⟨w.heap.size + 1, 0, none⟩ = some (.int .i64 md) := by rw [← hW2]; clear hW2; simp [go_sem, *]
  have x1 : W2.cell? ⟨w.heap.size + 1, 1, none⟩ = some (.int .i64 ml) := by rw [← hW2]; clear hW2; simp [go_sem, *]
  have x2 : W2.cell? ⟨w.heap.size + 1, 2, none⟩ = some (.int .i64 mv) := by rw [← hW2]; clear hW2; simp [go_sem, *]
  have x3 : W2.cell? ⟨w.heap.size + 1, 3, none⟩ = some (.int .i64 mg) := by rw [← hW2]; clear hW2; simp [go_sem, *]
  have a0 : W2.cell? ⟨wA.heap.size, 0, none⟩ = some (.int .i64 bd) := by rw [← hW2]; clear hW2; simp [go_sem, *]
  have a1 : W2.cell? ⟨wA.heap.size, 1, none⟩ = some (.int .i64 bl) := by rw [← hW2]; clear hW2; simp [go_sem, *]
  have a2 : W2.cell? ⟨wA.heap.size, 2, none⟩ = some (.int .i64 bv) := by rw [← hW2]; clear hW2; simp [go_sem, *]
  have a3 : W2.cell? ⟨wA.heap.size, 3, none⟩ = some (.int .i64 bg) := by rw [← hW2]; clear hW2; simp [go_sem, *]
  have b0 : W2.cell? ⟨wB.heap.size, 0, none⟩ = some (.int .i64 bd) := by rw [← hW2]; clear hW2; simp [go_sem, *]
  have b1 : W2.cell? ⟨wB.heap.size, 1, none⟩ = some (.int .i64 bl) := by rw [← hW2]; clear hW2; simp [go_sem, *]
  have b2 : W2.cell? ⟨wB.heap.size, 2, none⟩ = some (.int .i64 bv) := by rw [← hW2]; clear hW2; simp [go_sem, *]
  have b3 : W2.cell? ⟨wB.heap.size, 3, none⟩ = some (.int .i64 bg) := by rw [← hW2]; clear hW2; simp [go_sem, *]
  have B0 : Below w.heap.size w W2 := by
    rw [← hW2]
    repeat' (first | exact Below.refl _ _ | refine Below.drew ?_ | refine below_drewN ?_ _ | refine Below.alloc ?_ (by first | omega | (simp <;> omega)) _ | refine Below.setCell ?_ (by first | omega | (simp <;> omega)) _ | refine Below.trans ?_ (Below.mono (by assumption) (by first | omega | (simp <;> omega))))
  have hS : W2.heap.size = wB.heap.size + 1 := by rw [← hW2]; simp
  have hsA : w.heap.size + 2 ≤ wA.heap.size := by omega
  have hsB : wA.heap.size + 1 ≤ wB.heap.size := by omega
  rw [hW2]
  have hR := ha.later B0
  clear hW2 hcc hff HA hne hne' hsz hb q1 q2 q3 q4 ha
  have l0 : w.heap.size < W2.heap.size := by omega
  have hlw : w.heap.size + 1 < W2.heap.size := by omega
  have l2 : wA.heap.size < W2.heap.size := by omega
  have l3 : wB.heap.size < W2.heap.size := by omega
  clear hS hsA hsB
  refine wp_region_later1 (by kernel_rfl) (by kernel_rfl) ?_
  intro hLC
  repeat (go_big_quiet_step (first | (go_at_call 29; exact Calls.later_of (q5 _)) | (go_at_call 32; exact Calls.later_of (q6 _))))
  refine wpQuiet_nil ?_
  intro w2 hb2
  clear hLC a0 a1 a2 a3 b0 b1 b2 b3 v0 v1 v2 v3
  replace x0 := (hb2.cell (p := ⟨w.heap.size + 1, 0, none⟩) hlw).trans x0
  replace x1 := (hb2.cell (p := ⟨w.heap.size + 1, 1, none⟩) hlw).trans x1
  replace x2 := (hb2.cell (p := ⟨w.heap.size + 1, 2, none⟩) hlw).trans x2
  replace x3 := (hb2.cell (p := ⟨w.heap.size + 1, 3, none⟩) hlw).trans x3
  replace hR := hR.later hb2
  have hs2 := hb2.size
  replace B0 := B0.trans (hb2.mono (by omega))
  replace hlw : w.heap.size + 1 < w2.heap.size := by omega
  clear hb2 l0 l2 l3 q5 q6
  go_wp2
  go_loopw [15] (fun i wr => ∃ k : Nat, k ≤ ms.length ∧ i = .int .i64 k ∧ Below w2.heap.size w2 wr) (fun i _ => ms.length - (intOf i).toNat)
  case atStart => exact ⟨0, by omega, rfl, Below.refl _ _⟩
  case round =>
    obtain ⟨k, hk, rfl, hbw⟩ := hrel
    have hsw := hbw.size
    by_cases hlt : k < ms.length
    · obtain ⟨b1, o1, rfl, hb1, hc1⟩ := (hR.later hbw).at hlt
      obtain ⟨c1, c2, c3, c4⟩ := hc1 k hlt
      obtain ⟨⟨x, y, z, u⟩, hx⟩ : ∃ q, ms.getD k (0, 0, 0, 0) = q := ⟨_, rfl⟩
      rw [hx] at c1 c2 c3 c4
      dsimp only at c1 c2 c3 c4
      have y0 := (hbw.cell (p := ⟨w.heap.size + 1, 0, none⟩) hlw).trans x0
      have y1 := (hbw.cell (p := ⟨w.heap.size + 1, 1, none⟩) hlw).trans x1
      have y2 := (hbw.cell (p := ⟨w.heap.size + 1, 2, none⟩) hlw).trans x2
      have y3 := (hbw.cell (p := ⟨w.heap.size + 1, 3, none⟩) hlw).trans x3
      have hl2 : w.heap.size + 1 < wr.heap.size := by omega
      have i0 : (0 : Int) ≤ (k : Int) := by omega
      have i1 : (k : Int) < (ms.length : Int) := by omega
      have r1 := fun w => better_p (x, y, z, u) (md, ml, mv, mg) w
      have r2 := fun w => rbetter_p (x, y, z, u) (md, ml, mv, mg) w
      have r3 := fun w => better_p (md, ml, mv, mg) (x, y, z, u) w
      have r4 := fun w => rbetter_p (md, ml, mv, mg) (x, y, z, u) w
      generalize mbet (x, y, z, u) (md, ml, mv, mg) = f1 at r1 r2
      generalize mbet (md, ml, mv, mg) (x, y, z, u) = f2 at r3 r4
      dsimp only at r1 r2 r3 r4
      clear hc1 hx x0 x1 x2 x3 hR
      go_wp2
      refine wp_region_later1 (by kernel_rfl) (by kernel_rfl) ?_
      intro hLC
      repeat (go_big_quiet_step (first | (go_at_call 26; first | (with_reducible exact Calls.later_of (r1 _)) | (with_reducible exact Calls.later_of (r3 _))) | (go_at_call 33; first | (with_reducible exact Calls.later_of (r2 _)) | (with_reducible exact Calls.later_of (r4 _)))))
      refine wpQuiet_nil ?_
      intro wB hbB
      clear hLC
      have hsB := hbB.size
      go_wp2
      go_roundw
      case rel => exact ⟨k + 1, by omega, by go_num, hbw.trans (hbB.mono hsw)⟩
      case measure => go_light; simp [intOf] <;> omega
    · obtain rfl : k = ms.length := by omega
      go_wp2_with ((go_at_call 15; refine (mawake_t _).mono ?_; rintro e w1 ⟨rfl, hb⟩; have hsz := hb.size; (try simp at hsz)))
      go_light
      refine bodyPost_ret (v := .bool true) (by simp [results, Try.results7, go_sem, *]) rfl ⟨rfl, ?_⟩
      repeat' (first | exact Below.refl _ _ | refine Below.drew ?_ | refine below_drewN ?_ _ | refine Below.alloc ?_ (by first | omega | (simp <;> omega)) _ | refine Below.setCell ?_ (by first | omega | (simp <;> omega)) _ | refine Below.trans ?_ (Below.mono (by assumption) (by first | omega | (simp <;> omega))))
theorem matchChecks_t (s : ByteArray) (p e l d a b c li md ml mv mg : Int) (pl : Option Addr) (ms : List (Int × Int × Int × Int)) (cl : Nat) (w : World) (hl : s.size ≤ 9223372036854775807) (ha : RowM w pl ms) :
    Calls Try.prog 7 #[.agg #[.string s, .int .i64 p, .int .i64 e, .int .i64 l, .int .i64 d, .int .i64 a, .int .i64 b, .int .i64 c, .int .i64 li], .agg #[.int .i64 md, .int .i64 ml, .int .i64 mv, .int .i64 mg], .slice pl ms.length cl] w fun e' w' => e' = .returned (.bool true) ∧ Below w.heap.size w w' := by
  by_cases h : 400 < s.size ∨ 20 < ms.length
  · exact matchChecks_0 s p e l d a b c li md ml mv mg pl ms cl w h
  · exact matchChecks_1 s p e l d a b c li md ml mv mg _ _ _ _ _ _ _ _ pl ms cl w (by omega) (by omega) ha (fun w => gain_p ml mv w) (fun w => rgain_p ml mv w) (fun w h => best_p pl ms cl w h (by omega)) (fun w h => rbest_p pl ms cl w h (by omega)) (fun w => mcheck_p s p e l md ml mv mg w hl) (fun w => rmcheck_p s p e l md ml mv mg w hl)
end Go.Proofs.Ytammacofhdbgcaa
