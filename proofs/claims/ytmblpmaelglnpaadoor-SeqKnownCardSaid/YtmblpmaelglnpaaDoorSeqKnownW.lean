/-
  SeqKnown: the statement's function, walked.
-/
import Derived.Test.YtmblpmaelglnpaaDoorRows
import Derived.Test.YtmblpmaelglnpaaDoorSeqLaw1
import Derived.Test.YtmblpmaelglnpaaDoorSeqOf3
import Derived.Test.YtmblpmaelglnpaaDoorSeqSums
import Derived.Test.YtmblpmaelglnpaaDoorGBase
import Derived.Deep.Light
import Derived.Shelf.Abstract
import Derived.Shelf.RegionOpen
import Derived.OwnWalkIn
import Derived.TacticsInMore
import Derived.LoopNIn
import Derived.LoopIn
import Derived.Maps.OwnIn
import Derived.Outline
import Derived.IntWalk
import Derived.WalkMore
namespace Go.Proofs.YtmblpmaelglnpaaDoor
open Go.RowKit
set_option linter.unusedSimpArgs false
set_option linter.unusedVariables false
open Go.Shelf
attribute [local go_sem] eq23 Oper.semAt_some

theorem rowQ_cells2 {w : World} {B : Nat} {x y z : Int} (h0 : w.cell? ⟨B, 0, none⟩ = some (.int .i64 x)) (h1 : w.cell? ⟨B, 1, none⟩ = some (.int .i64 y)) (h2 : w.cell? ⟨B, 2, none⟩ = some (.int .i64 z)) : RowQ w (some ⟨B, 0, none⟩) [(x, y, z)] := by
  refine .inr ⟨B, 0, rfl, World.block_lt_of_cell? w ⟨B, 0, none⟩ h0, fun i hi => ?_⟩
  obtain rfl : i = 0 := by simpa using hi
  exact ⟨h0, h1, h2⟩
theorem row_one {w : World} {B : Nat} {x : Int} (h : w.cell? ⟨B, 0, none⟩ = some (.int .i64 x)) : Row .i64 w (some ⟨B, 0, none⟩) [x] := by
  refine .inr ⟨B, 0, rfl, World.block_lt_of_cell? w ⟨B, 0, none⟩ h, fun i hi => ?_⟩
  obtain rfl : i = 0 := by simpa using hi
  exact h
theorem rowQ_two (w : World) (x y z x' y' z' : Int) (t : TypeId) : RowQ (w.alloc (.cells #[.int .i64 x, .int .i64 y, .int .i64 z, .int .i64 x', .int .i64 y', .int .i64 z'] t)) (some ⟨w.heap.size, 0, none⟩) [(x, y, z), (x', y', z')] := by
  refine .inr ⟨w.heap.size, 0, rfl, by simp, fun i hi => ?_⟩
  have hi2 : i = 0 ∨ i = 1 := by simp at hi; omega
  rcases hi2 with rfl | rfl
  · exact ⟨by simp [go_sem], by simp [go_sem], by simp [go_sem]⟩
  · exact ⟨by simp [go_sem], by simp [go_sem], by simp [go_sem]⟩
set_option maxRecDepth 100000 in
set_option maxHeartbeats 4000000 in
theorem fails_t (x y z : Int) (before : ByteArray) (win E : Int) (w : World) (hbf : before.size ≤ 9223372036854775807) (hg : w.cell? ⟨0, 0, none⟩ = some (.iface 165 (.agg #[.pointer (some ⟨9, 74, none⟩)])))
    (h : Rexec [(x, y, z)] ⟨#[]⟩ before 1 4 8 win = (⟨#[]⟩, (0, 0, 0), E)) :
    Calls Tryd.prog 37 #[.agg #[.int .i64 (x), .int .i64 (y), .int .i64 (z)], .string before, .int .i64 win, .int .i64 E] w fun e w' => e = .returned (.bool true) ∧ Below w.heap.size w w' := by
  have hl0 : 0 < w.heap.size := World.block_lt_of_cell? w ⟨0, 0, none⟩ hg
  have qE := fun w a h0 hg => pexec_p a [(x, y, z)] 1 ⟨#[]⟩ before 1 4 8 win w h0 (by simp) (by decide) hbf hg
  rw [h] at qE
  dsimp only at qE
  clear h
  go_enter Tryd.func37, Tryd.ntmps37
  go_wp2
  have B4 : Below w.heap.size w (w.alloc (.cells #[.int .i64 x, .int .i64 y, .int .i64 z] 35)) := by repeat' (first | with_reducible exact Below.refl _ _ | with_reducible refine Below.drew ?_ | with_reducible refine below_drewN ?_ _ | with_reducible refine Below.alloc ?_ (by first | omega | (simp <;> omega)) _ | with_reducible refine Below.setCell ?_ (by first | omega | (dsimp only; omega) | (simp <;> omega)) _ | with_reducible refine Below.trans ?_ (Below.mono (by assumption) (by first | omega | (simp <;> omega))))
  have bX : Blk (w.alloc (.cells #[.int .i64 x, .int .i64 y, .int .i64 z] 35)) w.heap.size 35 [.int .i64 x, .int .i64 y, .int .i64 z] := Blk.new w 35 #[.int .i64 x, .int .i64 y, .int .i64 z]
  obtain ⟨w4, hw4⟩ : ∃ w4, w.alloc (.cells #[.int .i64 x, .int .i64 y, .int .i64 z] 35) = w4 := ⟨_, rfl⟩
  obtain ⟨H, hH⟩ : ∃ x, w.heap.size = x := ⟨_, rfl⟩
  rw [hw4] at B4 bX ⊢
  rw [hH] at bX ⊢
  have hs4 := B4.size
  have lX := bX.lt
  have hg4 : w4.cell? ⟨0, 0, none⟩ = some (.iface 165 (.agg #[.pointer (some ⟨9, 74, none⟩)])) := (B4.cell (p := ⟨0, 0, none⟩) hl0).trans hg
  have hl4 : 0 < w4.heap.size := by omega
  have b0 := bX.cell 0
  have b1 := bX.cell 1
  have b2 := bX.cell 2
  clear hw4
  go_cut [9, 10, 11] from 12 to 21 (fun s9 s10 s11 wx => ∃ BY : Nat, s9 = .string ⟨#[]⟩ ∧ s10 = .pointer (some ⟨BY, 0, none⟩) ∧ s11 = .int .i64 E ∧ wx.cell? ⟨BY, 0, none⟩ = some (.int .i64 0) ∧ wx.cell? ⟨BY, 1, none⟩ = some (.int .i64 0) ∧ wx.cell? ⟨BY, 2, none⟩ = some (.int .i64 0) ∧ Below w4.heap.size w4 wx)
  case first =>
    have pl01 : w4.heap.size < w4.heap.size + 1 := (by omega)
    have pl02 : w4.heap.size < w4.heap.size + 1 + 1 := (by omega)
    have pl03 : w4.heap.size < w4.heap.size + 1 + 1 + 1 := (by omega)
    have pl12 : w4.heap.size + 1 < w4.heap.size + 1 + 1 := (by omega)
    have pl13 : w4.heap.size + 1 < w4.heap.size + 1 + 1 + 1 := (by omega)
    have pl23 : w4.heap.size + 1 + 1 < w4.heap.size + 1 + 1 + 1 := (by omega)
    have h0 : H < w4.heap.size := by omega
    have h1 : H < w4.heap.size + 1 := by omega
    have h2 : H < w4.heap.size + 1 + 1 := by omega
    have h3 : H < w4.heap.size + 1 + 1 + 1 := by omega
    go_region_held3 (fun w' => w'.cell? ⟨H, 0, none⟩ = some (.int .i64 x) ∧ w'.cell? ⟨H, 1, none⟩ = some (.int .i64 y) ∧ w'.cell? ⟨H, 2, none⟩ = some (.int .i64 z)) (first | (simp [go_sem, *]; done) | go_keep) (first | (go_at_call 20; refine (first_s20 _).mono ?_; rintro en w5 ⟨rfl, hb5⟩; have hs5 := hb5.size; (try simp at hs5); have ql01 : w5.heap.size < w5.heap.size + 1 := (by omega); have ql02 : w5.heap.size < w5.heap.size + 1 + 1 := (by omega); have ql03 : w5.heap.size < w5.heap.size + 1 + 1 + 1 := (by omega); have ql12 : w5.heap.size + 1 < w5.heap.size + 1 + 1 := (by omega); have ql13 : w5.heap.size + 1 < w5.heap.size + 1 + 1 + 1 := (by omega); have ql23 : w5.heap.size + 1 + 1 < w5.heap.size + 1 + 1 + 1 := (by omega); (try (have y00 : w4.heap.size < w5.heap.size := (by omega))); (try (have y01 : w4.heap.size < w5.heap.size + 1 := (by omega))); (try (have y02 : w4.heap.size < w5.heap.size + 1 + 1 := (by omega))); (try (have y10 : w4.heap.size + 1 < w5.heap.size := (by omega))); (try (have y11 : w4.heap.size + 1 < w5.heap.size + 1 := (by omega))); (try (have y12 : w4.heap.size + 1 < w5.heap.size + 1 + 1 := (by omega))); (have hh0 : H < w5.heap.size := (by omega)); (have hh1 : H < w5.heap.size + 1 := (by omega)); (have hh2 : H < w5.heap.size + 1 + 1 := (by omega)); (try (have u00 := hb5.cell (p := ⟨w4.heap.size, 0, none⟩) (by first | (simp; done) | (simp; omega)); (try simp [go_sem] at u00))); (try (have u01 := hb5.cell (p := ⟨w4.heap.size, 1, none⟩) (by first | (simp; done) | (simp; omega)); (try simp [go_sem] at u01))); (try (have u02 := hb5.cell (p := ⟨w4.heap.size, 2, none⟩) (by first | (simp; done) | (simp; omega)); (try simp [go_sem] at u02))); (try (have u10 := hb5.cell (p := ⟨w4.heap.size + 1, 0, none⟩) (by first | (simp; done) | (simp; omega)); (try simp [go_sem] at u10))); (try (have u11 := hb5.cell (p := ⟨w4.heap.size + 1, 1, none⟩) (by first | (simp; done) | (simp; omega)); (try simp [go_sem] at u11))); (try (have u12 := hb5.cell (p := ⟨w4.heap.size + 1, 2, none⟩) (by first | (simp; done) | (simp; omega)); (try simp [go_sem] at u12))); (try (have v00 := hb5.frozen (p := ⟨w4.heap.size, 0, none⟩) (by first | (simp; done) | (simp; omega)); (try simp [go_sem] at v00))); (try (have v01 := hb5.frozen (p := ⟨w4.heap.size, 1, none⟩) (by first | (simp; done) | (simp; omega)); (try simp [go_sem] at v01))); (try (have v02 := hb5.frozen (p := ⟨w4.heap.size, 2, none⟩) (by first | (simp; done) | (simp; omega)); (try simp [go_sem] at v02))); (try (have v10 := hb5.frozen (p := ⟨w4.heap.size + 1, 0, none⟩) (by first | (simp; done) | (simp; omega)); (try simp [go_sem] at v10))); (try (have v11 := hb5.frozen (p := ⟨w4.heap.size + 1, 1, none⟩) (by first | (simp; done) | (simp; omega)); (try simp [go_sem] at v11))); (try (have v12 := hb5.frozen (p := ⟨w4.heap.size + 1, 2, none⟩) (by first | (simp; done) | (simp; omega)); (try simp [go_sem] at v12))); have kw50 : w5.cell? ⟨H, 0, none⟩ = some (.int .i64 x) := (hb5.cell (p := ⟨H, 0, none⟩) (by first | (simp; done) | (simp; omega))).trans (by simp [go_sem, *]); have kw51 : w5.cell? ⟨H, 1, none⟩ = some (.int .i64 y) := (hb5.cell (p := ⟨H, 1, none⟩) (by first | (simp; done) | (simp; omega))).trans (by simp [go_sem, *]); have kw52 : w5.cell? ⟨H, 2, none⟩ = some (.int .i64 z) := (hb5.cell (p := ⟨H, 2, none⟩) (by first | (simp; done) | (simp; omega))).trans (by simp [go_sem, *])) | (go_at_call 17; refine (qE _ _ (rowQ_cells2 (by first | (simp [go_sem]; done) | exact u00 | exact u10 | exact ((show Below w5.heap.size w5 _ by repeat' (first | with_reducible exact Below.refl _ _ | with_reducible refine Below.drew ?_ | with_reducible refine below_drewN ?_ _ | with_reducible refine Below.alloc ?_ (by first | omega | (simp <;> omega)) _ | with_reducible refine Below.setCell ?_ (by first | omega | (dsimp only; omega) | (simp <;> omega)) _ | with_reducible refine Below.trans ?_ (Below.mono (by assumption) (by first | omega | (simp <;> omega))))).cell (p := ⟨w4.heap.size, 0, none⟩) y00).trans u00 | exact ((show Below w5.heap.size w5 _ by repeat' (first | with_reducible exact Below.refl _ _ | with_reducible refine Below.drew ?_ | with_reducible refine below_drewN ?_ _ | with_reducible refine Below.alloc ?_ (by first | omega | (simp <;> omega)) _ | with_reducible refine Below.setCell ?_ (by first | omega | (dsimp only; omega) | (simp <;> omega)) _ | with_reducible refine Below.trans ?_ (Below.mono (by assumption) (by first | omega | (simp <;> omega))))).cell (p := ⟨w4.heap.size + 1, 0, none⟩) y10).trans u10) (by first | (simp [go_sem]; done) | exact u01 | exact u11 | exact ((show Below w5.heap.size w5 _ by repeat' (first | with_reducible exact Below.refl _ _ | with_reducible refine Below.drew ?_ | with_reducible refine below_drewN ?_ _ | with_reducible refine Below.alloc ?_ (by first | omega | (simp <;> omega)) _ | with_reducible refine Below.setCell ?_ (by first | omega | (dsimp only; omega) | (simp <;> omega)) _ | with_reducible refine Below.trans ?_ (Below.mono (by assumption) (by first | omega | (simp <;> omega))))).cell (p := ⟨w4.heap.size, 1, none⟩) y00).trans u01 | exact ((show Below w5.heap.size w5 _ by repeat' (first | with_reducible exact Below.refl _ _ | with_reducible refine Below.drew ?_ | with_reducible refine below_drewN ?_ _ | with_reducible refine Below.alloc ?_ (by first | omega | (simp <;> omega)) _ | with_reducible refine Below.setCell ?_ (by first | omega | (dsimp only; omega) | (simp <;> omega)) _ | with_reducible refine Below.trans ?_ (Below.mono (by assumption) (by first | omega | (simp <;> omega))))).cell (p := ⟨w4.heap.size + 1, 1, none⟩) y10).trans u11) (by first | (simp [go_sem]; done) | exact u02 | exact u12 | exact ((show Below w5.heap.size w5 _ by repeat' (first | with_reducible exact Below.refl _ _ | with_reducible refine Below.drew ?_ | with_reducible refine below_drewN ?_ _ | with_reducible refine Below.alloc ?_ (by first | omega | (simp <;> omega)) _ | with_reducible refine Below.setCell ?_ (by first | omega | (dsimp only; omega) | (simp <;> omega)) _ | with_reducible refine Below.trans ?_ (Below.mono (by assumption) (by first | omega | (simp <;> omega))))).cell (p := ⟨w4.heap.size, 2, none⟩) y00).trans u02 | exact ((show Below w5.heap.size w5 _ by repeat' (first | with_reducible exact Below.refl _ _ | with_reducible refine Below.drew ?_ | with_reducible refine below_drewN ?_ _ | with_reducible refine Below.alloc ?_ (by first | omega | (simp <;> omega)) _ | with_reducible refine Below.setCell ?_ (by first | omega | (dsimp only; omega) | (simp <;> omega)) _ | with_reducible refine Below.trans ?_ (Below.mono (by assumption) (by first | omega | (simp <;> omega))))).cell (p := ⟨w4.heap.size + 1, 2, none⟩) y10).trans u12)) (by refine ((show Below w4.heap.size w4 _ by repeat' (first | with_reducible exact Below.refl _ _ | with_reducible refine Below.drew ?_ | with_reducible refine below_drewN ?_ _ | with_reducible refine Below.alloc ?_ (by first | omega | (simp <;> omega)) _ | with_reducible refine Below.setCell ?_ (by first | omega | (dsimp only; omega) | (simp <;> omega)) _ | with_reducible refine Below.trans ?_ (Below.mono (by assumption) (by first | omega | (simp <;> omega))))).cell (p := ⟨0, 0, none⟩) hl4).trans hg4)).mono ?_; rintro en w6 ⟨rfl, hb6⟩; have hsz := hb6.size; (try simp at hsz); (first | (have hbl := blater2 HA (by first | exact Nat.le_refl _ | (simp; done) | (simp; omega)) hb6; obtain ⟨hcc, hff, HA, hne, hne'⟩ := hbl) | (obtain ⟨hcc, hff, HA, hne, hne'⟩ := blater1 hb6)); (try simp only [World.size_alloc, World.size_setCell] at HA); have kw60 : w6.cell? ⟨H, 0, none⟩ = some (.int .i64 x) := (hb6.cell (p := ⟨H, 0, none⟩) (by first | (simp; done) | (simp; omega))).trans (by simp [go_sem, *]); have kw61 : w6.cell? ⟨H, 1, none⟩ = some (.int .i64 y) := (hb6.cell (p := ⟨H, 1, none⟩) (by first | (simp; done) | (simp; omega))).trans (by simp [go_sem, *]); have kw62 : w6.cell? ⟨H, 2, none⟩ = some (.int .i64 z) := (hb6.cell (p := ⟨H, 2, none⟩) (by first | (simp; done) | (simp; omega))).trans (by simp [go_sem, *])))
    all_goals (go_wp2_with fail; go_meet; go_light)
    all_goals
      refine ⟨_, rfl, rfl, rfl, by simp [go_sem, *], by simp [go_sem, *], by simp [go_sem, *], ?_⟩
      repeat' (first | with_reducible exact Below.refl _ _ | with_reducible refine Below.drew ?_ | with_reducible refine below_drewN ?_ _ | with_reducible refine Below.alloc ?_ (by first | omega | (simp <;> omega)) _ | with_reducible refine Below.setCell ?_ (by first | omega | (dsimp only; omega) | (simp <;> omega)) _ | with_reducible refine Below.trans ?_ (Below.mono (by assumption) (by first | omega | (simp <;> omega))))
  case rest =>
    obtain ⟨BY, rfl, rfl, rfl, y0, y1, y2, hb⟩ := hcut
    go_wp2
    go_light
    refine bodyPost_ret (v := .bool true) (by simp [results, Tryd.results37, go_sem, *]) rfl ⟨rfl, B4.trans (hb.mono hs4)⟩

theorem kn_d1 : Rexec [] { data := #[97, 98] } { data := #[] } 1 4 8 9 = ({ data := #[97, 98] }, (1, 4, 8), 0) := by decide +kernel
theorem kn_d2 : Rexec [(0, 3, 1)] { data := #[] } { data := #[120, 120, 120, 120] } 1 4 8 9 = ({ data := #[120, 120, 120] }, (4, 1, 8), 0) := by decide +kernel
theorem kn_f1 : Rexec [(1, 3, 4)] ⟨#[]⟩ { data := #[120] } 1 4 8 9 = (⟨#[]⟩, (0, 0, 0), 24) := by decide +kernel
theorem kn_f2 : Rexec [(0, 3, 5)] ⟨#[]⟩ { data := #[120] } 1 4 8 9 = (⟨#[]⟩, (0, 0, 0), 25) := by decide +kernel
theorem kn_f3 : Rexec [(0, 3, 5)] ⟨#[]⟩ { data := #[120, 121] } 1 4 8 1 = (⟨#[]⟩, (0, 0, 0), 25) := by decide +kernel
theorem kn_f4 : Rexec [(0, 3, 3)] ⟨#[]⟩ { data := #[120] } 1 4 8 9 = (⟨#[]⟩, (0, 0, 0), 25) := by decide +kernel
theorem kn_of : Rof { data := #[] } { data := #[97, 98, 97, 98, 97, 98, 97, 99] } [2] [2] [5] 1 4 8 = ([(2, 5, 5)], { data := #[97, 98, 99] }, (2, 1, 4), 0) := by decide +kernel

set_option maxRecDepth 100000 in
set_option maxHeartbeats 8000000 in
theorem seqKnown_t (w : World) (hg : w.cell? ⟨0, 0, none⟩ = some (.iface 165 (.agg #[.pointer (some ⟨9, 74, none⟩)]))) :
    Calls Tryd.prog 9 #[] w fun e w' => e = .returned (.bool true) ∧ Below w.heap.size w w' := by
  have hl0 : 0 < w.heap.size := World.block_lt_of_cell? w ⟨0, 0, none⟩ hg
  have qD1 : ∀ w : World, w.cell? ⟨0, 0, none⟩ = some (.iface 165 (.agg #[.pointer (some ⟨9, 74, none⟩)])) → Calls Tryd.prog 36 #[.slice none 0 0, .string { data := #[97, 98] }, .string { data := #[] }, .int .i64 9, .string { data := #[97, 98] }, .agg #[.int .i64 (1), .int .i64 (4), .int .i64 (8)]] w fun e w' => e = .returned (.bool true) ∧ Below w.heap.size w w' := fun (w : World) hg => does_t none [] 0 { data := #[97, 98] } { data := #[] } { data := #[97, 98] } 1 4 8 9 w (.inl rfl) (by decide) (by decide) (by decide) hg kn_d1
  have qD2 : ∀ (w : World) a, RowQ w a [(0, 3, 1)] → w.cell? ⟨0, 0, none⟩ = some (.iface 165 (.agg #[.pointer (some ⟨9, 74, none⟩)])) → Calls Tryd.prog 36 #[.slice a 1 1, .string { data := #[] }, .string { data := #[120, 120, 120, 120] }, .int .i64 9, .string { data := #[120, 120, 120] }, .agg #[.int .i64 (4), .int .i64 (1), .int .i64 (8)]] w fun e w' => e = .returned (.bool true) ∧ Below w.heap.size w w' := fun (w : World) a h hg => does_t a [(0, 3, 1)] 1 { data := #[] } { data := #[120, 120, 120, 120] } { data := #[120, 120, 120] } 4 1 8 9 w h (by decide) (by decide) (by decide) hg kn_d2
  have qF1 := fun (w : World) hg => fails_t 1 3 4 { data := #[120] } 9 24 w (by decide) hg kn_f1
  have qF2 := fun (w : World) hg => fails_t 0 3 5 { data := #[120] } 9 25 w (by decide) hg kn_f2
  have qF3 := fun (w : World) hg => fails_t 0 3 5 { data := #[120, 121] } 1 25 w (by decide) hg kn_f3
  have qF4 := fun (w : World) hg => fails_t 0 3 3 { data := #[120] } 9 25 w (by decide) hg kn_f4
  have qC1 : ∀ (w : World) a, RowQ w a [(1, 2, 1)] → Calls Tryd.prog 27 #[.slice a 1 1] w fun e w' => e = .returned (.int .i64 2) ∧ Below w.heap.size w w' := fun (w : World) a h => by
    have := scheck_p a [(1, 2, 1)] 1 w h (by decide)
    rw [show schk [(1, 2, 1)] = 2 by decide +kernel] at this
    exact this
  have qC2 : ∀ (w : World) a, RowQ w a [(-1, 3, 1)] → Calls Tryd.prog 27 #[.slice a 1 1] w fun e w' => e = .returned (.int .i64 2) ∧ Below w.heap.size w w' := fun (w : World) a h => by
    have := scheck_p a [(-1, 3, 1)] 1 w h (by decide)
    rw [show schk [(-1, 3, 1)] = 2 by decide +kernel] at this
    exact this
  have qC3 : ∀ (w : World) a, RowQ w a [(0, 3, 0)] → Calls Tryd.prog 27 #[.slice a 1 1] w fun e w' => e = .returned (.int .i64 2) ∧ Below w.heap.size w w' := fun (w : World) a h => by
    have := scheck_p a [(0, 3, 0)] 1 w h (by decide)
    rw [show schk [(0, 3, 0)] = 2 by decide +kernel] at this
    exact this
  have qT := fun (w : World) a (h : RowQ w a [(2, 5, 2), (1, 3, 1)]) => lits_p a [(2, 5, 2), (1, 3, 1)] 2 w h (by decide)
  rw [show Rlits [(2, 5, 2), (1, 3, 1)] = (3, 0) by decide +kernel] at qT
  have qN := fun (w : World) a (h : RowQ w a [(2, 5, 2), (1, 3, 1)]) => length_p a [(2, 5, 2), (1, 3, 1)] 2 w h (by decide)
  rw [show Rlen [(2, 5, 2), (1, 3, 1)] = (11, 0) by decide +kernel] at qN
  have qO := fun (w : World) p1 p2 p3 (h1 : Row .i64 w p1 [2]) (h2 : Row .i64 w p2 [2]) (h3 : Row .i64 w p3 [5]) => pof_p { data := #[] } { data := #[97, 98, 97, 98, 97, 98, 97, 99] } p1 [2] 1 p2 [2] 1 p3 [5] 1 1 4 8 w h1 h2 h3 (by decide) (by decide) (by decide) (by decide) (by decide)
  rw [kn_of] at qO
  unfold OfPost at qO
  have qS := fun (w : World) pa pb ca (h1 : RowQ w pa [(2, 5, 5)]) (h2 : RowQ w pb [(2, 5, 5)]) => rsame_p pa pb [(2, 5, 5)] [(2, 5, 5)] ca 1 w h1 h2 (by decide)
  rw [show decide ([((2 : Int), (5 : Int), (5 : Int))] = [(2, 5, 5)]) = true by decide] at qS
  dsimp only at qT qN qO
  go_enter Tryd.func9, Tryd.ntmps9
  go_wp2_with (first | (go_at_call 16; refine (awake_p20 _ (by refine ((show Below w.heap.size w _ by repeat' (first | with_reducible exact Below.refl _ _ | with_reducible refine Below.drew ?_ | with_reducible refine below_drewN ?_ _ | with_reducible refine Below.alloc ?_ (by first | omega | (simp <;> omega)) _ | with_reducible refine Below.setCell ?_ (by first | omega | (dsimp only; omega) | (simp <;> omega)) _ | with_reducible refine Below.trans ?_ (Below.mono (by assumption) (by first | omega | (simp <;> omega))))).cell (p := ⟨0, 0, none⟩) hl0).trans hg)).mono ?_; rintro en wa ⟨rfl, hba⟩; have hsa := hba.size; (try simp at hsa)) | (go_at_call 20; refine (first_s20 _).mono ?_; rintro en w1 ⟨rfl, hb1⟩; have hs1 := hb1.size; (simp at hs1); have r0 : w1.cell? ⟨wN.heap.size, 0, none⟩ = some (.int .i64 2) := (hb1.cell (p := ⟨wN.heap.size, 0, none⟩) (by simp <;> omega)).trans (by simp [go_sem]); have r1 : w1.cell? ⟨wN.heap.size + 1, 0, none⟩ = some (.int .i64 2) := (hb1.cell (p := ⟨wN.heap.size + 1, 0, none⟩) (by simp <;> omega)).trans (by simp [go_sem]); have r2 : w1.cell? ⟨wN.heap.size + 1 + 1, 0, none⟩ = some (.int .i64 5) := (hb1.cell (p := ⟨wN.heap.size + 1 + 1, 0, none⟩) (by simp <;> omega)).trans (by simp [go_sem])) | (go_at_call 20; refine (first_s20 _).mono ?_; rintro en w0 ⟨rfl, hb0⟩; have hs0 := hb0.size; (try simp at hs0)) | (go_at_call 36; (with_reducible refine (qD1 _ ?_).mono ?_); (case refine_1 => (refine ((show Below w.heap.size w _ by repeat' (first | with_reducible exact Below.refl _ _ | with_reducible refine Below.drew ?_ | with_reducible refine below_drewN ?_ _ | with_reducible refine Below.alloc ?_ (by first | omega | (simp <;> omega)) _ | with_reducible refine Below.setCell ?_ (by first | omega | (dsimp only; omega) | (simp <;> omega)) _ | with_reducible refine Below.trans ?_ (Below.mono (by assumption) (by first | omega | (simp <;> omega))))).cell (p := ⟨0, 0, none⟩) hl0).trans hg)); rintro en w2 ⟨rfl, hb2⟩; have hs2 := hb2.size; (try simp at hs2)) | (go_at_call 36; (with_reducible refine (qD2 _ _ (rowQ_one _ _ _ _ _) ?_).mono ?_); (case refine_1 => (refine ((show Below w.heap.size w _ by repeat' (first | with_reducible exact Below.refl _ _ | with_reducible refine Below.drew ?_ | with_reducible refine below_drewN ?_ _ | with_reducible refine Below.alloc ?_ (by first | omega | (simp <;> omega)) _ | with_reducible refine Below.setCell ?_ (by first | omega | (dsimp only; omega) | (simp <;> omega)) _ | with_reducible refine Below.trans ?_ (Below.mono (by assumption) (by first | omega | (simp <;> omega))))).cell (p := ⟨0, 0, none⟩) hl0).trans hg)); rintro en w3 ⟨rfl, hb3⟩; have hs3 := hb3.size; (try simp at hs3)) | (go_at_call 37; (with_reducible refine (qF1 _ ?_).mono ?_); (case refine_1 => (refine ((show Below w.heap.size w _ by repeat' (first | with_reducible exact Below.refl _ _ | with_reducible refine Below.drew ?_ | with_reducible refine below_drewN ?_ _ | with_reducible refine Below.alloc ?_ (by first | omega | (simp <;> omega)) _ | with_reducible refine Below.setCell ?_ (by first | omega | (dsimp only; omega) | (simp <;> omega)) _ | with_reducible refine Below.trans ?_ (Below.mono (by assumption) (by first | omega | (simp <;> omega))))).cell (p := ⟨0, 0, none⟩) hl0).trans hg)); rintro en wf1 ⟨rfl, hbf1⟩; have hsf1 := hbf1.size; (try simp at hsf1)) | (go_at_call 37; (with_reducible refine (qF2 _ ?_).mono ?_); (case refine_1 => (refine ((show Below w.heap.size w _ by repeat' (first | with_reducible exact Below.refl _ _ | with_reducible refine Below.drew ?_ | with_reducible refine below_drewN ?_ _ | with_reducible refine Below.alloc ?_ (by first | omega | (simp <;> omega)) _ | with_reducible refine Below.setCell ?_ (by first | omega | (dsimp only; omega) | (simp <;> omega)) _ | with_reducible refine Below.trans ?_ (Below.mono (by assumption) (by first | omega | (simp <;> omega))))).cell (p := ⟨0, 0, none⟩) hl0).trans hg)); rintro en wf2 ⟨rfl, hbf2⟩; have hsf2 := hbf2.size; (try simp at hsf2)) | (go_at_call 37; (with_reducible refine (qF3 _ ?_).mono ?_); (case refine_1 => (refine ((show Below w.heap.size w _ by repeat' (first | with_reducible exact Below.refl _ _ | with_reducible refine Below.drew ?_ | with_reducible refine below_drewN ?_ _ | with_reducible refine Below.alloc ?_ (by first | omega | (simp <;> omega)) _ | with_reducible refine Below.setCell ?_ (by first | omega | (dsimp only; omega) | (simp <;> omega)) _ | with_reducible refine Below.trans ?_ (Below.mono (by assumption) (by first | omega | (simp <;> omega))))).cell (p := ⟨0, 0, none⟩) hl0).trans hg)); rintro en wf3 ⟨rfl, hbf3⟩; have hsf3 := hbf3.size; (try simp at hsf3)) | (go_at_call 37; (with_reducible refine (qF4 _ ?_).mono ?_); (case refine_1 => (refine ((show Below w.heap.size w _ by repeat' (first | with_reducible exact Below.refl _ _ | with_reducible refine Below.drew ?_ | with_reducible refine below_drewN ?_ _ | with_reducible refine Below.alloc ?_ (by first | omega | (simp <;> omega)) _ | with_reducible refine Below.setCell ?_ (by first | omega | (dsimp only; omega) | (simp <;> omega)) _ | with_reducible refine Below.trans ?_ (Below.mono (by assumption) (by first | omega | (simp <;> omega))))).cell (p := ⟨0, 0, none⟩) hl0).trans hg)); rintro en wf4 ⟨rfl, hbf4⟩; have hsf4 := hbf4.size; (try simp at hsf4)) | (go_at_call 27; (with_reducible refine (qC1 _ _ (rowQ_one _ _ _ _ _)).mono ?_); rintro en wc1 ⟨rfl, hbc1⟩; have hsc1 := hbc1.size; (try simp at hsc1)) | (go_at_call 27; (with_reducible refine (qC2 _ _ (rowQ_one _ _ _ _ _)).mono ?_); rintro en wc2 ⟨rfl, hbc2⟩; have hsc2 := hbc2.size; (try simp at hsc2)) | (go_at_call 27; (with_reducible refine (qC3 _ _ (rowQ_one _ _ _ _ _)).mono ?_); rintro en wc3 ⟨rfl, hbc3⟩; have hsc3 := hbc3.size; (try simp at hsc3)) | (go_at_call 24; refine (qT _ _ (rowQ_two _ _ _ _ _ _ _ _)).mono ?_; rintro en wL ⟨rfl, hbL⟩; have hsL := hbL.size; (try simp at hsL); have hTw := (rowQ_two wc3 2 5 2 1 3 1 35).later hbL) | (go_at_call 23; refine (qN _ _ hTw).mono ?_; rintro en wN ⟨rfl, hbN⟩; have hsN := hbN.size; (try simp at hsN)) | (go_at_call 31; refine (qO _ _ _ _ (row_one r0) (row_one r1) (row_one r2)).mono ?_; rintro en wP ⟨pq, cq, rfl, hQ1, hbP⟩; have hsP := hbP.size; (try simp at hsP)) | (go_at_call 19; refine (qS _ _ _ _ (hQ1.later (by repeat' (first | with_reducible exact Below.refl _ _ | with_reducible refine Below.drew ?_ | with_reducible refine below_drewN ?_ _ | with_reducible refine Below.alloc ?_ (by first | omega | (simp <;> omega)) _ | with_reducible refine Below.setCell ?_ (by first | omega | (dsimp only; omega) | (simp <;> omega)) _ | with_reducible refine Below.trans ?_ (Below.mono (by assumption) (by first | omega | (simp <;> omega)))))) (rowQ_cells2 (by simp [go_sem]) (by simp [go_sem]) (by simp [go_sem]))).mono ?_; rintro en wS ⟨rfl, hbS⟩; have hsS := hbS.size; (simp at hsS); have m0 : wS.cell? ⟨wP.heap.size, 0, none⟩ = some (.int .i64 2) := (hbS.cell (p := ⟨wP.heap.size, 0, none⟩) (by simp <;> omega)).trans (by simp [go_sem]); have m1 : wS.cell? ⟨wP.heap.size, 1, none⟩ = some (.int .i64 1) := (hbS.cell (p := ⟨wP.heap.size, 1, none⟩) (by simp <;> omega)).trans (by simp [go_sem]); have m2 : wS.cell? ⟨wP.heap.size, 2, none⟩ = some (.int .i64 4) := (hbS.cell (p := ⟨wP.heap.size, 2, none⟩) (by simp <;> omega)).trans (by simp [go_sem])))
  go_light
  refine bodyPost_ret (v := .bool true) (by simp [results, Tryd.results9, go_sem, *]) rfl ⟨rfl, ?_⟩
  repeat' (first | with_reducible exact Below.refl _ _ | with_reducible refine Below.drew ?_ | with_reducible refine below_drewN ?_ _ | with_reducible refine Below.alloc ?_ (by first | omega | (simp <;> omega)) _ | with_reducible refine Below.setCell ?_ (by first | omega | (dsimp only; omega) | (simp <;> omega)) _ | with_reducible refine Below.trans ?_ (Below.mono (by assumption) (by first | omega | (simp <;> omega))))
end Go.Proofs.YtmblpmaelglnpaaDoor
