/-
  The match at a place of a parse, walked.
-/
import Derived.Test.YtammacofhdbgcaaRows
import Derived.Test.YtammacofhdbgcaaParsePlain
import Derived.Test.YtammacofhdbgcaaGMatB
import Derived.Test.YtammacofhdbgcaaMatchLaw
import Derived.Test.YtammacofhdbgcaaGBase
import Derived.Deep.Light
import Derived.Shelf.Abstract
import Derived.Shelf.RegionOpen
import Derived.OwnWalkIn
import Derived.TacticsInMore
import Derived.LoopNIn
import Derived.LoopIn
import Derived.Outline
import Derived.Deep.RegionHeld3
namespace Go.Proofs.Ytammacofhdbgcaa
open Go.RowKit
set_option linter.unusedSimpArgs false
set_option linter.unusedVariables false
open Go.Shelf
attribute [local go_sem] eq32 Oper.semAt_some

theorem Blk.drew {w : World} {B : Nat} {t : TypeId} {vs : List Value} (h : Blk w B t vs) : Blk w.drew B t vs := h
/-- A parse at work: the history, the string, the end, and what the parameters mean. -/
def Work (w : World) (bk : Nat) (a b c : Int) (s : ByteArray) (e : Nat) (l dp lz : Int) : Prop := w.cell? ⟨bk, 0, none⟩ = some (.int .i64 a) ∧ w.cell? ⟨bk, 1, none⟩ = some (.int .i64 b) ∧ w.cell? ⟨bk, 2, none⟩ = some (.int .i64 c) ∧ w.cell? ⟨bk, 3, none⟩ = some (.string s) ∧ w.cell? ⟨bk, 4, none⟩ = some (.int .i64 (e : Int)) ∧ w.cell? ⟨bk, 5, none⟩ = some (.int .i64 l) ∧ w.cell? ⟨bk, 6, none⟩ = some (.int .i64 dp) ∧ w.cell? ⟨bk, 7, none⟩ = some (.int .i64 lz)
theorem Work.lt {w : World} {bk : Nat} {a b c : Int} {s : ByteArray} {e : Nat} {l dp lz : Int} (h : Work w bk a b c s e l dp lz) : bk < w.heap.size := World.block_lt_of_cell? w _ h.1
theorem Work.of_cells {w w' : World} {bk : Nat} {a b c : Int} {s : ByteArray} {e : Nat} {l dp lz : Int} (h : Work w bk a b c s e l dp lz) (hc : ∀ i, w'.cell? ⟨bk, i, none⟩ = w.cell? ⟨bk, i, none⟩) : Work w' bk a b c s e l dp lz := by
  obtain ⟨h1, h2, h3, h4, h5, h6, h7, h8⟩ := h
  exact ⟨(hc _).trans h1, (hc _).trans h2, (hc _).trans h3, (hc _).trans h4, (hc _).trans h5, (hc _).trans h6, (hc _).trans h7, (hc _).trans h8⟩
theorem Work.below {w w' : World} {B bk : Nat} {a b c : Int} {s : ByteArray} {e : Nat} {l dp lz : Int} (h : Work w bk a b c s e l dp lz) (hb : Below B w w') (hl : bk < B) : Work w' bk a b c s e l dp lz := h.of_cells fun i => hb.cell (p := ⟨bk, i, none⟩) hl
theorem Work.later {w w' : World} {bk : Nat} {a b c : Int} {s : ByteArray} {e : Nat} {l dp lz : Int} (h : Work w bk a b c s e l dp lz) (hb : Below w.heap.size w w') : Work w' bk a b c s e l dp lz := h.below hb h.lt
set_option maxRecDepth 100000 in
set_option maxHeartbeats 4000000 in
theorem at_s (bk p : Nat) (a b c l dp lz li : Int) (s : ByteArray) (e : Nat) (w : World) (hs : s.size ≤ 1048576) (hw : Work w bk a b c s e l dp lz) :
    Calls Try.prog 102 #[.pointer (some ⟨bk, 0, none⟩), .int .i64 (p : Int), .int .i64 li] w fun en w' => en = .returned (.tuple #[.agg #[.int .i64 (pat s e l dp a b c p li).1.1, .int .i64 (pat s e l dp a b c p li).1.2.1, .int .i64 (pat s e l dp a b c p li).1.2.2.1, .int .i64 (pat s e l dp a b c p li).1.2.2.2], .bool (pat s e l dp a b c p li).2]) ∧ Below w.heap.size w w' := by
  have qA := fun w => mat_p s p e l dp a b c li w (by omega)
  unfold pat
  have hlk := hw.lt
  obtain ⟨h1, h2, h3, h4, h5, h6, h7, h8⟩ := hw
  generalize Rat s p e l dp a b c li = R at qA ⊢
  obtain ⟨⟨x, y, z, u⟩, fb, er⟩ := R
  dsimp only at qA ⊢
  have n1 := World.new_ne w ⟨bk, 0, none⟩ h1
  have hlk1 : bk < w.heap.size + 1 := by omega
  have hlk2 : bk < w.heap.size + 1 + 1 := by omega
  have m1 : ¬ bk = w.heap.size := by omega
  have m2 : ¬ w.heap.size = bk := by omega
  have m3 : ¬ bk = w.heap.size + 1 := by omega
  have m4 : ¬ w.heap.size + 1 = bk := by omega
  cases fb
  · go_enter Try.func102, Try.ntmps102
    go_wp2
    go_region_held3 (fun w' => w'.cell? ⟨bk, 0, none⟩ = some (.int .i64 a) ∧ w'.cell? ⟨bk, 1, none⟩ = some (.int .i64 b) ∧ w'.cell? ⟨bk, 2, none⟩ = some (.int .i64 c) ∧ w'.cell? ⟨bk, 3, none⟩ = some (.string s) ∧ w'.cell? ⟨bk, 4, none⟩ = some (.int .i64 (e : Int)) ∧ w'.cell? ⟨bk, 5, none⟩ = some (.int .i64 l) ∧ w'.cell? ⟨bk, 6, none⟩ = some (.int .i64 dp) ∧ w'.cell? ⟨bk, 7, none⟩ = some (.int .i64 lz)) (go_keep)
      (first | (go_at_call 18; refine (qA _).mono ?_; rintro e w1 ⟨rfl, hb1⟩; obtain ⟨hcc, hff⟩ := bcell hb1; have hz1 := hb1.size; (simp at hz1); have hl1 : bk < w1.heap.size := (by omega); have hn1 : ¬ bk = w1.heap.size := (by omega); have hn2 : ¬ w1.heap.size = bk := (by omega); have k0 : w1.cell? ⟨bk, 0, none⟩ = some (.int .i64 a) := (hb1.cell (p := ⟨bk, 0, none⟩) (by simp; omega)).trans (by simp [go_sem, *]); have k1 : w1.cell? ⟨bk, 1, none⟩ = some (.int .i64 b) := (hb1.cell (p := ⟨bk, 1, none⟩) (by simp; omega)).trans (by simp [go_sem, *]); have k2 : w1.cell? ⟨bk, 2, none⟩ = some (.int .i64 c) := (hb1.cell (p := ⟨bk, 2, none⟩) (by simp; omega)).trans (by simp [go_sem, *]); have k3 : w1.cell? ⟨bk, 3, none⟩ = some (.string s) := (hb1.cell (p := ⟨bk, 3, none⟩) (by simp; omega)).trans (by simp [go_sem, *]); have k4 : w1.cell? ⟨bk, 4, none⟩ = some (.int .i64 (e : Int)) := (hb1.cell (p := ⟨bk, 4, none⟩) (by simp; omega)).trans (by simp [go_sem, *]); have k5 : w1.cell? ⟨bk, 5, none⟩ = some (.int .i64 l) := (hb1.cell (p := ⟨bk, 5, none⟩) (by simp; omega)).trans (by simp [go_sem, *]); have k6 : w1.cell? ⟨bk, 6, none⟩ = some (.int .i64 dp) := (hb1.cell (p := ⟨bk, 6, none⟩) (by simp; omega)).trans (by simp [go_sem, *]); have k7 : w1.cell? ⟨bk, 7, none⟩ = some (.int .i64 lz) := (hb1.cell (p := ⟨bk, 7, none⟩) (by simp; omega)).trans (by simp [go_sem, *]); have hBk : Blk w1 w.heap.size 32 [.int .i64 0, .int .i64 0, .int .i64 0, .int .i64 0] := (by first | exact Blk.later (Blk.drew (Blk.new w _ #[.int .i64 0, .int .i64 0, .int .i64 0, .int .i64 0])) hb1 | exact Blk.later (Blk.drew ((Blk.new w _ #[.int .i64 0, .int .i64 0, .int .i64 0, .int .i64 0]).alloc _)) hb1); have r0 : w1.cell? ⟨w.heap.size, 0, none⟩ = some (.int .i64 0) := hBk.cell 0; have r1 : w1.cell? ⟨w.heap.size, 1, none⟩ = some (.int .i64 0) := hBk.cell 1; have r2 : w1.cell? ⟨w.heap.size, 2, none⟩ = some (.int .i64 0) := hBk.cell 2; have r3 : w1.cell? ⟨w.heap.size, 3, none⟩ = some (.int .i64 0) := hBk.cell 3; have rf : ∀ i, w1.frozen? ⟨w.heap.size, i, none⟩ = false := (fun i => hBk.frozen i); have rl : w.heap.size < w1.heap.size := hBk.lt; have rn : ¬ w.heap.size = w1.heap.size := (by omega); have rn' : ¬ w1.heap.size = w.heap.size := (by omega); have bW : Below w.heap.size w w1 := (by repeat' (first | exact Below.refl _ _ | refine Below.drew ?_ | refine below_drewN ?_ _ | refine Below.alloc ?_ (by first | omega | (simp <;> omega)) _ | refine Below.setCell ?_ (by first | omega | (simp <;> omega)) _ | refine Below.trans ?_ (Below.mono (by assumption) (by first | omega | (simp <;> omega)))))))
    · go_wp2
      have hV := (((((hBk.set 0 (.int .i64 x)).set 1 (.int .i64 y)).set 2 (.int .i64 z)).set 3 (.int .i64 u)).alloc (.cells #[.int .i64 x, .int .i64 y, .int .i64 z, .int .i64 u] 32))
      have bV := (Below.alloc (Below.setCell (p := ⟨w.heap.size, 3, none⟩) (Below.setCell (p := ⟨w.heap.size, 2, none⟩) (Below.setCell (p := ⟨w.heap.size, 1, none⟩) (Below.setCell (p := ⟨w.heap.size, 0, none⟩) bW (Nat.le_refl _) (.int .i64 x)) (Nat.le_refl _) (.int .i64 y)) (Nat.le_refl _) (.int .i64 z)) (Nat.le_refl _) (.int .i64 u)) (by simp; omega) (.cells #[.int .i64 x, .int .i64 y, .int .i64 z, .int .i64 u] 32))
      generalize (((((w1.setCell ⟨w.heap.size, 0, none⟩ (.int .i64 x)).setCell ⟨w.heap.size, 1, none⟩ (.int .i64 y)).setCell ⟨w.heap.size, 2, none⟩ (.int .i64 z)).setCell ⟨w.heap.size, 3, none⟩ (.int .i64 u)).alloc (.cells #[.int .i64 x, .int .i64 y, .int .i64 z, .int .i64 u] 32)) = V at hV bV ⊢
      have v0 := hV.cell 0
      have v1 := hV.cell 1
      have v2 := hV.cell 2
      have v3 := hV.cell 3
      simp at v0 v1 v2 v3
      clear hcc hff hb1 hBk bW
      exact bodyPost_ret (v := .tuple #[.agg #[.int .i64 x, .int .i64 y, .int .i64 z, .int .i64 u], _]) (by simp [results, Try.results102, go_sem, v0, v1, v2, v3]) rfl ⟨rfl, bV⟩
    · go_wp2
      have hV := (((((Blk.other (Blk.other (Blk.other (Blk.other hBk (a := ⟨w.heap.size + 1, 0, none⟩) (by simp) (.int .i64 x)) (a := ⟨w.heap.size + 1, 1, none⟩) (by simp) (.int .i64 y)) (a := ⟨w.heap.size + 1, 2, none⟩) (by simp) (.int .i64 z)) (a := ⟨w.heap.size + 1, 3, none⟩) (by simp) (.int .i64 u)).set 0 (.int .i64 x)).set 1 (.int .i64 y)).set 2 (.int .i64 z)).set 3 (.int .i64 u))
      have bV := (Below.setCell (p := ⟨w.heap.size, 3, none⟩) (Below.setCell (p := ⟨w.heap.size, 2, none⟩) (Below.setCell (p := ⟨w.heap.size, 1, none⟩) (Below.setCell (p := ⟨w.heap.size, 0, none⟩) (Below.setCell (p := ⟨w.heap.size + 1, 3, none⟩) (Below.setCell (p := ⟨w.heap.size + 1, 2, none⟩) (Below.setCell (p := ⟨w.heap.size + 1, 1, none⟩) (Below.setCell (p := ⟨w.heap.size + 1, 0, none⟩) bW (by simp) (.int .i64 x)) (by simp) (.int .i64 y)) (by simp) (.int .i64 z)) (by simp) (.int .i64 u)) (Nat.le_refl _) (.int .i64 x)) (Nat.le_refl _) (.int .i64 y)) (Nat.le_refl _) (.int .i64 z)) (Nat.le_refl _) (.int .i64 u))
      generalize ((((((((w1.setCell ⟨w.heap.size + 1, 0, none⟩ (.int .i64 x)).setCell ⟨w.heap.size + 1, 1, none⟩ (.int .i64 y)).setCell ⟨w.heap.size + 1, 2, none⟩ (.int .i64 z)).setCell ⟨w.heap.size + 1, 3, none⟩ (.int .i64 u)).setCell ⟨w.heap.size, 0, none⟩ (.int .i64 x)).setCell ⟨w.heap.size, 1, none⟩ (.int .i64 y)).setCell ⟨w.heap.size, 2, none⟩ (.int .i64 z)).setCell ⟨w.heap.size, 3, none⟩ (.int .i64 u)) = V at hV bV ⊢
      have v0 := hV.cell 0
      have v1 := hV.cell 1
      have v2 := hV.cell 2
      have v3 := hV.cell 3
      simp at v0 v1 v2 v3
      clear hcc hff hb1 hBk bW
      exact bodyPost_ret (v := .tuple #[.agg #[.int .i64 x, .int .i64 y, .int .i64 z, .int .i64 u], _]) (by simp [results, Try.results102, go_sem, v0, v1, v2, v3]) rfl ⟨rfl, bV⟩
  · go_enter Try.func102, Try.ntmps102
    go_wp2
    go_region_held3 (fun w' => w'.cell? ⟨bk, 0, none⟩ = some (.int .i64 a) ∧ w'.cell? ⟨bk, 1, none⟩ = some (.int .i64 b) ∧ w'.cell? ⟨bk, 2, none⟩ = some (.int .i64 c) ∧ w'.cell? ⟨bk, 3, none⟩ = some (.string s) ∧ w'.cell? ⟨bk, 4, none⟩ = some (.int .i64 (e : Int)) ∧ w'.cell? ⟨bk, 5, none⟩ = some (.int .i64 l) ∧ w'.cell? ⟨bk, 6, none⟩ = some (.int .i64 dp) ∧ w'.cell? ⟨bk, 7, none⟩ = some (.int .i64 lz)) (go_keep)
      (first | (go_at_call 18; refine (qA _).mono ?_; rintro e w1 ⟨rfl, hb1⟩; obtain ⟨hcc, hff⟩ := bcell hb1; have hz1 := hb1.size; (simp at hz1); have hl1 : bk < w1.heap.size := (by omega); have hn1 : ¬ bk = w1.heap.size := (by omega); have hn2 : ¬ w1.heap.size = bk := (by omega); have k0 : w1.cell? ⟨bk, 0, none⟩ = some (.int .i64 a) := (hb1.cell (p := ⟨bk, 0, none⟩) (by simp; omega)).trans (by simp [go_sem, *]); have k1 : w1.cell? ⟨bk, 1, none⟩ = some (.int .i64 b) := (hb1.cell (p := ⟨bk, 1, none⟩) (by simp; omega)).trans (by simp [go_sem, *]); have k2 : w1.cell? ⟨bk, 2, none⟩ = some (.int .i64 c) := (hb1.cell (p := ⟨bk, 2, none⟩) (by simp; omega)).trans (by simp [go_sem, *]); have k3 : w1.cell? ⟨bk, 3, none⟩ = some (.string s) := (hb1.cell (p := ⟨bk, 3, none⟩) (by simp; omega)).trans (by simp [go_sem, *]); have k4 : w1.cell? ⟨bk, 4, none⟩ = some (.int .i64 (e : Int)) := (hb1.cell (p := ⟨bk, 4, none⟩) (by simp; omega)).trans (by simp [go_sem, *]); have k5 : w1.cell? ⟨bk, 5, none⟩ = some (.int .i64 l) := (hb1.cell (p := ⟨bk, 5, none⟩) (by simp; omega)).trans (by simp [go_sem, *]); have k6 : w1.cell? ⟨bk, 6, none⟩ = some (.int .i64 dp) := (hb1.cell (p := ⟨bk, 6, none⟩) (by simp; omega)).trans (by simp [go_sem, *]); have k7 : w1.cell? ⟨bk, 7, none⟩ = some (.int .i64 lz) := (hb1.cell (p := ⟨bk, 7, none⟩) (by simp; omega)).trans (by simp [go_sem, *]); have hBk : Blk w1 w.heap.size 32 [.int .i64 0, .int .i64 0, .int .i64 0, .int .i64 0] := (by first | exact Blk.later (Blk.drew (Blk.new w _ #[.int .i64 0, .int .i64 0, .int .i64 0, .int .i64 0])) hb1 | exact Blk.later (Blk.drew ((Blk.new w _ #[.int .i64 0, .int .i64 0, .int .i64 0, .int .i64 0]).alloc _)) hb1); have r0 : w1.cell? ⟨w.heap.size, 0, none⟩ = some (.int .i64 0) := hBk.cell 0; have r1 : w1.cell? ⟨w.heap.size, 1, none⟩ = some (.int .i64 0) := hBk.cell 1; have r2 : w1.cell? ⟨w.heap.size, 2, none⟩ = some (.int .i64 0) := hBk.cell 2; have r3 : w1.cell? ⟨w.heap.size, 3, none⟩ = some (.int .i64 0) := hBk.cell 3; have rf : ∀ i, w1.frozen? ⟨w.heap.size, i, none⟩ = false := (fun i => hBk.frozen i); have rl : w.heap.size < w1.heap.size := hBk.lt; have rn : ¬ w.heap.size = w1.heap.size := (by omega); have rn' : ¬ w1.heap.size = w.heap.size := (by omega); have bW : Below w.heap.size w w1 := (by repeat' (first | exact Below.refl _ _ | refine Below.drew ?_ | refine below_drewN ?_ _ | refine Below.alloc ?_ (by first | omega | (simp <;> omega)) _ | refine Below.setCell ?_ (by first | omega | (simp <;> omega)) _ | refine Below.trans ?_ (Below.mono (by assumption) (by first | omega | (simp <;> omega)))))))
    · go_wp2
      have hV := (((((hBk.set 0 (.int .i64 x)).set 1 (.int .i64 y)).set 2 (.int .i64 z)).set 3 (.int .i64 u)).alloc (.cells #[.int .i64 x, .int .i64 y, .int .i64 z, .int .i64 u] 32))
      have bV := (Below.alloc (Below.setCell (p := ⟨w.heap.size, 3, none⟩) (Below.setCell (p := ⟨w.heap.size, 2, none⟩) (Below.setCell (p := ⟨w.heap.size, 1, none⟩) (Below.setCell (p := ⟨w.heap.size, 0, none⟩) bW (Nat.le_refl _) (.int .i64 x)) (Nat.le_refl _) (.int .i64 y)) (Nat.le_refl _) (.int .i64 z)) (Nat.le_refl _) (.int .i64 u)) (by simp; omega) (.cells #[.int .i64 x, .int .i64 y, .int .i64 z, .int .i64 u] 32))
      generalize (((((w1.setCell ⟨w.heap.size, 0, none⟩ (.int .i64 x)).setCell ⟨w.heap.size, 1, none⟩ (.int .i64 y)).setCell ⟨w.heap.size, 2, none⟩ (.int .i64 z)).setCell ⟨w.heap.size, 3, none⟩ (.int .i64 u)).alloc (.cells #[.int .i64 x, .int .i64 y, .int .i64 z, .int .i64 u] 32)) = V at hV bV ⊢
      have v0 := hV.cell 0
      have v1 := hV.cell 1
      have v2 := hV.cell 2
      have v3 := hV.cell 3
      simp at v0 v1 v2 v3
      clear hcc hff hb1 hBk bW
      exact bodyPost_ret (v := .tuple #[.agg #[.int .i64 x, .int .i64 y, .int .i64 z, .int .i64 u], _]) (by simp [results, Try.results102, go_sem, v0, v1, v2, v3]) rfl ⟨rfl, bV⟩
    · go_wp2
      have hV := (((((Blk.other (Blk.other (Blk.other (Blk.other hBk (a := ⟨w.heap.size + 1, 0, none⟩) (by simp) (.int .i64 x)) (a := ⟨w.heap.size + 1, 1, none⟩) (by simp) (.int .i64 y)) (a := ⟨w.heap.size + 1, 2, none⟩) (by simp) (.int .i64 z)) (a := ⟨w.heap.size + 1, 3, none⟩) (by simp) (.int .i64 u)).set 0 (.int .i64 x)).set 1 (.int .i64 y)).set 2 (.int .i64 z)).set 3 (.int .i64 u))
      have bV := (Below.setCell (p := ⟨w.heap.size, 3, none⟩) (Below.setCell (p := ⟨w.heap.size, 2, none⟩) (Below.setCell (p := ⟨w.heap.size, 1, none⟩) (Below.setCell (p := ⟨w.heap.size, 0, none⟩) (Below.setCell (p := ⟨w.heap.size + 1, 3, none⟩) (Below.setCell (p := ⟨w.heap.size + 1, 2, none⟩) (Below.setCell (p := ⟨w.heap.size + 1, 1, none⟩) (Below.setCell (p := ⟨w.heap.size + 1, 0, none⟩) bW (by simp) (.int .i64 x)) (by simp) (.int .i64 y)) (by simp) (.int .i64 z)) (by simp) (.int .i64 u)) (Nat.le_refl _) (.int .i64 x)) (Nat.le_refl _) (.int .i64 y)) (Nat.le_refl _) (.int .i64 z)) (Nat.le_refl _) (.int .i64 u))
      generalize ((((((((w1.setCell ⟨w.heap.size + 1, 0, none⟩ (.int .i64 x)).setCell ⟨w.heap.size + 1, 1, none⟩ (.int .i64 y)).setCell ⟨w.heap.size + 1, 2, none⟩ (.int .i64 z)).setCell ⟨w.heap.size + 1, 3, none⟩ (.int .i64 u)).setCell ⟨w.heap.size, 0, none⟩ (.int .i64 x)).setCell ⟨w.heap.size, 1, none⟩ (.int .i64 y)).setCell ⟨w.heap.size, 2, none⟩ (.int .i64 z)).setCell ⟨w.heap.size, 3, none⟩ (.int .i64 u)) = V at hV bV ⊢
      have v0 := hV.cell 0
      have v1 := hV.cell 1
      have v2 := hV.cell 2
      have v3 := hV.cell 3
      simp at v0 v1 v2 v3
      clear hcc hff hb1 hBk bW
      exact bodyPost_ret (v := .tuple #[.agg #[.int .i64 x, .int .i64 y, .int .i64 z, .int .i64 u], _]) (by simp [results, Try.results102, go_sem, v0, v1, v2, v3]) rfl ⟨rfl, bV⟩
end Go.Proofs.Ytammacofhdbgcaa
