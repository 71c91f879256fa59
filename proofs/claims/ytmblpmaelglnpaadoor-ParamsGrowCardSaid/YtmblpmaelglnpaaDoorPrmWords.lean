/-
  The words of a text and their numbers: the iterator of words, walked.
-/
import Derived.Test.YtmblpmaelglnpaaDoorRows
import Derived.Test.YtmblpmaelglnpaaDoorPrmSplit
import Derived.Test.YtmblpmaelglnpaaDoorGBase
import Derived.Deep.Light
import Derived.Shelf.Abstract
import Derived.Shelf.RegionOpen
import Derived.OwnWalkIn
import Derived.TacticsInMore
import Derived.LoopNIn
import Derived.LoopIn
import Derived.Outline
import Derived.IntWalk
import Derived.WalkMore
namespace Go.Proofs.YtmblpmaelglnpaaDoor
open Go.RowKit
set_option linter.unusedSimpArgs false
set_option linter.unusedVariables false
open Go.Shelf
attribute [local go_sem] Oper.semAt_some

theorem Stay.sizes {S : Nat → Prop} {X Y : World} (h : Stay S X Y) (hl : 0 < X.heap.size) (hs : S (X.heap.size - 1)) : X.heap.size ≤ Y.heap.size := by
  have h1 : X.heap[X.heap.size - 1]? = some (X.heap[X.heap.size - 1]'(by omega)) := Array.getElem?_eq_getElem _
  have h2 := h _ _ hs h1
  have := (Array.getElem?_eq_some_iff.1 h2).1
  omega
set_option maxRecDepth 100000 in
set_option maxHeartbeats 4000000 in
theorem words_iter (s : ByteArray) (bs l : Nat) (hs : s.size ≤ 1048576) (J : Nat → World → Prop) (Jx : World → Prop) (W : World) (hlt : bs < W.heap.size)
    (hst : ∀ i X Y, OldBut (fun k => k = bs) W.heap.size X Y → J i X → J i Y) (hstx : ∀ X Y, OldBut (fun k => k = bs) W.heap.size X Y → Jx X → Jx Y)
    (hr : ∀ i X, i < npc s → J i X → RoundOk Tryd.prog l #[.int .i64 (i : Int), .string (pcs s i)] X (fun W' => J (i + 1) W' ∧ Stay (fun k => k = bs ∨ W.heap.size ≤ k) X W') (fun W' => Jx W' ∧ Stay (fun k => k = bs ∨ W.heap.size ≤ k) X W')) (h0 : J 0 W) (hb : W.cell? ⟨bs, 0, none⟩ = some (.string s)) :
    Calls Tryd.prog 105 #[.func (.yield l) #[] #[], .pointer (some ⟨bs, 0, none⟩)] W fun e W' => (∃ v, e = .returned v) ∧ (J (npc s) W' ∨ Jx W') := by
  have hnp : npc s ≤ 1048577 := by
    have := spl_len s.data.toList
    have h2 : s.data.toList.length = s.size := rfl
    unfold npc
    omega
  refine calls_of_marks Tryd.func105 rfl ?_
  simp only [Tryd.ntmps105, List.size_toArray, List.length_cons, List.length_nil, Nat.reduceAdd, Nat.reduceSub, Array.replicate_succ, Array.replicate_zero, List.push_toArray, List.append_toArray, List.nil_append, List.cons_append]
  go_wp2_with (go_in)
  obtain ⟨H, hH⟩ : ∃ H, W.heap.size = H := ⟨_, rfl⟩
  obtain ⟨W0, hW0⟩ : ∃ W0, (((((W.alloc (.cells #[.func (.yield l) #[] #[]] 129)).alloc (.cells #[.int .i64 0] 3)).alloc (.cells #[.string s] 9)).alloc (.cells #[.string ⟨#[32]⟩] 9)).alloc (.cells #[.int .i64 0] 3)) = W0 := ⟨_, rfl⟩
  have w0b : Below H W W0 := by
    rw [← hW0, ← hH]
    repeat' (first | with_reducible exact Below.refl _ _ | with_reducible refine Below.drew ?_ | with_reducible refine below_drewN ?_ _ | with_reducible refine Below.alloc ?_ (by first | omega | (simp <;> omega)) _ | with_reducible refine Below.setCell ?_ (by first | omega | (dsimp only; omega) | (simp <;> omega)) _ | with_reducible refine Below.trans ?_ (Below.mono (by assumption) (by first | omega | (simp <;> omega))))
  have w0s : W0.heap.size = H + 5 := by rw [← hW0, ← hH]; simp
  have x1 : W0.cell? ⟨H, 0, none⟩ = some (.func (.yield l) #[] #[]) := by rw [← hW0, ← hH]; simp [go_sem]
  have x2 : W0.cell? ⟨H + 1, 0, none⟩ = some (.int .i64 0) := by rw [← hW0, ← hH]; simp [go_sem]
  have x3 : W0.frozen? ⟨H + 1, 0, none⟩ = false := by rw [← hW0, ← hH]; simp [go_sem]
  have x4 : SBox W0 (H + 3) (H + 2) (H + 4) s := by
    rw [← hW0, ← hH]
    exact ⟨by simp [go_sem], by simp [go_sem], by simp [go_sem], by simp [go_sem]⟩
  rw [hH] at hst hstx hr hlt
  rw [hW0]
  (try simp only [hH])
  have j0 := hst 0 W W0 (OldBut.of_below w0b (Nat.le_refl _) (by omega)) h0
  clear hW0 h0 hb
  refine wp_rangeO_pure (gf := 129) (lb := #[.pointer (some ⟨H + 3, 0, none⟩), .pointer (some ⟨H + 2, 0, none⟩), .pointer (some ⟨H + 4, 0, none⟩)]) rfl (enters_of Tryd.func129 (by kernel_rfl) rfl) (fun k => k = H + 3 ∨ k = H + 2 ∨ k = H + 4) (fun k h => by omega) (npc s) (fun i => #[.string (pcs s i)]) (fun _ => rfl)
    (fun i X => J i X ∧ X.cell? ⟨H, 0, none⟩ = some (.func (.yield l) #[] #[]) ∧ X.cell? ⟨H + 1, 0, none⟩ = some (.int .i64 (i : Int)) ∧ X.frozen? ⟨H + 1, 0, none⟩ = false)
    (fun c X => c = .ret ∧ Jx X) ?hI ?hIx ⟨j0, x1, x2, x3⟩ ?hround ?hiter ?hdone ?hstop
  case hI =>
    rintro i X Y hk ⟨y1, y2, y3, y4⟩
    exact ⟨hst i X Y (hk.mono (by omega) (fun k h1 h2 => by omega)) y1, hk.cell (by dsimp only; omega) (by dsimp only; omega) y2, hk.cell (by dsimp only; omega) (by dsimp only; omega) y3, (hk.frozen (by dsimp only; omega) (by dsimp only; omega) y3).trans y4⟩
  case hIx =>
    rintro c X Y hk ⟨y0, y1⟩
    exact ⟨y0, hstx X Y (hk.mono (by omega) (fun k h1 h2 => by omega)) y1⟩
  case hround =>
    intro l' i X hi hI hl'
    clear hI j0 x1 x2 x3 x4
    gi_wp2
    refine ⟨trivial, ?_⟩
    rintro W2 hl2 ⟨y1, y2, y3, y4⟩
    obtain ⟨fn, tmps, assign, body, hy, hRo⟩ := hr i W2 hi y1
    have hib : (i : Int) ≤ 1048577 := by omega
    have HST := Lib.hid hst
    clear hst hstx hr y1
    gi_wp2
    refine ⟨rfl, RoundIn.mono (F := Fence.wide.inRound l') (show RoundIn (Fence.wide.inRound l') _ _ _ _ _ _ _ _ _ from hRo) ?_⟩
    rintro e W4 (⟨rfl, hJ3, hS3⟩ | ⟨rfl, hJx3, hS3⟩)
    · have hz := hS3.sizes (by omega) (.inr (by omega))
      have z3 := hS3.cell (a := ⟨H + 1, 0, none⟩) (.inr (by dsimp only; omega)) y3
      have z4 := (hS3.frozen (a := ⟨H + 1, 0, none⟩) (.inr (by dsimp only; omega)) y3).trans y4
      have z2 := hS3.cell (a := ⟨H, 0, none⟩) (.inr (by dsimp only; omega)) y2
      gi_wp2
      have k1 : KeepsFrom W0.heap.size W2 (W4.setCell ⟨H + 1, 0, none⟩ (.int .i64 ((i : Int) + 1))) := (Stay.keepsFrom (hS3.mono (S' := fun k => W0.heap.size ≤ k) (fun k h => .inr (by omega))) hz (fun k h => h)).trans ((KeepsOthers.setCell _ _ _).from _)
      have k2 : Stay (fun k => (k = H + 3 ∨ k = H + 2 ∨ k = H + 4) ∨ W0.heap.size + 2 ≤ k) W2 (W4.setCell ⟨H + 1, 0, none⟩ (.int .i64 ((i : Int) + 1))) := (hS3.mono (fun k h => .inr (by omega))).trans (Stay.setCell _ _ (by dsimp only; omega))
      refine ⟨k1, ⟨HST.out _ _ _ (OldBut.setCell W4 _ (.inl (by dsimp only; omega))) hJ3, by simp [go_sem, z2], by simp [go_sem, z3], by simp [go_sem, z4]⟩, k2⟩
    · have hz := hS3.sizes (by omega) (.inr (by omega))
      gi_wp2
      exact ⟨Stay.keepsFrom (hS3.mono (S' := fun k => W0.heap.size ≤ k) (fun k h => .inr (by omega))) hz (fun k h => h), ⟨rfl, hJx3⟩, hS3.mono (fun k h => .inr (by omega))⟩
  case hiter =>
    intro l' J' Jx' X hb hsz hst' hstx' hJI hJx' hr' hj
    refine split_iter s (H + 3) (H + 2) (H + 4) l' hs J' Jx' X (by omega) (by omega) hst' hr' hj ?_
    obtain ⟨a1, a2, a3, a4⟩ := x4
    exact ⟨(hb.cell (p := ⟨H + 3, 0, none⟩) (by dsimp only; omega)).trans a1, (hb.cell (p := ⟨H + 2, 0, none⟩) (by dsimp only; omega)).trans a2, (hb.frozen (p := ⟨H + 2, 0, none⟩) (by dsimp only; omega)).trans a3, (hb.cell (p := ⟨H + 4, 0, none⟩) (by dsimp only; omega)).trans a4⟩
  case hdone =>
    rintro D X hD ⟨y1, y2, y3, y4⟩ hdf
    go_wp2
    refine ⟨by simp, .inl ⟨_, _, rfl, run_takeDeferred hdf, ?_⟩⟩
    exact ⟨_, results_none rfl _ _ _, ⟨_, rfl⟩, .inl (hst _ _ _ (OldBut.putObj _ _ (by omega)) y1)⟩
  case hstop =>
    rintro D c X hD ⟨rfl, y1⟩ hdf
    go_wp2
    refine ⟨by simp, .inl ⟨_, _, rfl, run_takeDeferred hdf, ?_⟩⟩
    exact ⟨_, results_none rfl _ _ _, ⟨_, rfl⟩, .inr (hstx _ _ (OldBut.putObj _ _ (by omega)) y1)⟩
end Go.Proofs.YtmblpmaelglnpaaDoor
