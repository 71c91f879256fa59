/-
  A parse made, and its history brought on, walked.
-/
import Derived.Test.YtammacofhdbgcaaRows
import Derived.Test.YtammacofhdbgcaaParseAt
import Derived.Test.YtammacofhdbgcaaParams2
import Derived.Test.YtammacofhdbgcaaGReps
import Derived.Test.YtammacofhdbgcaaGBase
import Derived.Deep.Light
import Derived.Shelf.Abstract
import Derived.Shelf.RegionOpen
import Derived.OwnWalkIn
import Derived.TacticsInMore
import Derived.LoopNIn
import Derived.LoopIn
import Derived.Outline
namespace Go.Proofs.Ytammacofhdbgcaa
open Go.RowKit
set_option linter.unusedSimpArgs false
set_option linter.unusedVariables false
open Go.Shelf
attribute [local go_sem] eq32 Oper.semAt_some

theorem Blk.work {w : World} {bk e : Nat} {a b c l dp lz : Int} {s : ByteArray} (h : Blk w bk 103 [.int .i64 a, .int .i64 b, .int .i64 c, .string s, .int .i64 (e : Int), .int .i64 l, .int .i64 dp, .int .i64 lz]) : Work w bk a b c s e l dp lz :=
  ⟨h.cell 0, h.cell 1, h.cell 2, h.cell 3, h.cell 4, h.cell 5, h.cell 6, h.cell 7⟩
set_option maxRecDepth 100000 in
set_option maxHeartbeats 4000000 in
theorem of_p24 (s : ByteArray) (e : Nat) (L W J O a b c : Int) (sy ch : Bool) (w : World) (hp : pOk L W J O) :
    Calls Try.prog 68 #[.string s, .int .i64 (e : Int), .agg #[.int .i64 L, .int .i64 W, .int .i64 J, .int .i64 O, .bool sy, .bool ch], .agg #[.int .i64 a, .int .i64 b, .int .i64 c]] w fun en w' => ∃ bk, en = .returned (.pointer (some ⟨bk, 0, none⟩)) ∧ w.heap.size ≤ bk ∧ Blk w' bk 103 [.int .i64 a, .int .i64 b, .int .i64 c, .string s, .int .i64 (e : Int), .int .i64 W, .int .i64 (depthT L), .int .i64 (lazyT L)] ∧ Below w.heap.size w w' := by
  have q1 := fun w => pdepth_ok L W J O sy ch w hp
  have q2 := fun w => plazy_ok L W J O sy ch w hp
  generalize depthT L = dp at q1 ⊢
  generalize lazyT L = lz at q2 ⊢
  clear hp
  go_enter Try.func68, Try.ntmps68
  go_wp2_with (first | (go_at_call 92; (refine (q1 _).mono ?_; rintro en w1 ⟨rfl, hb1⟩; have hz := hb1.size; (simp at hz); have hK1 := Blk.later (show Blk (((w.alloc (.cells #[.int .i64 L, .int .i64 W, .int .i64 J, .int .i64 O, .bool sy, .bool ch] 57)).alloc (.cells #[.int .i64 a, .int .i64 b, .int .i64 c] 23)).alloc (.cells #[.int .i64 a, .int .i64 b, .int .i64 c, .string s, .int .i64 (e : Int), .int .i64 W, .int .i64 0, .int .i64 0] 103)) (w.heap.size + 1 + 1) 103 [.int .i64 a, .int .i64 b, .int .i64 c, .string s, .int .i64 (e : Int), .int .i64 W, .int .i64 0, .int .i64 0] by simpa using Blk.new ((w.alloc (.cells #[.int .i64 L, .int .i64 W, .int .i64 J, .int .i64 O, .bool sy, .bool ch] 57)).alloc (.cells #[.int .i64 a, .int .i64 b, .int .i64 c] 23)) 103 #[.int .i64 a, .int .i64 b, .int .i64 c, .string s, .int .i64 (e : Int), .int .i64 W, .int .i64 0, .int .i64 0]) hb1; have kf1 : ∀ i, w1.frozen? ⟨w.heap.size + 1 + 1, i, none⟩ = false := (fun i => hK1.frozen i); have kl1 : w.heap.size + 1 + 1 < w1.heap.size := hK1.lt; have ka1 := hK1.cell 6; have kb1 := hK1.cell 7; (simp at ka1 kb1); have ht1 := bcell hb1; obtain ⟨hcc, hff⟩ := ht1)) | (go_at_call 93; (refine (q2 _).mono ?_; rintro en w2 ⟨rfl, hb2⟩; have hz2 := hb2.size; (simp at hz2); have hK2 := (Blk.set hK1 6 (.int .i64 dp)).later hb2; have kf2 : ∀ i, w2.frozen? ⟨w.heap.size + 1 + 1, i, none⟩ = false := (fun i => hK2.frozen i); have kl2 : w.heap.size + 1 + 1 < w2.heap.size := hK2.lt; have ka2 := hK2.cell 6; have kb2 := hK2.cell 7; (simp at ka2 kb2))))
  refine bodyPost_ret (v := .pointer (some ⟨w.heap.size + 1 + 1, 0, none⟩)) (by simp [results, Try.results68, go_sem, *]) rfl ⟨_, rfl, by omega, by simpa using Blk.set hK2 7 (.int .i64 lz), ?_⟩
  repeat' (first | exact Below.refl _ _ | refine Below.drew ?_ | refine below_drewN ?_ _ | refine Below.alloc ?_ (by first | omega | (simp <;> omega)) _ | refine Below.setCell ?_ (by first | omega | (simp <;> omega)) _ | refine Below.trans ?_ (Below.mono (by assumption) (by first | omega | (simp <;> omega))))
set_option maxRecDepth 100000 in
set_option maxHeartbeats 4000000 in
theorem use_p24 (bk : Nat) (a b c v li : Int) (t : TypeId) (r : List Value) (w : World) (hb : Blk w bk t (.int .i64 a :: .int .i64 b :: .int .i64 c :: r)) :
    Calls Try.prog 95 #[.pointer (some ⟨bk, 0, none⟩), .int .i64 v, .int .i64 li] w fun en w' => en = .returned (.tuple #[]) ∧ ∃ w1, Below w.heap.size w w1 ∧ w' = (((w1.setCell ⟨bk, 0, none⟩ (.int .i64 (Rask a b c v li).2.1.1)).setCell ⟨bk, 1, none⟩ (.int .i64 (Rask a b c v li).2.1.2.1)).setCell ⟨bk, 2, none⟩ (.int .i64 (Rask a b c v li).2.1.2.2)) := by
  have qN := fun w => next_p a b c v li w
  generalize Rask a b c v li = R at qN ⊢
  obtain ⟨d, ⟨x, y, z⟩, er⟩ := R
  dsimp only at qN ⊢
  have c0 := hb.cell 0
  have c1 := hb.cell 1
  have c2 := hb.cell 2
  simp at c0 c1 c2
  go_enter Try.func95, Try.ntmps95
  go_wp2_with (go_at_call 111; refine (qN _).mono ?_; rintro en w1 ⟨rfl, hb1⟩; have hB1 := hb.later hb1; have k0 := hB1.cell 0; have k1 := hB1.cell 1; have k2 := hB1.cell 2; (simp at k0 k1 k2); have kf := (fun i => hB1.frozen i); have kl := hB1.lt)
  go_end0
  exact ⟨rfl, w1, hb1, rfl⟩
end Go.Proofs.Ytammacofhdbgcaa
