/-
  Is a later match better, walked.
-/
import Derived.Test.YtammacofhdbgcaaRows
import Derived.Test.YtammacofhdbgcaaParseAt
import Derived.Test.YtammacofhdbgcaaGBase
import Derived.Deep.Light
import Derived.Shelf.Abstract
import Derived.Shelf.RegionOpen
import Derived.OwnWalkIn
import Derived.TacticsInMore
import Derived.LoopNIn
import Derived.LoopIn
import Derived.Outline
namespace Go.Proofs.Ytammacofhdbgcaa
open Go.RowKit
set_option linter.unusedSimpArgs false
set_option linter.unusedVariables false
open Go.Shelf
attribute [local go_sem] eq32 Oper.semAt_some

set_option maxRecDepth 100000 in
set_option maxHeartbeats 4000000 in
theorem better_s (bk bw bp bl bb p d : Nat) (a b c l dp lz li g : Int) (s : ByteArray) (e : Nat) (w : World) (hs : s.size ≤ 1048576) (hp : p ≤ 1048576) (hd : d ≤ 2) (hl : 0 ≤ li) (hl2 : li ≤ 4194304) (hg : -100 ≤ g) (hg2 : g ≤ 4194304) (hw : Work w bk a b c s e l dp lz)
    (h1 : w.cell? ⟨bw, 0, none⟩ = some (.pointer (some ⟨bk, 0, none⟩))) (h2 : w.cell? ⟨bp, 0, none⟩ = some (.int .i64 (p : Int))) (h3 : w.cell? ⟨bl, 0, none⟩ = some (.int .i64 li)) (h4 : w.cell? ⟨bb, 3, none⟩ = some (.int .i64 g)) :
    Calls Try.prog 101 #[.int .i64 (d : Int), .pointer (some ⟨bw, 0, none⟩), .pointer (some ⟨bp, 0, none⟩), .pointer (some ⟨bl, 0, none⟩), .pointer (some ⟨bb, 0, none⟩)] w fun en w' => en = .returned (.bool (pbet s e l dp a b c p li g d)) ∧ Below w.heap.size w w' := by
  have qA := at_s bk (p + d) a b c l dp lz (li + (d : Int)) s e
  unfold pbet
  generalize pat s e l dp a b c (p + d) (li + (d : Int)) = R at qA ⊢
  obtain ⟨⟨x, y, z, u⟩, fb⟩ := R
  dsimp only at qA ⊢
  rw [show ((p + d : Nat) : Int) = (p : Int) + (d : Int) by omega] at qA
  have lb := World.block_lt_of_cell? w _ h4
  cases fb
  all_goals skip
  all_goals go_enter Try.func101, Try.ntmps101
  all_goals go_wp2_with (go_at_call 102; refine (qA _ hs hw).mono ?_; rintro en w1 ⟨rfl, hb⟩; have hz := hb.size; have k4 := (hb.cell (p := ⟨bb, 3, none⟩) lb).trans h4; have l1 : bb < w1.heap.size := (by omega); have n1 : ¬ bb = w1.heap.size := (by omega); have n2 : ¬ w1.heap.size = bb := (by omega))
  all_goals go_ret
  all_goals exact ⟨by simp [*], (hb).alloc hz _⟩
end Go.Proofs.Ytammacofhdbgcaa
