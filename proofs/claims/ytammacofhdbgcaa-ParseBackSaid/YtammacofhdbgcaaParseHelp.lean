/-
  The statements' helpers: first parameters, what a block gives, the example, walked.
-/
import Derived.Test.YtammacofhdbgcaaRows
import Derived.Test.YtammacofhdbgcaaParseScore
import Derived.Test.YtammacofhdbgcaaSeqSame
import Derived.Test.YtammacofhdbgcaaGBase
import Derived.Deep.Light
import Derived.Shelf.Abstract
import Derived.Shelf.RegionOpen
import Derived.OwnWalkIn
import Derived.TacticsInMore
import Derived.LoopNIn
import Derived.LoopIn
import Derived.Outline
namespace Go.Proofs.Ytammacofhdbgcaa
open Go.RowKit
set_option linter.unusedSimpArgs false
set_option linter.unusedVariables false
open Go.Shelf
attribute [local go_sem] eq32 eq23 Oper.semAt_some

theorem rdefault_1 (w : World) : Calls Try.prog 80 #[.int .i64 1] w fun e w' => e = .returned (.tuple #[.agg #[.int .i64 1, .int .i64 17, .int .i64 524288, .int .i64 6, .bool false, .bool true], .int .i64 0]) ∧ Below w.heap.size w w' := by
  go_enter Try.func80, Try.ntmps80
  go_wp2
  repeat' (first | (go_region <;> go_wp2))
  all_goals go_light
  all_goals (try simp only [beq_iff_eq, beq_eq_false_iff_ne, bne_iff_ne, bne_eq_false_iff_eq, ne_eq] at *)
  all_goals
    refine bodyPost_ret (v := .tuple #[.agg #[.int .i64 1, .int .i64 17, .int .i64 524288, .int .i64 6, .bool false, .bool true], .int .i64 0]) (by simp [results, Try.results80, go_sem, *]) rfl ⟨rfl, ?_⟩
    repeat' (first | with_reducible exact Below.refl _ _ | with_reducible refine Below.drew ?_ | with_reducible refine below_drewN ?_ _ | with_reducible refine Below.alloc ?_ (by first | omega | (simp <;> omega)) _ | with_reducible refine Below.setCell ?_ (by first | omega | (dsimp only; omega) | (simp <;> omega)) _ | with_reducible refine Below.trans ?_ (Below.mono (by assumption) (by first | omega | (simp <;> omega))))

set_option maxRecDepth 100000 in
set_option maxHeartbeats 4000000 in
theorem pfirst_p (w : World) : Calls Try.prog 50 #[] w fun e w' => e = .returned (.agg #[.int .i64 1, .int .i64 17, .int .i64 524288, .int .i64 6, .bool false, .bool true]) ∧ Below w.heap.size w w' := by
  go_enter Try.func50, Try.ntmps50
  go_wp2_with (go_at_call 80; refine (rdefault_1 _).mono ?_; rintro en w1 ⟨rfl, hb⟩; have hB1 := Blk.later (by simpa using Blk.new w 57 #[.int .i64 0, .int .i64 0, .int .i64 0, .int .i64 0, .bool false, .bool false] : Blk (w.alloc (.cells #[.int .i64 0, .int .i64 0, .int .i64 0, .int .i64 0, .bool false, .bool false] 57)) w.heap.size 57 [.int .i64 0, .int .i64 0, .int .i64 0, .int .i64 0, .bool false, .bool false]) hb; have hlt := hB1.lt; have c0 : w1.cell? ⟨w.heap.size, 0, none⟩ = some (.int .i64 0) := hB1.cell 0; have f0 : w1.frozen? ⟨w.heap.size, 0, none⟩ = false := hB1.frozen 0; have c1 : w1.cell? ⟨w.heap.size, 1, none⟩ = some (.int .i64 0) := hB1.cell 1; have f1 : w1.frozen? ⟨w.heap.size, 1, none⟩ = false := hB1.frozen 1; have c2 : w1.cell? ⟨w.heap.size, 2, none⟩ = some (.int .i64 0) := hB1.cell 2; have f2 : w1.frozen? ⟨w.heap.size, 2, none⟩ = false := hB1.frozen 2; have c3 : w1.cell? ⟨w.heap.size, 3, none⟩ = some (.int .i64 0) := hB1.cell 3; have f3 : w1.frozen? ⟨w.heap.size, 3, none⟩ = false := hB1.frozen 3; have c4 : w1.cell? ⟨w.heap.size, 4, none⟩ = some (.bool false) := hB1.cell 4; have f4 : w1.frozen? ⟨w.heap.size, 4, none⟩ = false := hB1.frozen 4; have c5 : w1.cell? ⟨w.heap.size, 5, none⟩ = some (.bool false) := hB1.cell 5; have f5 : w1.frozen? ⟨w.heap.size, 5, none⟩ = false := hB1.frozen 5)
  obtain ⟨W2, hW2⟩ : ∃ W2, (((((((w1.setCell ⟨w.heap.size, 0, none⟩ (.int .i64 1)).setCell ⟨w.heap.size, 1, none⟩ (.int .i64 17)).setCell ⟨w.heap.size, 2, none⟩ (.int .i64 524288)).setCell ⟨w.heap.size, 3, none⟩ (.int .i64 6)).setCell ⟨w.heap.size, 4, none⟩ (.bool false)).setCell ⟨w.heap.size, 5, none⟩ (.bool true)).alloc (.cells #[.int .i64 1, .int .i64 17, .int .i64 524288, .int .i64 6, .bool false, .bool true] 57)) = W2 := ⟨_, rfl⟩
  have hB2 : Blk W2 w.heap.size 57 [.int .i64 1, .int .i64 17, .int .i64 524288, .int .i64 6, .bool false, .bool true] := by rw [← hW2]; exact (((((((hB1).set 0 _).set 1 _).set 2 _).set 3 _).set 4 _).set 5 _).alloc _
  have hb2 : Below w.heap.size w W2 := by
    rw [← hW2]
    repeat' (first | with_reducible exact Below.refl _ _ | with_reducible refine Below.drew ?_ | with_reducible refine below_drewN ?_ _ | with_reducible refine Below.alloc ?_ (by first | omega | (simp <;> omega)) _ | with_reducible refine Below.setCell ?_ (by first | omega | (dsimp only; omega) | (simp <;> omega)) _ | with_reducible refine Below.trans ?_ (Below.mono (by assumption) (by first | omega | (simp <;> omega))))
  rw [hW2]
  clear hW2 c0 f0 c1 f1 c2 f2 c3 f3 c4 f4 c5 f5
  have c0 : W2.cell? ⟨w.heap.size, 0, none⟩ = some (.int .i64 1) := hB2.cell 0; have c1 : W2.cell? ⟨w.heap.size, 1, none⟩ = some (.int .i64 17) := hB2.cell 1; have c2 : W2.cell? ⟨w.heap.size, 2, none⟩ = some (.int .i64 524288) := hB2.cell 2; have c3 : W2.cell? ⟨w.heap.size, 3, none⟩ = some (.int .i64 6) := hB2.cell 3; have c4 : W2.cell? ⟨w.heap.size, 4, none⟩ = some (.bool false) := hB2.cell 4; have c5 : W2.cell? ⟨w.heap.size, 5, none⟩ = some (.bool true) := hB2.cell 5
  refine bodyPost_ret (v := .agg #[.int .i64 1, .int .i64 17, .int .i64 524288, .int .i64 6, .bool false, .bool true]) (by simp [results, Try.results50, go_sem, *]) rfl ⟨rfl, hb2⟩
set_option maxRecDepth 100000 in
set_option maxHeartbeats 4000000 in
theorem gives_t (s t : ByteArray) (p e x y z : Int) (qs : List (Int × Int × Int)) (a : Option Addr) (cap : Nat) (w : World) (hl : s.size ≤ 9223372036854775807) (hq : RowQ w a qs) (hn : qs.length ≤ 9223372036854775807) (h : Pblk s p e 1 17 524288 6 0 0 0 = ((qs, t, (x, y, z)), 0)) :
    Calls Try.prog 49 #[.string s, .int .i64 p, .int .i64 e, .slice a qs.length cap, .string t, .agg #[.int .i64 x, .int .i64 y, .int .i64 z]] w fun e' w' => e' = .returned (.bool true) ∧ Below w.heap.size w w' := by
  have qB := fun w => block_p s p e 1 17 524288 6 0 0 0 false true w hl
  rw [h] at qB
  clear h
  unfold BlkPost at qB
  dsimp only at qB
  have qS := fun (pa : Option Addr) (ca : Nat) (w : World) (h1 : RowQ w pa qs) (h2 : RowQ w a qs) => rsame_p pa a qs qs ca cap w h1 h2 hn
  rw [decide_eq_true (rfl : qs = qs)] at qS
  go_enter Try.func49, Try.ntmps49
  go_wp2_with (first | (go_at_call 50; refine (pfirst_p _).mono ?_; rintro e w1 ⟨rfl, hb⟩; have hsz := hb.size; (try simp at hsz); (first | (have hbl := blater2 HA (by first | exact Nat.le_refl _ | (simp; done) | (simp; omega)) hb; obtain ⟨hcc, hff, HA, hne, hne'⟩ := hbl) | (obtain ⟨hcc, hff, HA, hne, hne'⟩ := blater1 hb)); (try simp only [World.size_alloc, World.size_setCell] at HA)) | (go_at_call 36; refine (qB _).mono ?_; rintro en w2 ⟨pa, ca, rfl, hg2, hr2, hb2⟩; have hsz := hb2.size; (try simp at hsz); (first | (have hbl := blater2 HA (by first | exact Nat.le_refl _ | (simp; done) | (simp; omega)) hb2; obtain ⟨hcc, hff, HA, hne, hne'⟩ := hbl) | (obtain ⟨hcc, hff, HA, hne, hne'⟩ := blater1 hb2)); (try simp only [World.size_alloc, World.size_setCell] at HA)) | (go_at_call 40; refine (qS _ _ _ (hr2.later (by repeat' (first | with_reducible exact Below.refl _ _ | with_reducible refine Below.drew ?_ | with_reducible refine below_drewN ?_ _ | with_reducible refine Below.alloc ?_ (by first | omega | (simp <;> omega)) _ | with_reducible refine Below.setCell ?_ (by first | omega | (dsimp only; omega) | (simp <;> omega)) _ | with_reducible refine Below.trans ?_ (Below.mono (by assumption) (by first | omega | (simp <;> omega)))))) (hq.later (by repeat' (first | with_reducible exact Below.refl _ _ | with_reducible refine Below.drew ?_ | with_reducible refine below_drewN ?_ _ | with_reducible refine Below.alloc ?_ (by first | omega | (simp <;> omega)) _ | with_reducible refine Below.setCell ?_ (by first | omega | (dsimp only; omega) | (simp <;> omega)) _ | with_reducible refine Below.trans ?_ (Below.mono (by assumption) (by first | omega | (simp <;> omega))))))).mono ?_; rintro en w3 ⟨rfl, hb3⟩; have hsz := hb3.size; (try simp at hsz); (first | (have hbl := blater2 HA (by first | exact Nat.le_refl _ | (simp; done) | (simp; omega)) hb3; obtain ⟨hcc, hff, HA, hne, hne'⟩ := hbl) | (obtain ⟨hcc, hff, HA, hne, hne'⟩ := blater1 hb3)); (try simp only [World.size_alloc, World.size_setCell] at HA)))
  repeat' (first | (go_region <;> go_wp2_with (first | (go_at_call 50; refine (pfirst_p _).mono ?_; rintro e w1 ⟨rfl, hb⟩; have hsz := hb.size; (try simp at hsz); (first | (have hbl := blater2 HA (by first | exact Nat.le_refl _ | (simp; done) | (simp; omega)) hb; obtain ⟨hcc, hff, HA, hne, hne'⟩ := hbl) | (obtain ⟨hcc, hff, HA, hne, hne'⟩ := blater1 hb)); (try simp only [World.size_alloc, World.size_setCell] at HA)) | (go_at_call 36; refine (qB _).mono ?_; rintro en w2 ⟨pa, ca, rfl, hg2, hr2, hb2⟩; have hsz := hb2.size; (try simp at hsz); (first | (have hbl := blater2 HA (by first | exact Nat.le_refl _ | (simp; done) | (simp; omega)) hb2; obtain ⟨hcc, hff, HA, hne, hne'⟩ := hbl) | (obtain ⟨hcc, hff, HA, hne, hne'⟩ := blater1 hb2)); (try simp only [World.size_alloc, World.size_setCell] at HA)) | (go_at_call 40; refine (qS _ _ _ (hr2.later (by repeat' (first | with_reducible exact Below.refl _ _ | with_reducible refine Below.drew ?_ | with_reducible refine below_drewN ?_ _ | with_reducible refine Below.alloc ?_ (by first | omega | (simp <;> omega)) _ | with_reducible refine Below.setCell ?_ (by first | omega | (dsimp only; omega) | (simp <;> omega)) _ | with_reducible refine Below.trans ?_ (Below.mono (by assumption) (by first | omega | (simp <;> omega)))))) (hq.later (by repeat' (first | with_reducible exact Below.refl _ _ | with_reducible refine Below.drew ?_ | with_reducible refine below_drewN ?_ _ | with_reducible refine Below.alloc ?_ (by first | omega | (simp <;> omega)) _ | with_reducible refine Below.setCell ?_ (by first | omega | (dsimp only; omega) | (simp <;> omega)) _ | with_reducible refine Below.trans ?_ (Below.mono (by assumption) (by first | omega | (simp <;> omega))))))).mono ?_; rintro en w3 ⟨rfl, hb3⟩; have hsz := hb3.size; (try simp at hsz); (first | (have hbl := blater2 HA (by first | exact Nat.le_refl _ | (simp; done) | (simp; omega)) hb3; obtain ⟨hcc, hff, HA, hne, hne'⟩ := hbl) | (obtain ⟨hcc, hff, HA, hne, hne'⟩ := blater1 hb3)); (try simp only [World.size_alloc, World.size_setCell] at HA)))))
  all_goals go_light
  all_goals (try simp only [beq_iff_eq, beq_eq_false_iff_ne, bne_iff_ne, bne_eq_false_iff_eq, ne_eq] at *)
  all_goals
    refine bodyPost_ret (v := .bool true) (by simp [results, Try.results49, go_sem, *]) rfl ⟨rfl, ?_⟩
    repeat' (first | with_reducible exact Below.refl _ _ | with_reducible refine Below.drew ?_ | with_reducible refine below_drewN ?_ _ | with_reducible refine Below.alloc ?_ (by first | omega | (simp <;> omega)) _ | with_reducible refine Below.setCell ?_ (by first | omega | (dsimp only; omega) | (simp <;> omega)) _ | with_reducible refine Below.trans ?_ (Below.mono (by assumption) (by first | omega | (simp <;> omega))))

theorem awake_eval : Pblk { data := #[97, 98, 99, 100, 97, 98, 99, 100, 97, 98, 99, 100] } 0 12 1 17 524288 6 0 0 0 = (([(4, 8, 7)], { data := #[97, 98, 99, 100] }, (4, 0, 0)), 0) := by decide +kernel
theorem rowQ_one (w : World) (x y z : Int) (t : TypeId) : RowQ (w.alloc (.cells #[.int .i64 x, .int .i64 y, .int .i64 z] t)) (some ⟨w.heap.size, 0, none⟩) [(x, y, z)] := by
  refine .inr ⟨w.heap.size, 0, rfl, by simp, fun i hi => ?_⟩
  obtain rfl : i = 0 := by simpa using hi
  exact ⟨by simp [go_sem], by simp [go_sem], by simp [go_sem]⟩
theorem awake_p24 (w : World) : Calls Try.prog 35 #[] w fun e w' => e = .returned (.bool true) ∧ Below w.heap.size w w' := by
  have qG := fun (w : World) (a : Option Addr) (h : RowQ w a [(4, 8, 7)]) => gives_t { data := #[97, 98, 99, 100, 97, 98, 99, 100, 97, 98, 99, 100] } { data := #[97, 98, 99, 100] } 0 12 4 0 0 [(4, 8, 7)] a 1 w (by decide) h (by decide) awake_eval
  go_enter Try.func35, Try.ntmps35
  go_wp2_with ((go_at_call 49; go_loud (refine (qG _ _ (rowQ_one _ _ _ _ _)).mono ?_; rintro en w1 ⟨rfl, hb⟩; have hsz := hb.size; (try simp at hsz))))
  repeat' (first | (go_region <;> go_wp2_with ((go_at_call 49; go_loud (refine (qG _ _ (rowQ_one _ _ _ _ _)).mono ?_; rintro en w1 ⟨rfl, hb⟩; have hsz := hb.size; (try simp at hsz))))))
  all_goals go_light
  all_goals (try simp only [beq_iff_eq, beq_eq_false_iff_ne, bne_iff_ne, bne_eq_false_iff_eq, ne_eq] at *)
  all_goals
    refine bodyPost_ret (v := .bool true) (by simp [results, Try.results35, go_sem, *]) rfl ⟨rfl, ?_⟩
    repeat' (first | with_reducible exact Below.refl _ _ | with_reducible refine Below.drew ?_ | with_reducible refine below_drewN ?_ _ | with_reducible refine Below.alloc ?_ (by first | omega | (simp <;> omega)) _ | with_reducible refine Below.setCell ?_ (by first | omega | (dsimp only; omega) | (simp <;> omega)) _ | with_reducible refine Below.trans ?_ (Below.mono (by assumption) (by first | omega | (simp <;> omega))))
end Go.Proofs.Ytammacofhdbgcaa
