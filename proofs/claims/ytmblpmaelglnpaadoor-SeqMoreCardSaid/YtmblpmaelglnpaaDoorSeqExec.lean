/-
  The reference's Execute, walked.
-/
import Derived.Test.YtmblpmaelglnpaaDoorRows
import Derived.Test.YtmblpmaelglnpaaDoorSeqDist
import Derived.Test.YtmblpmaelglnpaaDoorSeqPlain2
import Derived.Test.YtmblpmaelglnpaaDoorSeqCheck
import Derived.Test.YtmblpmaelglnpaaDoorGReps
import Derived.Test.YtmblpmaelglnpaaDoorOwnM
import Derived.Test.YtmblpmaelglnpaaDoorGKit
import Derived.Test.YtmblpmaelglnpaaDoorGBase
import Derived.Deep.Light
import Derived.Shelf.Abstract
import Derived.Shelf.RegionOpen
import Derived.OwnWalkIn
import Derived.TacticsInMore
import Derived.LoopNIn
import Derived.LoopIn
import Derived.Maps.OwnIn
import Derived.Outline
import Derived.IntWalk
import Derived.WalkMore
import Derived.Laws.BytesArg
namespace Go.Proofs.YtmblpmaelglnpaaDoor
open Go.RowKit
set_option linter.unusedSimpArgs false
set_option linter.unusedVariables false
open Go.Shelf
attribute [local go_sem] eq23 Oper.semAt_some

theorem sizeU8 (w : World) : (sizeOf 5).run Tryd.prog w = .ok 1 w := by kernel_rfl
theorem sl_fromB (w : World) (a : Option Addr) (n c m : Nat) (h : m ≤ n) : (Instr.slice 36 (.slice a n c) (some (.int .i64 (m : Int))) none none).run Tryd.prog w = .ok (.slice (if c = m then a else a.map (·.add (m * 1))) (n - m) (c - m)) w := by
  have hu : Tryd.prog.underlying 36 = some (.slice (Tryd.prog.elem 36)) := by kernel_rfl
  have he : Tryd.prog.elem 36 = 5 := by kernel_rfl
  rw [run_slice_l w 36 a n c hu .i64 (m : Int) (by omega) (by omega), he, sizeU8]
  rfl
set_option maxRecDepth 100000 in
set_option maxHeartbeats 4000000 in
theorem rexec_e1 (pq : Option Addr) (qs : List (Int × Int × Int)) (cq : Nat) (lits before : ByteArray) (a b c win : Int) (w : World) (hq : RowQ w pq qs) (hm : qs.length ≤ 9223372036854775807) (hl : lits.size ≤ 9223372036854775807) (hbf : before.size ≤ 9223372036854775807) (h1 : schk qs ≠ 0) :
    Calls Tryd.prog 18 #[.slice pq qs.length cq, .string lits, .string before, .agg #[.int .i64 a, .int .i64 b, .int .i64 c], .int .i64 win] w fun e w' => e = .returned (.tuple #[.string ⟨#[]⟩, .agg #[.int .i64 0, .int .i64 0, .int .i64 0], .int .i64 (schk qs)]) ∧ Below w.heap.size w w' := by
  have qC := fun w h => rscheck_p pq qs cq w h hm
  generalize schk qs = E at qC h1 ⊢
  have e1 : (E == 0) = false := by simpa using h1
  have e2 : (E != 0) = true := by simpa using h1
  clear h1
  go_enter Tryd.func18, Tryd.ntmps18
  go_wp2_with ((go_at_call 28; refine (qC _ (hq.later (by repeat' (first | with_reducible exact Below.refl _ _ | with_reducible refine Below.drew ?_ | with_reducible refine below_drewN ?_ _ | with_reducible refine Below.alloc ?_ (by first | omega | (simp <;> omega)) _ | with_reducible refine Below.setCell ?_ (by first | omega | (dsimp only; omega) | (simp <;> omega)) _ | with_reducible refine Below.trans ?_ (Below.mono (by assumption) (by first | omega | (simp <;> omega))))))).mono ?_; rintro en w1 ⟨rfl, hb⟩; have hsz := hb.size; (try simp at hsz); (first | (have hbl := blater2 HA (by first | exact Nat.le_refl _ | (simp; done) | (simp; omega)) hb; obtain ⟨hcc, hff, HA, hne, hne'⟩ := hbl) | (obtain ⟨hcc, hff, HA, hne, hne'⟩ := blater1 hb)); (try simp only [World.size_alloc, World.size_setCell] at HA)))
  repeat' (first | (go_region <;> go_wp2_with ((go_at_call 28; refine (qC _ (hq.later (by repeat' (first | with_reducible exact Below.refl _ _ | with_reducible refine Below.drew ?_ | with_reducible refine below_drewN ?_ _ | with_reducible refine Below.alloc ?_ (by first | omega | (simp <;> omega)) _ | with_reducible refine Below.setCell ?_ (by first | omega | (dsimp only; omega) | (simp <;> omega)) _ | with_reducible refine Below.trans ?_ (Below.mono (by assumption) (by first | omega | (simp <;> omega))))))).mono ?_; rintro en w1 ⟨rfl, hb⟩; have hsz := hb.size; (try simp at hsz); (first | (have hbl := blater2 HA (by first | exact Nat.le_refl _ | (simp; done) | (simp; omega)) hb; obtain ⟨hcc, hff, HA, hne, hne'⟩ := hbl) | (obtain ⟨hcc, hff, HA, hne, hne'⟩ := blater1 hb)); (try simp only [World.size_alloc, World.size_setCell] at HA)))))
  all_goals go_light
  all_goals (try simp only [beq_iff_eq, beq_eq_false_iff_ne, bne_iff_ne, bne_eq_false_iff_eq, ne_eq] at *)
  all_goals
    refine bodyPost_ret (v := .tuple #[.string ⟨#[]⟩, .agg #[.int .i64 0, .int .i64 0, .int .i64 0], .int .i64 (E)]) (by simp [results, Tryd.results18, go_sem, *]) rfl ⟨rfl, ?_⟩
    repeat' (first | with_reducible exact Below.refl _ _ | with_reducible refine Below.drew ?_ | with_reducible refine below_drewN ?_ _ | with_reducible refine Below.alloc ?_ (by first | omega | (simp <;> omega)) _ | with_reducible refine Below.setCell ?_ (by first | omega | (dsimp only; omega) | (simp <;> omega)) _ | with_reducible refine Below.trans ?_ (Below.mono (by assumption) (by first | omega | (simp <;> omega))))
set_option maxRecDepth 100000 in
set_option maxHeartbeats 4000000 in
theorem rexec_e2 (pq : Option Addr) (qs : List (Int × Int × Int)) (cq : Nat) (lits before : ByteArray) (a b c win : Int) (w : World) (hq : RowQ w pq qs) (hm : qs.length ≤ 9223372036854775807) (hl : lits.size ≤ 9223372036854775807) (hbf : before.size ≤ 9223372036854775807) (h1 : schk qs = 0) (h2 : chkL true [a, b, c] ≠ 0) :
    Calls Tryd.prog 18 #[.slice pq qs.length cq, .string lits, .string before, .agg #[.int .i64 a, .int .i64 b, .int .i64 c], .int .i64 win] w fun e w' => e = .returned (.tuple #[.string ⟨#[]⟩, .agg #[.int .i64 0, .int .i64 0, .int .i64 0], .int .i64 (chkL true [a, b, c])]) ∧ Below w.heap.size w w' := by
  have qC := fun w h => rscheck_p pq qs cq w h hm
  have qR := fun w => check_r a b c w
  rw [h1] at qC
  generalize chkL true [a, b, c] = E at qR h2 ⊢
  have e1 : (E == 0) = false := by simpa using h2
  have e2 : (E != 0) = true := by simpa using h2
  clear h1 h2
  go_enter Tryd.func18, Tryd.ntmps18
  go_wp2_with (first | (go_at_call 28; refine (qC _ (hq.later (by repeat' (first | with_reducible exact Below.refl _ _ | with_reducible refine Below.drew ?_ | with_reducible refine below_drewN ?_ _ | with_reducible refine Below.alloc ?_ (by first | omega | (simp <;> omega)) _ | with_reducible refine Below.setCell ?_ (by first | omega | (dsimp only; omega) | (simp <;> omega)) _ | with_reducible refine Below.trans ?_ (Below.mono (by assumption) (by first | omega | (simp <;> omega))))))).mono ?_; rintro en w1 ⟨rfl, hb⟩; have hsz := hb.size; (try simp at hsz); (first | (have hbl := blater2 HA (by first | exact Nat.le_refl _ | (simp; done) | (simp; omega)) hb; obtain ⟨hcc, hff, HA, hne, hne'⟩ := hbl) | (obtain ⟨hcc, hff, HA, hne, hne'⟩ := blater1 hb)); (try simp only [World.size_alloc, World.size_setCell] at HA)) | (go_at_call 66; refine (qR _).mono ?_; rintro en w2 ⟨rfl, hb2_1⟩; have hsz := hb2_1.size; (try simp at hsz); (first | (have hbl := blater2 HA (by first | exact Nat.le_refl _ | (simp; done) | (simp; omega)) hb2_1; obtain ⟨hcc, hff, HA, hne, hne'⟩ := hbl) | (obtain ⟨hcc, hff, HA, hne, hne'⟩ := blater1 hb2_1)); (try simp only [World.size_alloc, World.size_setCell] at HA)))
  repeat' (first | (go_region <;> go_wp2_with (first | (go_at_call 28; refine (qC _ (hq.later (by repeat' (first | with_reducible exact Below.refl _ _ | with_reducible refine Below.drew ?_ | with_reducible refine below_drewN ?_ _ | with_reducible refine Below.alloc ?_ (by first | omega | (simp <;> omega)) _ | with_reducible refine Below.setCell ?_ (by first | omega | (dsimp only; omega) | (simp <;> omega)) _ | with_reducible refine Below.trans ?_ (Below.mono (by assumption) (by first | omega | (simp <;> omega))))))).mono ?_; rintro en w1 ⟨rfl, hb⟩; have hsz := hb.size; (try simp at hsz); (first | (have hbl := blater2 HA (by first | exact Nat.le_refl _ | (simp; done) | (simp; omega)) hb; obtain ⟨hcc, hff, HA, hne, hne'⟩ := hbl) | (obtain ⟨hcc, hff, HA, hne, hne'⟩ := blater1 hb)); (try simp only [World.size_alloc, World.size_setCell] at HA)) | (go_at_call 66; refine (qR _).mono ?_; rintro en w2 ⟨rfl, hb2_1⟩; have hsz := hb2_1.size; (try simp at hsz); (first | (have hbl := blater2 HA (by first | exact Nat.le_refl _ | (simp; done) | (simp; omega)) hb2_1; obtain ⟨hcc, hff, HA, hne, hne'⟩ := hbl) | (obtain ⟨hcc, hff, HA, hne, hne'⟩ := blater1 hb2_1)); (try simp only [World.size_alloc, World.size_setCell] at HA)))))
  all_goals go_light
  all_goals (try simp only [beq_iff_eq, beq_eq_false_iff_ne, bne_iff_ne, bne_eq_false_iff_eq, ne_eq] at *)
  all_goals
    refine bodyPost_ret (v := .tuple #[.string ⟨#[]⟩, .agg #[.int .i64 0, .int .i64 0, .int .i64 0], .int .i64 (E)]) (by simp [results, Tryd.results18, go_sem, *]) rfl ⟨rfl, ?_⟩
    repeat' (first | with_reducible exact Below.refl _ _ | with_reducible refine Below.drew ?_ | with_reducible refine below_drewN ?_ _ | with_reducible refine Below.alloc ?_ (by first | omega | (simp <;> omega)) _ | with_reducible refine Below.setCell ?_ (by first | omega | (dsimp only; omega) | (simp <;> omega)) _ | with_reducible refine Below.trans ?_ (Below.mono (by assumption) (by first | omega | (simp <;> omega))))
set_option maxRecDepth 100000 in
set_option maxHeartbeats 4000000 in
theorem rexec_e3 (pq : Option Addr) (qs : List (Int × Int × Int)) (cq : Nat) (lits before : ByteArray) (a b c win : Int) (w : World) (hq : RowQ w pq qs) (hm : qs.length ≤ 9223372036854775807) (hl : lits.size ≤ 9223372036854775807) (hbf : before.size ≤ 9223372036854775807) (h1 : schk qs = 0) (h2 : chkL true [a, b, c] = 0) (h3 : win < 0) :
    Calls Tryd.prog 18 #[.slice pq qs.length cq, .string lits, .string before, .agg #[.int .i64 a, .int .i64 b, .int .i64 c], .int .i64 win] w fun e w' => e = .returned (.tuple #[.string ⟨#[]⟩, .agg #[.int .i64 0, .int .i64 0, .int .i64 0], .int .i64 (2)]) ∧ Below w.heap.size w w' := by
  have qC := fun w h => rscheck_p pq qs cq w h hm
  have qR := fun w => check_r a b c w
  rw [h1] at qC
  rw [h2] at qR
  clear h1 h2
  go_enter Tryd.func18, Tryd.ntmps18
  go_wp2_with (first | (go_at_call 28; refine (qC _ (hq.later (by repeat' (first | with_reducible exact Below.refl _ _ | with_reducible refine Below.drew ?_ | with_reducible refine below_drewN ?_ _ | with_reducible refine Below.alloc ?_ (by first | omega | (simp <;> omega)) _ | with_reducible refine Below.setCell ?_ (by first | omega | (dsimp only; omega) | (simp <;> omega)) _ | with_reducible refine Below.trans ?_ (Below.mono (by assumption) (by first | omega | (simp <;> omega))))))).mono ?_; rintro en w1 ⟨rfl, hb⟩; have hsz := hb.size; (try simp at hsz); (first | (have hbl := blater2 HA (by first | exact Nat.le_refl _ | (simp; done) | (simp; omega)) hb; obtain ⟨hcc, hff, HA, hne, hne'⟩ := hbl) | (obtain ⟨hcc, hff, HA, hne, hne'⟩ := blater1 hb)); (try simp only [World.size_alloc, World.size_setCell] at HA)) | (go_at_call 66; refine (qR _).mono ?_; rintro en w2 ⟨rfl, hb2_1⟩; have hsz := hb2_1.size; (try simp at hsz); (first | (have hbl := blater2 HA (by first | exact Nat.le_refl _ | (simp; done) | (simp; omega)) hb2_1; obtain ⟨hcc, hff, HA, hne, hne'⟩ := hbl) | (obtain ⟨hcc, hff, HA, hne, hne'⟩ := blater1 hb2_1)); (try simp only [World.size_alloc, World.size_setCell] at HA)))
  repeat' (first | (go_region <;> go_wp2_with (first | (go_at_call 28; refine (qC _ (hq.later (by repeat' (first | with_reducible exact Below.refl _ _ | with_reducible refine Below.drew ?_ | with_reducible refine below_drewN ?_ _ | with_reducible refine Below.alloc ?_ (by first | omega | (simp <;> omega)) _ | with_reducible refine Below.setCell ?_ (by first | omega | (dsimp only; omega) | (simp <;> omega)) _ | with_reducible refine Below.trans ?_ (Below.mono (by assumption) (by first | omega | (simp <;> omega))))))).mono ?_; rintro en w1 ⟨rfl, hb⟩; have hsz := hb.size; (try simp at hsz); (first | (have hbl := blater2 HA (by first | exact Nat.le_refl _ | (simp; done) | (simp; omega)) hb; obtain ⟨hcc, hff, HA, hne, hne'⟩ := hbl) | (obtain ⟨hcc, hff, HA, hne, hne'⟩ := blater1 hb)); (try simp only [World.size_alloc, World.size_setCell] at HA)) | (go_at_call 66; refine (qR _).mono ?_; rintro en w2 ⟨rfl, hb2_1⟩; have hsz := hb2_1.size; (try simp at hsz); (first | (have hbl := blater2 HA (by first | exact Nat.le_refl _ | (simp; done) | (simp; omega)) hb2_1; obtain ⟨hcc, hff, HA, hne, hne'⟩ := hbl) | (obtain ⟨hcc, hff, HA, hne, hne'⟩ := blater1 hb2_1)); (try simp only [World.size_alloc, World.size_setCell] at HA)))))
  all_goals go_light
  all_goals (try simp only [beq_iff_eq, beq_eq_false_iff_ne, bne_iff_ne, bne_eq_false_iff_eq, ne_eq] at *)
  all_goals
    refine bodyPost_ret (v := .tuple #[.string ⟨#[]⟩, .agg #[.int .i64 0, .int .i64 0, .int .i64 0], .int .i64 (2)]) (by simp [results, Tryd.results18, go_sem, *]) rfl ⟨rfl, ?_⟩
    repeat' (first | with_reducible exact Below.refl _ _ | with_reducible refine Below.drew ?_ | with_reducible refine below_drewN ?_ _ | with_reducible refine Below.alloc ?_ (by first | omega | (simp <;> omega)) _ | with_reducible refine Below.setCell ?_ (by first | omega | (dsimp only; omega) | (simp <;> omega)) _ | with_reducible refine Below.trans ?_ (Below.mono (by assumption) (by first | omega | (simp <;> omega))))
set_option maxRecDepth 100000 in
set_option maxHeartbeats 4000000 in
theorem rexec_e4 (pq : Option Addr) (qs : List (Int × Int × Int)) (cq : Nat) (lits before : ByteArray) (a b c win : Int) (w : World) (hq : RowQ w pq qs) (hm : qs.length ≤ 9223372036854775807) (hl : lits.size ≤ 9223372036854775807) (hbf : before.size ≤ 9223372036854775807) (h1 : schk qs = 0) (h2 : chkL true [a, b, c] = 0) (h3 : ¬ win < 0) (e1 : decide ((131072 : Int) < (lits.size : Int)) = true) :
    Calls Tryd.prog 18 #[.slice pq qs.length cq, .string lits, .string before, .agg #[.int .i64 a, .int .i64 b, .int .i64 c], .int .i64 win] w fun e w' => e = .returned (.tuple #[.string ⟨#[]⟩, .agg #[.int .i64 0, .int .i64 0, .int .i64 0], .int .i64 (4)]) ∧ Below w.heap.size w w' := by
  have qC := fun w h => rscheck_p pq qs cq w h hm
  have qR := fun w => check_r a b c w
  rw [h1] at qC
  rw [h2] at qR
  clear h1 h2
  go_enter Tryd.func18, Tryd.ntmps18
  go_wp2_with (first | (go_at_call 28; refine (qC _ (hq.later (by repeat' (first | with_reducible exact Below.refl _ _ | with_reducible refine Below.drew ?_ | with_reducible refine below_drewN ?_ _ | with_reducible refine Below.alloc ?_ (by first | omega | (simp <;> omega)) _ | with_reducible refine Below.setCell ?_ (by first | omega | (dsimp only; omega) | (simp <;> omega)) _ | with_reducible refine Below.trans ?_ (Below.mono (by assumption) (by first | omega | (simp <;> omega))))))).mono ?_; rintro en w1 ⟨rfl, hb⟩; have hsz := hb.size; (try simp at hsz); (first | (have hbl := blater2 HA (by first | exact Nat.le_refl _ | (simp; done) | (simp; omega)) hb; obtain ⟨hcc, hff, HA, hne, hne'⟩ := hbl) | (obtain ⟨hcc, hff, HA, hne, hne'⟩ := blater1 hb)); (try simp only [World.size_alloc, World.size_setCell] at HA)) | (go_at_call 66; refine (qR _).mono ?_; rintro en w2 ⟨rfl, hb2_1⟩; have hsz := hb2_1.size; (try simp at hsz); (first | (have hbl := blater2 HA (by first | exact Nat.le_refl _ | (simp; done) | (simp; omega)) hb2_1; obtain ⟨hcc, hff, HA, hne, hne'⟩ := hbl) | (obtain ⟨hcc, hff, HA, hne, hne'⟩ := blater1 hb2_1)); (try simp only [World.size_alloc, World.size_setCell] at HA)))
  repeat' (first | (go_region <;> go_wp2_with (first | (go_at_call 28; refine (qC _ (hq.later (by repeat' (first | with_reducible exact Below.refl _ _ | with_reducible refine Below.drew ?_ | with_reducible refine below_drewN ?_ _ | with_reducible refine Below.alloc ?_ (by first | omega | (simp <;> omega)) _ | with_reducible refine Below.setCell ?_ (by first | omega | (dsimp only; omega) | (simp <;> omega)) _ | with_reducible refine Below.trans ?_ (Below.mono (by assumption) (by first | omega | (simp <;> omega))))))).mono ?_; rintro en w1 ⟨rfl, hb⟩; have hsz := hb.size; (try simp at hsz); (first | (have hbl := blater2 HA (by first | exact Nat.le_refl _ | (simp; done) | (simp; omega)) hb; obtain ⟨hcc, hff, HA, hne, hne'⟩ := hbl) | (obtain ⟨hcc, hff, HA, hne, hne'⟩ := blater1 hb)); (try simp only [World.size_alloc, World.size_setCell] at HA)) | (go_at_call 66; refine (qR _).mono ?_; rintro en w2 ⟨rfl, hb2_1⟩; have hsz := hb2_1.size; (try simp at hsz); (first | (have hbl := blater2 HA (by first | exact Nat.le_refl _ | (simp; done) | (simp; omega)) hb2_1; obtain ⟨hcc, hff, HA, hne, hne'⟩ := hbl) | (obtain ⟨hcc, hff, HA, hne, hne'⟩ := blater1 hb2_1)); (try simp only [World.size_alloc, World.size_setCell] at HA)))))
  all_goals go_light
  all_goals (try simp only [beq_iff_eq, beq_eq_false_iff_ne, bne_iff_ne, bne_eq_false_iff_eq, ne_eq] at *)
  all_goals
    refine bodyPost_ret (v := .tuple #[.string ⟨#[]⟩, .agg #[.int .i64 0, .int .i64 0, .int .i64 0], .int .i64 (4)]) (by simp [results, Tryd.results18, go_sem, *]) rfl ⟨rfl, ?_⟩
    repeat' (first | with_reducible exact Below.refl _ _ | with_reducible refine Below.drew ?_ | with_reducible refine below_drewN ?_ _ | with_reducible refine Below.alloc ?_ (by first | omega | (simp <;> omega)) _ | with_reducible refine Below.setCell ?_ (by first | omega | (dsimp only; omega) | (simp <;> omega)) _ | with_reducible refine Below.trans ?_ (Below.mono (by assumption) (by first | omega | (simp <;> omega))))
set_option maxRecDepth 100000 in
set_option maxHeartbeats 4000000 in
theorem rexec_e5 (pq : Option Addr) (qs : List (Int × Int × Int)) (cq : Nat) (lits before : ByteArray) (a b c win : Int) (w : World) (hq : RowQ w pq qs) (hm : qs.length ≤ 9223372036854775807) (hl : lits.size ≤ 9223372036854775807) (hbf : before.size ≤ 9223372036854775807) (h1 : schk qs = 0) (h2 : chkL true [a, b, c] = 0) (h3 : ¬ win < 0) (e1 : decide ((131072 : Int) < (lits.size : Int)) = false) (e2 : decide ((1048576 : Int) < (before.size : Int)) = true) :
    Calls Tryd.prog 18 #[.slice pq qs.length cq, .string lits, .string before, .agg #[.int .i64 a, .int .i64 b, .int .i64 c], .int .i64 win] w fun e w' => e = .returned (.tuple #[.string ⟨#[]⟩, .agg #[.int .i64 0, .int .i64 0, .int .i64 0], .int .i64 (4)]) ∧ Below w.heap.size w w' := by
  have qC := fun w h => rscheck_p pq qs cq w h hm
  have qR := fun w => check_r a b c w
  rw [h1] at qC
  rw [h2] at qR
  clear h1 h2
  go_enter Tryd.func18, Tryd.ntmps18
  go_wp2_with (first | (go_at_call 28; refine (qC _ (hq.later (by repeat' (first | with_reducible exact Below.refl _ _ | with_reducible refine Below.drew ?_ | with_reducible refine below_drewN ?_ _ | with_reducible refine Below.alloc ?_ (by first | omega | (simp <;> omega)) _ | with_reducible refine Below.setCell ?_ (by first | omega | (dsimp only; omega) | (simp <;> omega)) _ | with_reducible refine Below.trans ?_ (Below.mono (by assumption) (by first | omega | (simp <;> omega))))))).mono ?_; rintro en w1 ⟨rfl, hb⟩; have hsz := hb.size; (try simp at hsz); (first | (have hbl := blater2 HA (by first | exact Nat.le_refl _ | (simp; done) | (simp; omega)) hb; obtain ⟨hcc, hff, HA, hne, hne'⟩ := hbl) | (obtain ⟨hcc, hff, HA, hne, hne'⟩ := blater1 hb)); (try simp only [World.size_alloc, World.size_setCell] at HA)) | (go_at_call 66; refine (qR _).mono ?_; rintro en w2 ⟨rfl, hb2_1⟩; have hsz := hb2_1.size; (try simp at hsz); (first | (have hbl := blater2 HA (by first | exact Nat.le_refl _ | (simp; done) | (simp; omega)) hb2_1; obtain ⟨hcc, hff, HA, hne, hne'⟩ := hbl) | (obtain ⟨hcc, hff, HA, hne, hne'⟩ := blater1 hb2_1)); (try simp only [World.size_alloc, World.size_setCell] at HA)))
  repeat' (first | (go_region <;> go_wp2_with (first | (go_at_call 28; refine (qC _ (hq.later (by repeat' (first | with_reducible exact Below.refl _ _ | with_reducible refine Below.drew ?_ | with_reducible refine below_drewN ?_ _ | with_reducible refine Below.alloc ?_ (by first | omega | (simp <;> omega)) _ | with_reducible refine Below.setCell ?_ (by first | omega | (dsimp only; omega) | (simp <;> omega)) _ | with_reducible refine Below.trans ?_ (Below.mono (by assumption) (by first | omega | (simp <;> omega))))))).mono ?_; rintro en w1 ⟨rfl, hb⟩; have hsz := hb.size; (try simp at hsz); (first | (have hbl := blater2 HA (by first | exact Nat.le_refl _ | (simp; done) | (simp; omega)) hb; obtain ⟨hcc, hff, HA, hne, hne'⟩ := hbl) | (obtain ⟨hcc, hff, HA, hne, hne'⟩ := blater1 hb)); (try simp only [World.size_alloc, World.size_setCell] at HA)) | (go_at_call 66; refine (qR _).mono ?_; rintro en w2 ⟨rfl, hb2_1⟩; have hsz := hb2_1.size; (try simp at hsz); (first | (have hbl := blater2 HA (by first | exact Nat.le_refl _ | (simp; done) | (simp; omega)) hb2_1; obtain ⟨hcc, hff, HA, hne, hne'⟩ := hbl) | (obtain ⟨hcc, hff, HA, hne, hne'⟩ := blater1 hb2_1)); (try simp only [World.size_alloc, World.size_setCell] at HA)))))
  all_goals go_light
  all_goals (try simp only [beq_iff_eq, beq_eq_false_iff_ne, bne_iff_ne, bne_eq_false_iff_eq, ne_eq] at *)
  all_goals
    refine bodyPost_ret (v := .tuple #[.string ⟨#[]⟩, .agg #[.int .i64 0, .int .i64 0, .int .i64 0], .int .i64 (4)]) (by simp [results, Tryd.results18, go_sem, *]) rfl ⟨rfl, ?_⟩
    repeat' (first | with_reducible exact Below.refl _ _ | with_reducible refine Below.drew ?_ | with_reducible refine below_drewN ?_ _ | with_reducible refine Below.alloc ?_ (by first | omega | (simp <;> omega)) _ | with_reducible refine Below.setCell ?_ (by first | omega | (dsimp only; omega) | (simp <;> omega)) _ | with_reducible refine Below.trans ?_ (Below.mono (by assumption) (by first | omega | (simp <;> omega))))
set_option maxRecDepth 100000 in
set_option maxHeartbeats 4000000 in
theorem rexec_e6 (pq : Option Addr) (qs : List (Int × Int × Int)) (cq : Nat) (lits before : ByteArray) (a b c win : Int) (w : World) (hq : RowQ w pq qs) (hm : qs.length ≤ 9223372036854775807) (hl : lits.size ≤ 9223372036854775807) (hbf : before.size ≤ 9223372036854775807) (h1 : schk qs = 0) (h2 : chkL true [a, b, c] = 0) (h3 : ¬ win < 0) (e1 : decide ((131072 : Int) < (lits.size : Int)) = false) (e2 : decide ((1048576 : Int) < (before.size : Int)) = false) (h6 : eAll win qs lits.size before.size (a, b, c) ≠ 0) :
    Calls Tryd.prog 18 #[.slice pq qs.length cq, .string lits, .string before, .agg #[.int .i64 a, .int .i64 b, .int .i64 c], .int .i64 win] w fun e w' => e = .returned (.tuple #[.string ⟨#[]⟩, .agg #[.int .i64 0, .int .i64 0, .int .i64 0], .int .i64 (eAll win qs lits.size before.size (a, b, c))]) ∧ Below w.heap.size w w' := by
  have qC := fun w h => rscheck_p pq qs cq w h hm
  have qR := fun w => check_r a b c w
  have qD := fun w h => rdists_p pq qs cq lits.size before.size a b c win w h h1 (by omega) (by simp at e1; omega) (by omega) (by simp at e2; omega)
  unfold DisPost at qD
  generalize eAll win qs lits.size before.size (a, b, c) = E at qD h6 ⊢
  have e3 : (E != 0) = true := by simpa using h6
  rw [h1] at qC
  rw [h2] at qR
  clear h1 h2 h6
  go_enter Tryd.func18, Tryd.ntmps18
  go_wp2_with (first | (go_at_call 28; refine (qC _ (hq.later (by repeat' (first | with_reducible exact Below.refl _ _ | with_reducible refine Below.drew ?_ | with_reducible refine below_drewN ?_ _ | with_reducible refine Below.alloc ?_ (by first | omega | (simp <;> omega)) _ | with_reducible refine Below.setCell ?_ (by first | omega | (dsimp only; omega) | (simp <;> omega)) _ | with_reducible refine Below.trans ?_ (Below.mono (by assumption) (by first | omega | (simp <;> omega))))))).mono ?_; rintro en w1 ⟨rfl, hb⟩; have hsz := hb.size; (try simp at hsz); (first | (have hbl := blater2 HA (by first | exact Nat.le_refl _ | (simp; done) | (simp; omega)) hb; obtain ⟨hcc, hff, HA, hne, hne'⟩ := hbl) | (obtain ⟨hcc, hff, HA, hne, hne'⟩ := blater1 hb)); (try simp only [World.size_alloc, World.size_setCell] at HA)) | (go_at_call 66; refine (qR _).mono ?_; rintro en w2 ⟨rfl, hb2_1⟩; have hsz := hb2_1.size; (try simp at hsz); (first | (have hbl := blater2 HA (by first | exact Nat.le_refl _ | (simp; done) | (simp; omega)) hb2_1; obtain ⟨hcc, hff, HA, hne, hne'⟩ := hbl) | (obtain ⟨hcc, hff, HA, hne, hne'⟩ := blater1 hb2_1)); (try simp only [World.size_alloc, World.size_setCell] at HA)) | (go_at_call 67; refine (qD _ (hq.later (by repeat' (first | with_reducible exact Below.refl _ _ | with_reducible refine Below.drew ?_ | with_reducible refine below_drewN ?_ _ | with_reducible refine Below.alloc ?_ (by first | omega | (simp <;> omega)) _ | with_reducible refine Below.setCell ?_ (by first | omega | (dsimp only; omega) | (simp <;> omega)) _ | with_reducible refine Below.trans ?_ (Below.mono (by assumption) (by first | omega | (simp <;> omega))))))).mono ?_; rintro en w3 ⟨ds, pd, cd, dx, dy, dz, dE, rfl, hrd, hE, hok, hb3⟩; subst hE; clear hok; have hsz := hb3.size; (try simp at hsz); (first | (have hbl := blater2 HA (by first | exact Nat.le_refl _ | (simp; done) | (simp; omega)) hb3; obtain ⟨hcc, hff, HA, hne, hne'⟩ := hbl) | (obtain ⟨hcc, hff, HA, hne, hne'⟩ := blater1 hb3)); (try simp only [World.size_alloc, World.size_setCell] at HA)))
  repeat' (first | (go_region <;> go_wp2_with (first | (go_at_call 28; refine (qC _ (hq.later (by repeat' (first | with_reducible exact Below.refl _ _ | with_reducible refine Below.drew ?_ | with_reducible refine below_drewN ?_ _ | with_reducible refine Below.alloc ?_ (by first | omega | (simp <;> omega)) _ | with_reducible refine Below.setCell ?_ (by first | omega | (dsimp only; omega) | (simp <;> omega)) _ | with_reducible refine Below.trans ?_ (Below.mono (by assumption) (by first | omega | (simp <;> omega))))))).mono ?_; rintro en w1 ⟨rfl, hb⟩; have hsz := hb.size; (try simp at hsz); (first | (have hbl := blater2 HA (by first | exact Nat.le_refl _ | (simp; done) | (simp; omega)) hb; obtain ⟨hcc, hff, HA, hne, hne'⟩ := hbl) | (obtain ⟨hcc, hff, HA, hne, hne'⟩ := blater1 hb)); (try simp only [World.size_alloc, World.size_setCell] at HA)) | (go_at_call 66; refine (qR _).mono ?_; rintro en w2 ⟨rfl, hb2_1⟩; have hsz := hb2_1.size; (try simp at hsz); (first | (have hbl := blater2 HA (by first | exact Nat.le_refl _ | (simp; done) | (simp; omega)) hb2_1; obtain ⟨hcc, hff, HA, hne, hne'⟩ := hbl) | (obtain ⟨hcc, hff, HA, hne, hne'⟩ := blater1 hb2_1)); (try simp only [World.size_alloc, World.size_setCell] at HA)) | (go_at_call 67; refine (qD _ (hq.later (by repeat' (first | with_reducible exact Below.refl _ _ | with_reducible refine Below.drew ?_ | with_reducible refine below_drewN ?_ _ | with_reducible refine Below.alloc ?_ (by first | omega | (simp <;> omega)) _ | with_reducible refine Below.setCell ?_ (by first | omega | (dsimp only; omega) | (simp <;> omega)) _ | with_reducible refine Below.trans ?_ (Below.mono (by assumption) (by first | omega | (simp <;> omega))))))).mono ?_; rintro en w3 ⟨ds, pd, cd, dx, dy, dz, dE, rfl, hrd, hE, hok, hb3⟩; subst hE; clear hok; have hsz := hb3.size; (try simp at hsz); (first | (have hbl := blater2 HA (by first | exact Nat.le_refl _ | (simp; done) | (simp; omega)) hb3; obtain ⟨hcc, hff, HA, hne, hne'⟩ := hbl) | (obtain ⟨hcc, hff, HA, hne, hne'⟩ := blater1 hb3)); (try simp only [World.size_alloc, World.size_setCell] at HA)))))
  all_goals go_light
  all_goals (try simp only [beq_iff_eq, beq_eq_false_iff_ne, bne_iff_ne, bne_eq_false_iff_eq, ne_eq] at *)
  all_goals
    refine bodyPost_ret (v := .tuple #[.string ⟨#[]⟩, .agg #[.int .i64 0, .int .i64 0, .int .i64 0], .int .i64 (dE)]) (by simp [results, Tryd.results18, go_sem, *]) rfl ⟨rfl, ?_⟩
    repeat' (first | with_reducible exact Below.refl _ _ | with_reducible refine Below.drew ?_ | with_reducible refine below_drewN ?_ _ | with_reducible refine Below.alloc ?_ (by first | omega | (simp <;> omega)) _ | with_reducible refine Below.setCell ?_ (by first | omega | (dsimp only; omega) | (simp <;> omega)) _ | with_reducible refine Below.trans ?_ (Below.mono (by assumption) (by first | omega | (simp <;> omega))))

set_option maxRecDepth 100000 in
set_option maxHeartbeats 8000000 in
theorem rexec_1 (pq : Option Addr) (qs : List (Int × Int × Int)) (cq : Nat) (lits before : ByteArray) (a b c win : Int) (w : World) (hq : RowQ w pq qs) (hm : qs.length ≤ 9223372036854775807) (hl : lits.size ≤ 9223372036854775807) (hbf : before.size ≤ 9223372036854775807) (h1 : schk qs = 0) (h2 : chkL true [a, b, c] = 0) (h3 : ¬ win < 0) (e1 : decide ((131072 : Int) < (lits.size : Int)) = false) (e2 : decide ((1048576 : Int) < (before.size : Int)) = false) (h6 : eAll win qs lits.size before.size (a, b, c) = 0) :
    Calls Tryd.prog 18 #[.slice pq qs.length cq, .string lits, .string before, .agg #[.int .i64 a, .int .i64 b, .int .i64 c], .int .i64 win] w fun e w' => e = .returned (.tuple #[.string (Rexec qs lits before a b c win).1, .agg #[.int .i64 (Rexec qs lits before a b c win).2.1.1, .int .i64 (Rexec qs lits before a b c win).2.1.2.1, .int .i64 (Rexec qs lits before a b c win).2.1.2.2], .int .i64 (Rexec qs lits before a b c win).2.2]) ∧ Below w.heap.size w w' := by
  have hl2 : lits.size ≤ 131072 := by simp at e1; omega
  have hb2 : before.size ≤ 1048576 := by simp at e2; omega
  obtain ⟨hO1, hO2⟩ := eOut_all lits before h1 h6
  rw [rexec_ok h1 h2 (by omega) hl2 hb2 h6]
  dsimp only
  have qC := fun w h => rscheck_p pq qs cq w h hm
  have qR := fun w => check_r a b c w
  have qD := fun w h => rdists_p pq qs cq lits.size before.size a b c win w h h1 (by omega) (by simp at e1; omega) (by omega) (by simp at e2; omega)
  unfold DisPost at qD
  rw [h1] at qC
  rw [h2] at qR
  rw [h6] at qD
  have hn98 := (schk_get h1).1
  clear h1 h2 h6
  have hDl := eDs_len qs lits.size before.size (a, b, c) qs.length
  generalize eDs qs lits.size before.size (a, b, c) qs.length = DS at hO1 hO2 qD hDl ⊢
  generalize (eS qs lits.size before.size (a, b, c) qs.length).2.2 = XYZ at qD ⊢
  obtain ⟨x', y', z'⟩ := XYZ
  have qD2 : ∀ w, RowQ w pq qs → Calls Tryd.prog 67 #[.slice pq qs.length cq, .int .i64 lits.size, .int .i64 before.size, .agg #[.int .i64 a, .int .i64 b, .int .i64 c], .int .i64 win] w fun e w' => ∃ pd cd, e = .returned (.tuple #[.slice pd DS.length cd, .agg #[.int .i64 x', .int .i64 y', .int .i64 z'], .int .i64 0]) ∧ Row .i64 w' pd DS ∧ Below w.heap.size w w' := by
    intro w h
    refine (qD w h).mono ?_
    rintro en w3 ⟨ds, pd, cd, dx, dy, dz, dE, rfl, hrd, rfl, hok, hb3⟩
    obtain ⟨rfl, hxyz⟩ := hok rfl
    cases hxyz
    exact ⟨pd, cd, rfl, hrd, hb3⟩
  clear qD
  go_enter Tryd.func18, Tryd.ntmps18
  go_wp2_with (first | (go_at_call 28; refine (qC _ (hq.later (by repeat' (first | with_reducible exact Below.refl _ _ | with_reducible refine Below.drew ?_ | with_reducible refine below_drewN ?_ _ | with_reducible refine Below.alloc ?_ (by first | omega | (simp <;> omega)) _ | with_reducible refine Below.setCell ?_ (by first | omega | (dsimp only; omega) | (simp <;> omega)) _ | with_reducible refine Below.trans ?_ (Below.mono (by assumption) (by first | omega | (simp <;> omega))))))).mono ?_; rintro en w1 ⟨rfl, hb⟩; have hsz := hb.size; (try simp at hsz); (first | (have hbl := blater2 HA (by first | exact Nat.le_refl _ | (simp; done) | (simp; omega)) hb; obtain ⟨hcc, hff, HA, hne, hne'⟩ := hbl) | (obtain ⟨hcc, hff, HA, hne, hne'⟩ := blater1 hb)); (try simp only [World.size_alloc, World.size_setCell] at HA)) | (go_at_call 66; refine (qR _).mono ?_; rintro en w2 ⟨rfl, hb2_1⟩; have hsz := hb2_1.size; (try simp at hsz); (first | (have hbl := blater2 HA (by first | exact Nat.le_refl _ | (simp; done) | (simp; omega)) hb2_1; obtain ⟨hcc, hff, HA, hne, hne'⟩ := hbl) | (obtain ⟨hcc, hff, HA, hne, hne'⟩ := blater1 hb2_1)); (try simp only [World.size_alloc, World.size_setCell] at HA)) | (go_at_call 67; refine (qD2 _ (hq.later (by repeat' (first | with_reducible exact Below.refl _ _ | with_reducible refine Below.drew ?_ | with_reducible refine below_drewN ?_ _ | with_reducible refine Below.alloc ?_ (by first | omega | (simp <;> omega)) _ | with_reducible refine Below.setCell ?_ (by first | omega | (dsimp only; omega) | (simp <;> omega)) _ | with_reducible refine Below.trans ?_ (Below.mono (by assumption) (by first | omega | (simp <;> omega))))))).mono ?_; rintro en w3 ⟨pd, cd, rfl, hrd, hb3⟩; have hsz := hb3.size; (try simp at hsz); (first | (have hbl := blater2 HA (by first | exact Nat.le_refl _ | (simp; done) | (simp; omega)) hb3; obtain ⟨hcc, hff, HA, hne, hne'⟩ := hbl) | (obtain ⟨hcc, hff, HA, hne, hne'⟩ := blater1 hb3)); (try simp only [World.size_alloc, World.size_setCell] at HA)))
  have hN0 : Blk ((w.alloc (.cells #[.int .i64 a, .int .i64 b, .int .i64 c] 24)).alloc (.cells #[.int .i64 0, .int .i64 0, .int .i64 0] 24)) (w.heap.size + 1) 24 [.int .i64 0, .int .i64 0, .int .i64 0] := by simpa using Blk.new (w.alloc (.cells #[.int .i64 a, .int .i64 b, .int .i64 c] 24)) 24 #[.int .i64 0, .int .i64 0, .int .i64 0]
  have hN4 := (((hN0.later hb).later hb2_1).later hb3).alloc (.cells #[.int .i64 x', .int .i64 y', .int .i64 z'] 24)
  have hX4 : Blk (w3.alloc (.cells #[.int .i64 x', .int .i64 y', .int .i64 z'] 24)) w3.heap.size 24 [.int .i64 x', .int .i64 y', .int .i64 z'] := Blk.new _ _ _
  have hrd4 := hrd.later ((Below.refl _ w3).alloc (Nat.le_refl _) (.cells #[.int .i64 x', .int .i64 y', .int .i64 z'] 24))
  have hsz9 := hb.size
  simp at hsz9
  have B4 : Below w.heap.size w (w3.alloc (.cells #[.int .i64 x', .int .i64 y', .int .i64 z'] 24)) := by repeat' (first | with_reducible exact Below.refl _ _ | with_reducible refine Below.drew ?_ | with_reducible refine below_drewN ?_ _ | with_reducible refine Below.alloc ?_ (by first | omega | (simp <;> omega)) _ | with_reducible refine Below.setCell ?_ (by first | omega | (dsimp only; omega) | (simp <;> omega)) _ | with_reducible refine Below.trans ?_ (Below.mono (by assumption) (by first | omega | (simp <;> omega))))
  have hq4 := hq.later B4
  have hsz4 : w3.heap.size < (w3.alloc (.cells #[.int .i64 x', .int .i64 y', .int .i64 z'] 24)).heap.size := by simp
  obtain ⟨W4, hW4⟩ : ∃ W, w3.alloc (.cells #[.int .i64 x', .int .i64 y', .int .i64 z'] 24) = W := ⟨_, rfl⟩
  have hbNX : w.heap.size + 1 < w3.heap.size := by omega
  have hb4 := B4.size
  rw [hW4] at hN4 hX4 hrd4 B4 hq4 hsz4 hb4 ⊢
  obtain ⟨bX, hbX⟩ : ∃ x, w3.heap.size = x := ⟨_, rfl⟩
  obtain ⟨bN, hbN⟩ : ∃ x, w.heap.size + 1 = x := ⟨_, rfl⟩
  rw [hbX] at hX4 hbNX hsz4 ⊢
  rw [hbN] at hN4 hbNX ⊢
  have hbN3 : w.heap.size ≤ bN := by omega
  clear hN0 hq hrd hb hb2_1 hb3 hW4 qC qR qD2 hcc hff HA hne hne' hbX hbN hsz hsz9
  obtain ⟨V0, W5, hcv, hO5, hB5⟩ : ∃ V W5, (convert 9 36 (.string before)).run Tryd.prog W4 = .ok V W5 ∧ OwnM W5 W4.heap.size 5 V ((bI before).map (Value.int .u8)) ∧ Below W4.heap.size W4 W5 :=
    ⟨_, _, run_bytes_of_string W4 9 36 5 before Tryd.underlying9 Tryd.underlying36 Tryd.underlying5, by rw [← strCells_bI]; exact ownM_bytes W4 5 before (by unfold maxLen; omega), ((Below.refl _ W4).drew).alloc (Nat.le_refl _) _⟩
  obtain ⟨i1, hi1, hz0, hz1, hz2⟩ := info_parts infoU8k
  rw [hcv]
  go_simp
  go_wp2
  clear hcv
  have HQ := Lib.hid hq4
  have HRD := Lib.hid hrd4
  have HN := Lib.hid hN4
  have HX := Lib.hid hX4
  have HO1 := Lib.hid hO1
  have HO2 := Lib.hid hO2
  clear hq4 hrd4 hN4 hX4 hO1 hO2
  go_loopw [1, 16, 17] (fun v1 v16 v17 wr => ∃ (k : Nat) (lt : ByteArray), k ≤ qs.length ∧ v17 = .int .i64 (k : Int) ∧ v1 = .string lt ∧ Hid (bI lt = (bI lits).drop (eOut (bI lits) qs DS (bI before) k).2) ∧ OwnM wr W4.heap.size 5 v16 ((eOut (bI lits) qs DS (bI before) k).1.map (Value.int .u8)) ∧ Below W4.heap.size W4 wr) (fun _ _ v _ => qs.length - (intOf v).toNat)
  case atStart => exact ⟨0, lits, by omega, rfl, rfl, Lib.hid rfl, hO5, hB5⟩
  case round =>
    clear hO5 hB5
    obtain ⟨k, lt, hk, rfl, rfl, HLT, hown, hbw⟩ := hrel
    have hws := hbw.size
    obtain ⟨u1, u2, u3⟩ := HO1.out k hk
    have hLS : lt.size = lits.size - (eOut (bI lits) qs DS (bI before) k).2 := by
      have := congrArg List.length HLT.out
      rw [List.length_drop, bI_len, bI_len] at this
      exact this
    by_cases hlt : k < qs.length
    · obtain ⟨b1, o1, rfl, hb5, hc1⟩ := HQ.out.at hlt
      obtain ⟨b2, o2, rfl, hb6, hc2⟩ := HRD.out.at (by omega : k < DS.length)
      have c4 := hc2 k (by omega)
      clear hc2
      obtain ⟨c1, c2, c3⟩ := hc1 k hlt
      obtain ⟨x, m, d, v, g1, g2, g3, g4, g5, g6, g7, g8⟩ := HO2.out k hlt
      have hNx : eOut (bI lits) qs DS (bI before) (k + 1) = (repL ((eOut (bI lits) qs DS (bI before) k).1 ++ ((bI lits).drop (eOut (bI lits) qs DS (bI before) k).2).take x) d m, (eOut (bI lits) qs DS (bI before) k).2 + x) := by
        rw [eOut, g1, g2]
        simp only [Int.toNat_natCast]
      obtain ⟨v1, v2, v3⟩ := HO1.out (k + 1) (by omega)
      rw [hNx] at v2
      simp only [repL_len, List.length_append, List.length_take, List.length_drop, bI_len] at v2
      rw [g1] at c1 c2 c3
      dsimp only at c1 c2 c3
      rw [g2] at c4
      have C4 := Lib.hid c4
      clear c4
      have C1 := Lib.hid c1
      have C2 := Lib.hid c2
      replace c2 := (hbw.cell (p := ⟨b1, o1 + k * 3 + 1, none⟩) hb5).trans c2
      replace c1 := (hbw.cell (p := ⟨b1, o1 + k * 3, none⟩) hb5).trans c1
      rw [← HLT.out] at hNx
      generalize eOut (bI lits) qs DS (bI before) k = O at hNx hLS u1 u2 u3 v2 g4 g5 HLT hown
      have HNX := Lib.hid hNx
      have HG2 := Lib.hid g2
      have hstr : Lib.strCells (lt.extract 0 x) = ((bI lt).take x).map (Value.int .u8) := by
        rw [strCells_bI, bI_extract, List.drop_zero, Nat.sub_zero]
      have hex : (lt.extract 0 x).size = x := by rw [ByteArray.size_extract]; omega
      have HST := Lib.hid hstr
      have HO := Lib.hid hown
      have hol : (O.1.map (Value.int .u8)).length = O.1.length := List.length_map _
      have i0 : (0 : Int) ≤ (k : Int) := by omega
      have i1' : (k : Int) < (qs.length : Int) := by omega
      have j1 : (x : Int) ≤ (lt.size : Int) := by omega
      have j2 : x ≤ lt.size := by omega
      clear hc1 g1 g2 hNx hown hstr c3
      go_wp2_with (at_builtin; refine wpList_append_strM _ rfl _ _ 36 9 rfl W4.heap.size 5 i1 Tryd.underlying36 Tryd.underlying9 hi1 hz0 hz1 hz2 _ _ rfl HO.out (lt.extract 0 x) rfl (by unfold maxLen; rw [hol, hex]; omega) (by rw [hol, hex]; omega) hws ?_; intro V1 w6 hO6 hg6; have hB6 := hbw.grown hg6 hws HO.out.base; have hs6 := hB6.size; have r1 := (hB6.cell (p := ⟨b1, o1 + k * 3, none⟩) hb5).trans C1.out; have r2 := (hB6.cell (p := ⟨b1, o1 + k * 3 + 1, none⟩) hb5).trans C2.out)
      have hO7 : OwnM w6 W4.heap.size 5 V1 ((O.1 ++ (bI lt).take x).map (Value.int .u8)) := by
        rw [List.map_append, ← HST.out]
        exact hO6
      have hAl : (O.1 ++ (bI lt).take x).length = O.1.length + x := by rw [List.length_append, List.length_take, bI_len]; omega
      generalize O.1 ++ (bI lt).take x = A at HNX hO7 hAl
      have HO7 := Lib.hid hO7
      have hlx : (lt.extract x lt.size).size = lt.size - x := by rw [ByteArray.size_extract]; omega
      have hlb : bI (lt.extract x lt.size) = (bI lits).drop (O.2 + x) := by
        rw [bI_extract, HLT.out, List.drop_drop, List.take_of_length_le (by rw [List.length_drop, bI_len]; omega)]
      have HLB := Lib.hid hlb
      clear hO6 hO7 hg6 HST HO r1 hlb hws hbw c1 c2
      obtain ⟨wo, hwo⟩ : ∃ wo : World, wo = wr := ⟨_, rfl⟩
      subst hwo
      go_loopw [16, 18] (fun v16 v18 wr => ∃ j : Nat, v18 = .int .i64 (j : Int) ∧ j ≤ m ∧ OwnM wr W4.heap.size 5 v16 ((repL A d j).map (Value.int .u8)) ∧ Below W4.heap.size W4 wr) (fun _ v _ => m - (intOf v).toNat)
      case atStart => exact ⟨0, rfl, by omega, HO7.out, hB6⟩
      case round =>
        clear HO7 hB6 hs6 r2
        obtain ⟨j, rfl, hj, hown, hbw⟩ := hrel
        have hws := hbw.size
        have HO := Lib.hid hown
        obtain ⟨g, cap, rfl, hg1, hg2, hcp⟩ := hown.slice
        have hRl := repL_len A d j
        have hml : ((repL A d j).map (Value.int .u8)).length = A.length + j := by rw [List.length_map, hRl]
        have hc := fun jj u hu => OwnM.cell hown jj u hu
        obtain ⟨L, hL⟩ : ∃ L, A.length + j = L := ⟨_, rfl⟩
        rw [hL] at hml hRl
        rw [hml] at hcp HO ⊢
        have c2 := (hbw.cell (p := ⟨b1, o1 + k * 3 + 1, none⟩) hb5).trans C2.out
        have c4 := (hbw.cell (p := ⟨b2, o2 + k, none⟩) hb6).trans C4.out
        clear hown
        by_cases hjm : j < m
        · obtain ⟨n, hn⟩ : ∃ n : Nat, L = n + d := ⟨L - d, by omega⟩
          have hgt : (repL A d (j + 1)).map (Value.int .u8) = (repL A d j).map (Value.int .u8) ++ [.int .u8 ((repL A d j).getD n 0)] := by
            rw [repL, hRl, hn, show n + d - d = n by omega, List.map_append]; rfl
          have hcell : wr.cell? ⟨g, n, none⟩ = some (.int .u8 ((repL A d j).getD n 0)) := by
            refine hc n _ ?_
            rw [List.getElem?_map, List.getElem?_eq_getElem (by omega), List.getD_eq_getElem?_getD, List.getElem?_eq_getElem (by omega)]
            rfl
          have HGT := Lib.hid hgt
          generalize (repL A d j).getD n 0 = y at HGT hcell
          have a2 : (n : Int) < (L : Int) := by omega
          have a1 : IntKind.i64.wrap ((L : Int) - (d : Int)) = (n : Int) := by rw [IntWalk.i64_in _ (by omega)]; omega
          go_wp2_with (at_builtin; refine wpList_append_oneM _ rfl _ _ 36 rfl W4.heap.size 5 i1 Tryd.underlying36 hi1 hz0 hz1 hz2 _ _ rfl (HO.out.later ((Below.refl _ _).alloc (Nat.le_refl _) _)) ⟨wr.heap.size, 0, none⟩ 1 y rfl (by simp [go_sem]) rfl (by unfold maxLen; rw [hml]; omega) (by rw [hml]; omega) (by simp; omega) ?_; intro V2 w7 hO8 hg8)
          have hB8 := (hbw.alloc hws (.cells #[.int .u8 y] 5)).grown hg8 (by simp; omega) HO.out.base
          go_roundw
          case rel => exact ⟨j + 1, by go_num, by omega, by rw [HGT.out]; exact hO8, hB8⟩
          case measure => go_light; simp [intOf] <;> omega
        · obtain rfl : j = m := by omega
          have hjm2 : ¬ (j : Int) < (j : Int) := by omega
          go_wp2
          go_roundw
          case rel =>
            refine ⟨k + 1, _, by omega, by go_num, rfl, Lib.hid ?_, ?_, hbw⟩
            · rw [HNX.out]
              dsimp only
              first | exact HLB.out | (rw [← hLS]; exact HLB.out)
            · rw [HNX.out]
              exact HO.out
          case measure => go_light; simp [intOf] <;> omega
    · obtain rfl : k = qs.length := by omega
      obtain ⟨O, hO⟩ : ∃ O, eOut (bI lits) qs DS (bI before) qs.length = O := ⟨_, rfl⟩
      rw [hO] at hLS u1 u2 u3 HLT hown
      have HOO := Lib.hid hO
      clear hO
      have hol : (O.1.map (Value.int .u8)).length = O.1.length := List.length_map _
      have HO := Lib.hid hown
      have hstr : Lib.strCells lt = (bI lt).map (Value.int .u8) := strCells_bI lt
      have HST := Lib.hid hstr
      have jj : ¬ (qs.length : Int) < (qs.length : Int) := by omega
      clear hown hstr
      go_wp2_with (at_builtin; refine wpList_append_strM _ rfl _ _ 36 9 rfl W4.heap.size 5 i1 Tryd.underlying36 Tryd.underlying9 hi1 hz0 hz1 hz2 _ _ rfl HO.out lt rfl (by unfold maxLen; rw [hol]; omega) (by rw [hol]; omega) hws ?_; intro V1 w6 hO6 hg6; have hB6 := hbw.grown hg6 hws HO.out.base; have hs6 := hB6.size)
      have hO7 : OwnM w6 W4.heap.size 5 V1 ((O.1 ++ bI lt).map (Value.int .u8)) := by
        rw [List.map_append, ← HST.out]
        exact hO6
      obtain ⟨g, cap, rfl, hg1, hg2, hcp⟩ := hO7.slice
      have hml : ((O.1 ++ bI lt).map (Value.int .u8)).length = O.1.length + lt.size := by rw [List.length_map, List.length_append, bI_len]
      obtain ⟨L, hL⟩ : ∃ L, O.1.length + lt.size = L := ⟨_, rfl⟩
      rw [hL] at hml
      rw [hml] at hcp ⊢
      have hcB : ∀ i, i < L - before.size → w6.cell? ⟨g, before.size + i, none⟩ = some (.int .u8 (((O.1 ++ bI lt).drop before.size).getD i 0)) := by
        intro i hi
        refine OwnM.cell hO7 _ _ ?_
        rw [List.getElem?_map, List.getElem?_eq_getElem (by rw [List.length_append, bI_len]; omega), List.getD_eq_getElem?_getD, List.getElem?_drop, List.getElem?_eq_getElem (by rw [List.length_append, bI_len]; omega)]
        rfl
      obtain ⟨Ad, hsl, hcv1, hcv2⟩ : ∃ Ad : Option Addr, (∀ W, (Instr.slice 36 (.slice (some ⟨g, 0, none⟩) L cap) (some (.int .i64 (before.size : Int))) none none).run Tryd.prog W = .ok (.slice Ad (L - before.size) (cap - before.size)) W) ∧
          (convert 36 9 (.slice Ad (L - before.size) (cap - before.size))).run Tryd.prog w6 = .ok (.string (strOfNums ((O.1 ++ bI lt).drop before.size))) w6 ∧ (convert 36 9 (.slice Ad (L - before.size) (cap - before.size))).run Tryd.prog w6.drew = .ok (.string (strOfNums ((O.1 ++ bI lt).drop before.size))) w6.drew := by
        have hdl : ((O.1 ++ bI lt).drop before.size).length = L - before.size := by rw [List.length_drop, List.length_append, bI_len]; omega
        refine ⟨_, fun W => sl_fromB W _ _ _ _ (by omega), ?_, ?_⟩
        all_goals
          by_cases hcm : cap = before.size
          · rw [if_pos hcm]
            refine run_convert_bytes_arg (P := Tryd.prog) _ 36 5 Tryd.underlying36 Tryd.underlying5 g 0 _ _ _ hdl (fun i hi => by omega) 9 Tryd.underlying9
          · rw [if_neg hcm]
            show (convert 36 9 (.slice (some ((⟨g, 0, none⟩ : Addr).add (before.size * 1))) (L - before.size) (cap - before.size))).run Tryd.prog _ = _
            rw [show (⟨g, 0, none⟩ : Addr).add (before.size * 1) = ⟨g, 0 + before.size * 1, none⟩ from by unfold Addr.add; split <;> simp_all]
            refine run_convert_bytes_arg (P := Tryd.prog) _ 36 5 Tryd.underlying36 Tryd.underlying5 g (0 + before.size * 1) _ _ _ hdl (fun i hi => ?_) 9 Tryd.underlying9
            rw [show 0 + before.size * 1 + i = before.size + i by omega]
            exact hcB i hi
      have hres : strOfNums ((O.1 ++ bI lt).drop before.size) = strOfNums ((O.1 ++ (bI lits).drop O.2).drop before.size) := by rw [HLT.out]
      obtain ⟨S, hS⟩ : ∃ S, strOfNums ((O.1 ++ bI lt).drop before.size) = S := ⟨_, rfl⟩
      rw [hS] at hcv1 hcv2 hres
      have HRES := Lib.hid hres
      clear hS
      have hN6 := HN.out.later hB6
      have hX6 := HX.out.later hB6
      have n0 : w6.cell? ⟨bN, 0, none⟩ = some (.int .i64 0) := hN6.cell 0; have f0 : w6.frozen? ⟨bN, 0, none⟩ = false := hN6.frozen 0; have y0 : w6.cell? ⟨bX, 0, none⟩ = some (.int .i64 x') := hX6.cell 0; have n1 : w6.cell? ⟨bN, 1, none⟩ = some (.int .i64 0) := hN6.cell 1; have f1 : w6.frozen? ⟨bN, 1, none⟩ = false := hN6.frozen 1; have y1 : w6.cell? ⟨bX, 1, none⟩ = some (.int .i64 y') := hX6.cell 1; have n2 : w6.cell? ⟨bN, 2, none⟩ = some (.int .i64 0) := hN6.cell 2; have f2 : w6.frozen? ⟨bN, 2, none⟩ = false := hN6.frozen 2; have y2 : w6.cell? ⟨bX, 2, none⟩ = some (.int .i64 z') := hX6.cell 2
      have m1 : ¬ bX = bN := by omega
      have m2 : ¬ bN = bX := by omega
      clear hcB hres hO6 hO7 hg6
      apply wp_det
      case det =>
        go_region
        all_goals exact ⟨rfl, rfl⟩
      case go =>
        go_wp2
        refine bodyPost_ret (v := .tuple #[.string S, .agg #[.int .i64 x', .int .i64 y', .int .i64 z'], .int .i64 0]) (by simp [results, Tryd.results18, go_sem, *]) rfl ⟨by rw [HOO.out, HRES.out], ?_⟩
        repeat' (first | with_reducible exact Below.refl _ _ | with_reducible refine Below.drew ?_ | with_reducible refine below_drewN ?_ _ | with_reducible refine Below.alloc ?_ (by first | omega | (simp <;> omega)) _ | with_reducible refine Below.setCell ?_ (by first | omega | (dsimp only; omega) | (simp <;> omega)) _ | with_reducible refine Below.trans ?_ (Below.mono (by assumption) (by first | omega | (simp <;> omega))))

theorem rexec_p (pq : Option Addr) (qs : List (Int × Int × Int)) (cq : Nat) (lits before : ByteArray) (a b c win : Int) (w : World) (hq : RowQ w pq qs) (hm : qs.length ≤ 9223372036854775807) (hl : lits.size ≤ 9223372036854775807) (hbf : before.size ≤ 9223372036854775807) :
    Calls Tryd.prog 18 #[.slice pq qs.length cq, .string lits, .string before, .agg #[.int .i64 a, .int .i64 b, .int .i64 c], .int .i64 win] w fun e w' => e = .returned (.tuple #[.string (Rexec qs lits before a b c win).1, .agg #[.int .i64 (Rexec qs lits before a b c win).2.1.1, .int .i64 (Rexec qs lits before a b c win).2.1.2.1, .int .i64 (Rexec qs lits before a b c win).2.1.2.2], .int .i64 (Rexec qs lits before a b c win).2.2]) ∧ Below w.heap.size w w' := by
  by_cases h1 : schk qs = 0
  · by_cases h2 : chkL true [a, b, c] = 0
    · by_cases h3 : win < 0
      · have hR : Rexec qs lits before a b c win = (⟨#[]⟩, (0, 0, 0), 2) := by unfold Rexec; rw [if_neg (by simpa using h1), if_neg (by simpa using h2), if_pos h3]
        rw [hR]
        exact rexec_e3 pq qs cq lits before a b c win w hq hm hl hbf h1 h2 h3
      · by_cases h4 : 131072 < lits.size ∨ 1048576 < before.size
        · have hR : Rexec qs lits before a b c win = (⟨#[]⟩, (0, 0, 0), 4) := by unfold Rexec; rw [if_neg (by simpa using h1), if_neg (by simpa using h2), if_neg h3, if_pos h4]
          rw [hR]
          by_cases h5 : 131072 < lits.size
          · exact rexec_e4 pq qs cq lits before a b c win w hq hm hl hbf h1 h2 h3 (by simp; omega)
          · exact rexec_e5 pq qs cq lits before a b c win w hq hm hl hbf h1 h2 h3 (by simp; omega) (by simp; omega)
        · have g1 : decide ((131072 : Int) < (lits.size : Int)) = false := by simp; omega
          have g2 : decide ((1048576 : Int) < (before.size : Int)) = false := by simp; omega
          by_cases h6 : eAll win qs lits.size before.size (a, b, c) = 0
          · exact rexec_1 pq qs cq lits before a b c win w hq hm hl hbf h1 h2 h3 g1 g2 h6
          · rw [rexec_e h1 h2 (by omega) (by omega) (by omega) h6]
            exact rexec_e6 pq qs cq lits before a b c win w hq hm hl hbf h1 h2 h3 g1 g2 h6
    · have hR : Rexec qs lits before a b c win = (⟨#[]⟩, (0, 0, 0), chkL true [a, b, c]) := by unfold Rexec; rw [if_neg (by simpa using h1), if_pos h2]
      rw [hR]
      exact rexec_e2 pq qs cq lits before a b c win w hq hm hl hbf h1 h2
  · have hR : Rexec qs lits before a b c win = (⟨#[]⟩, (0, 0, 0), schk qs) := by unfold Rexec; rw [if_pos h1]
    rw [hR]
    exact rexec_e1 pq qs cq lits before a b c win w hq hm hl hbf h1
end Go.Proofs.YtmblpmaelglnpaaDoor
