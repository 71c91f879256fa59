/-
  The program's Execute, walked.
-/
import Derived.Test.YtmblpmaelglnpaaDoorRows
import Derived.Test.YtmblpmaelglnpaaDoorSeqPD
import Derived.Test.YtmblpmaelglnpaaDoorSeqOut
import Derived.Test.YtmblpmaelglnpaaDoorSeqExec
import Derived.Test.YtmblpmaelglnpaaDoorGBase
import Derived.Deep.Light
import Derived.Shelf.Abstract
import Derived.Shelf.RegionOpen
import Derived.OwnWalkIn
import Derived.TacticsInMore
import Derived.LoopNIn
import Derived.LoopIn
import Derived.Maps.OwnIn
import Derived.Outline
import Derived.IntWalk
import Derived.WalkMore
namespace Go.Proofs.YtmblpmaelglnpaaDoor
open Go.RowKit
set_option linter.unusedSimpArgs false
set_option linter.unusedVariables false
open Go.Shelf
attribute [local go_sem] Oper.semAt_some
set_option maxRecDepth 100000 in
set_option maxHeartbeats 4000000 in
theorem pexec_e1 (pq : Option Addr) (qs : List (Int × Int × Int)) (cq : Nat) (lits before : ByteArray) (a b c win : Int) (w : World) (hq : RowQ w pq qs) (hm : qs.length ≤ 9223372036854775807) (hl : lits.size ≤ 9223372036854775807) (hbf : before.size ≤ 9223372036854775807) (h1 : schk qs ≠ 0) :
    Calls Tryd.prog 17 #[.slice pq qs.length cq, .string lits, .string before, .agg #[.int .i64 a, .int .i64 b, .int .i64 c], .int .i64 win] w fun e w' => e = .returned (.tuple #[.string ⟨#[]⟩, .agg #[.int .i64 0, .int .i64 0, .int .i64 0], .int .i64 (schk qs)]) ∧ Below w.heap.size w w' := by
  have qC := fun w h => scheck_p pq qs cq w h hm
  generalize schk qs = E at qC h1 ⊢
  have e1 : (E == 0) = false := by simpa using h1
  have e2 : (E != 0) = true := by simpa using h1
  clear h1
  go_enter Tryd.func17, Tryd.ntmps17
  go_wp2_with ((go_at_call 27; refine (qC _ (hq.later (by repeat' (first | with_reducible exact Below.refl _ _ | with_reducible refine Below.drew ?_ | with_reducible refine below_drewN ?_ _ | with_reducible refine Below.alloc ?_ (by first | omega | (simp <;> omega)) _ | with_reducible refine Below.setCell ?_ (by first | omega | (dsimp only; omega) | (simp <;> omega)) _ | with_reducible refine Below.trans ?_ (Below.mono (by assumption) (by first | omega | (simp <;> omega))))))).mono ?_; rintro en w1 ⟨rfl, hb⟩; have hsz := hb.size; (try simp at hsz); (first | (have hbl := blater2 HA (by first | exact Nat.le_refl _ | (simp; done) | (simp; omega)) hb; obtain ⟨hcc, hff, HA, hne, hne'⟩ := hbl) | (obtain ⟨hcc, hff, HA, hne, hne'⟩ := blater1 hb)); (try simp only [World.size_alloc, World.size_setCell] at HA)))
  apply wp_det
  case det =>
    go_region
    all_goals exact ⟨rfl, rfl⟩
  case go =>
    go_wp2
    go_light
    refine bodyPost_ret (v := .tuple #[.string ⟨#[]⟩, .agg #[.int .i64 0, .int .i64 0, .int .i64 0], .int .i64 (E)]) (by simp [results, Tryd.results17, go_sem, *]) rfl ⟨rfl, ?_⟩
    repeat' (first | with_reducible exact Below.refl _ _ | with_reducible refine Below.drew ?_ | with_reducible refine below_drewN ?_ _ | with_reducible refine Below.alloc ?_ (by first | omega | (simp <;> omega)) _ | with_reducible refine Below.setCell ?_ (by first | omega | (dsimp only; omega) | (simp <;> omega)) _ | with_reducible refine Below.trans ?_ (Below.mono (by assumption) (by first | omega | (simp <;> omega))))
set_option maxRecDepth 100000 in
set_option maxHeartbeats 4000000 in
theorem pexec_e2 (pq : Option Addr) (qs : List (Int × Int × Int)) (cq : Nat) (lits before : ByteArray) (a b c win : Int) (w : World) (hq : RowQ w pq qs) (hm : qs.length ≤ 9223372036854775807) (hl : lits.size ≤ 9223372036854775807) (hbf : before.size ≤ 9223372036854775807) (h1 : schk qs = 0) (h2 : chkL true [a, b, c] ≠ 0) :
    Calls Tryd.prog 17 #[.slice pq qs.length cq, .string lits, .string before, .agg #[.int .i64 a, .int .i64 b, .int .i64 c], .int .i64 win] w fun e w' => e = .returned (.tuple #[.string ⟨#[]⟩, .agg #[.int .i64 0, .int .i64 0, .int .i64 0], .int .i64 (chkL true [a, b, c])]) ∧ Below w.heap.size w w' := by
  have qC := fun w h => scheck_p pq qs cq w h hm
  have qR := fun w => check_p a b c w
  rw [h1] at qC
  generalize chkL true [a, b, c] = E at qR h2 ⊢
  have e1 : (E == 0) = false := by simpa using h2
  have e2 : (E != 0) = true := by simpa using h2
  clear h1 h2
  go_enter Tryd.func17, Tryd.ntmps17
  go_wp2_with (first | (go_at_call 27; refine (qC _ (hq.later (by repeat' (first | with_reducible exact Below.refl _ _ | with_reducible refine Below.drew ?_ | with_reducible refine below_drewN ?_ _ | with_reducible refine Below.alloc ?_ (by first | omega | (simp <;> omega)) _ | with_reducible refine Below.setCell ?_ (by first | omega | (dsimp only; omega) | (simp <;> omega)) _ | with_reducible refine Below.trans ?_ (Below.mono (by assumption) (by first | omega | (simp <;> omega))))))).mono ?_; rintro en w1 ⟨rfl, hb⟩; have hsz := hb.size; (try simp at hsz); (first | (have hbl := blater2 HA (by first | exact Nat.le_refl _ | (simp; done) | (simp; omega)) hb; obtain ⟨hcc, hff, HA, hne, hne'⟩ := hbl) | (obtain ⟨hcc, hff, HA, hne, hne'⟩ := blater1 hb)); (try simp only [World.size_alloc, World.size_setCell] at HA)) | (go_at_call 59; refine (qR _).mono ?_; rintro en w2 ⟨rfl, hb2_1⟩; have hsz := hb2_1.size; (try simp at hsz); (first | (have hbl := blater2 HA (by first | exact Nat.le_refl _ | (simp; done) | (simp; omega)) hb2_1; obtain ⟨hcc, hff, HA, hne, hne'⟩ := hbl) | (obtain ⟨hcc, hff, HA, hne, hne'⟩ := blater1 hb2_1)); (try simp only [World.size_alloc, World.size_setCell] at HA)))
  apply wp_det
  case det =>
    go_region
    all_goals exact ⟨rfl, rfl⟩
  case go =>
    go_wp2
    go_light
    refine bodyPost_ret (v := .tuple #[.string ⟨#[]⟩, .agg #[.int .i64 0, .int .i64 0, .int .i64 0], .int .i64 (E)]) (by simp [results, Tryd.results17, go_sem, *]) rfl ⟨rfl, ?_⟩
    repeat' (first | with_reducible exact Below.refl _ _ | with_reducible refine Below.drew ?_ | with_reducible refine below_drewN ?_ _ | with_reducible refine Below.alloc ?_ (by first | omega | (simp <;> omega)) _ | with_reducible refine Below.setCell ?_ (by first | omega | (dsimp only; omega) | (simp <;> omega)) _ | with_reducible refine Below.trans ?_ (Below.mono (by assumption) (by first | omega | (simp <;> omega))))
set_option maxRecDepth 100000 in
set_option maxHeartbeats 4000000 in
theorem pexec_e3 (pq : Option Addr) (qs : List (Int × Int × Int)) (cq : Nat) (lits before : ByteArray) (a b c win : Int) (w : World) (hq : RowQ w pq qs) (hm : qs.length ≤ 9223372036854775807) (hl : lits.size ≤ 9223372036854775807) (hbf : before.size ≤ 9223372036854775807) (h1 : schk qs = 0) (h2 : chkL true [a, b, c] = 0) (h3 : win < 0) :
    Calls Tryd.prog 17 #[.slice pq qs.length cq, .string lits, .string before, .agg #[.int .i64 a, .int .i64 b, .int .i64 c], .int .i64 win] w fun e w' => e = .returned (.tuple #[.string ⟨#[]⟩, .agg #[.int .i64 0, .int .i64 0, .int .i64 0], .int .i64 (2)]) ∧ Below w.heap.size w w' := by
  have qC := fun w h => scheck_p pq qs cq w h hm
  have qR := fun w => check_p a b c w
  rw [h1] at qC
  rw [h2] at qR
  clear h1 h2
  go_enter Tryd.func17, Tryd.ntmps17
  go_wp2_with (first | (go_at_call 27; refine (qC _ (hq.later (by repeat' (first | with_reducible exact Below.refl _ _ | with_reducible refine Below.drew ?_ | with_reducible refine below_drewN ?_ _ | with_reducible refine Below.alloc ?_ (by first | omega | (simp <;> omega)) _ | with_reducible refine Below.setCell ?_ (by first | omega | (dsimp only; omega) | (simp <;> omega)) _ | with_reducible refine Below.trans ?_ (Below.mono (by assumption) (by first | omega | (simp <;> omega))))))).mono ?_; rintro en w1 ⟨rfl, hb⟩; have hsz := hb.size; (try simp at hsz); (first | (have hbl := blater2 HA (by first | exact Nat.le_refl _ | (simp; done) | (simp; omega)) hb; obtain ⟨hcc, hff, HA, hne, hne'⟩ := hbl) | (obtain ⟨hcc, hff, HA, hne, hne'⟩ := blater1 hb)); (try simp only [World.size_alloc, World.size_setCell] at HA)) | (go_at_call 59; refine (qR _).mono ?_; rintro en w2 ⟨rfl, hb2_1⟩; have hsz := hb2_1.size; (try simp at hsz); (first | (have hbl := blater2 HA (by first | exact Nat.le_refl _ | (simp; done) | (simp; omega)) hb2_1; obtain ⟨hcc, hff, HA, hne, hne'⟩ := hbl) | (obtain ⟨hcc, hff, HA, hne, hne'⟩ := blater1 hb2_1)); (try simp only [World.size_alloc, World.size_setCell] at HA)))
  apply wp_det
  case det =>
    go_region
    all_goals exact ⟨rfl, rfl⟩
  case go =>
    go_wp2
    go_light
    refine bodyPost_ret (v := .tuple #[.string ⟨#[]⟩, .agg #[.int .i64 0, .int .i64 0, .int .i64 0], .int .i64 (2)]) (by simp [results, Tryd.results17, go_sem, *]) rfl ⟨rfl, ?_⟩
    repeat' (first | with_reducible exact Below.refl _ _ | with_reducible refine Below.drew ?_ | with_reducible refine below_drewN ?_ _ | with_reducible refine Below.alloc ?_ (by first | omega | (simp <;> omega)) _ | with_reducible refine Below.setCell ?_ (by first | omega | (dsimp only; omega) | (simp <;> omega)) _ | with_reducible refine Below.trans ?_ (Below.mono (by assumption) (by first | omega | (simp <;> omega))))
set_option maxRecDepth 100000 in
set_option maxHeartbeats 4000000 in
theorem pexec_e4 (pq : Option Addr) (qs : List (Int × Int × Int)) (cq : Nat) (lits before : ByteArray) (a b c win : Int) (w : World) (hq : RowQ w pq qs) (hm : qs.length ≤ 9223372036854775807) (hl : lits.size ≤ 9223372036854775807) (hbf : before.size ≤ 9223372036854775807) (h1 : schk qs = 0) (h2 : chkL true [a, b, c] = 0) (h3 : ¬ win < 0) (e1 : decide ((131072 : Int) < (lits.size : Int)) = true) :
    Calls Tryd.prog 17 #[.slice pq qs.length cq, .string lits, .string before, .agg #[.int .i64 a, .int .i64 b, .int .i64 c], .int .i64 win] w fun e w' => e = .returned (.tuple #[.string ⟨#[]⟩, .agg #[.int .i64 0, .int .i64 0, .int .i64 0], .int .i64 (4)]) ∧ Below w.heap.size w w' := by
  have qC := fun w h => scheck_p pq qs cq w h hm
  have qR := fun w => check_p a b c w
  rw [h1] at qC
  rw [h2] at qR
  clear h1 h2
  go_enter Tryd.func17, Tryd.ntmps17
  go_wp2_with (first | (go_at_call 27; refine (qC _ (hq.later (by repeat' (first | with_reducible exact Below.refl _ _ | with_reducible refine Below.drew ?_ | with_reducible refine below_drewN ?_ _ | with_reducible refine Below.alloc ?_ (by first | omega | (simp <;> omega)) _ | with_reducible refine Below.setCell ?_ (by first | omega | (dsimp only; omega) | (simp <;> omega)) _ | with_reducible refine Below.trans ?_ (Below.mono (by assumption) (by first | omega | (simp <;> omega))))))).mono ?_; rintro en w1 ⟨rfl, hb⟩; have hsz := hb.size; (try simp at hsz); (first | (have hbl := blater2 HA (by first | exact Nat.le_refl _ | (simp; done) | (simp; omega)) hb; obtain ⟨hcc, hff, HA, hne, hne'⟩ := hbl) | (obtain ⟨hcc, hff, HA, hne, hne'⟩ := blater1 hb)); (try simp only [World.size_alloc, World.size_setCell] at HA)) | (go_at_call 59; refine (qR _).mono ?_; rintro en w2 ⟨rfl, hb2_1⟩; have hsz := hb2_1.size; (try simp at hsz); (first | (have hbl := blater2 HA (by first | exact Nat.le_refl _ | (simp; done) | (simp; omega)) hb2_1; obtain ⟨hcc, hff, HA, hne, hne'⟩ := hbl) | (obtain ⟨hcc, hff, HA, hne, hne'⟩ := blater1 hb2_1)); (try simp only [World.size_alloc, World.size_setCell] at HA)))
  apply wp_det
  case det =>
    go_region
    all_goals exact ⟨rfl, rfl⟩
  case go =>
    go_wp2
    go_light
    refine bodyPost_ret (v := .tuple #[.string ⟨#[]⟩, .agg #[.int .i64 0, .int .i64 0, .int .i64 0], .int .i64 (4)]) (by simp [results, Tryd.results17, go_sem, *]) rfl ⟨rfl, ?_⟩
    repeat' (first | with_reducible exact Below.refl _ _ | with_reducible refine Below.drew ?_ | with_reducible refine below_drewN ?_ _ | with_reducible refine Below.alloc ?_ (by first | omega | (simp <;> omega)) _ | with_reducible refine Below.setCell ?_ (by first | omega | (dsimp only; omega) | (simp <;> omega)) _ | with_reducible refine Below.trans ?_ (Below.mono (by assumption) (by first | omega | (simp <;> omega))))
set_option maxRecDepth 100000 in
set_option maxHeartbeats 4000000 in
theorem pexec_e5 (pq : Option Addr) (qs : List (Int × Int × Int)) (cq : Nat) (lits before : ByteArray) (a b c win : Int) (w : World) (hq : RowQ w pq qs) (hm : qs.length ≤ 9223372036854775807) (hl : lits.size ≤ 9223372036854775807) (hbf : before.size ≤ 9223372036854775807) (h1 : schk qs = 0) (h2 : chkL true [a, b, c] = 0) (h3 : ¬ win < 0) (e1 : decide ((131072 : Int) < (lits.size : Int)) = false) (e2 : decide ((1048576 : Int) < (before.size : Int)) = true) :
    Calls Tryd.prog 17 #[.slice pq qs.length cq, .string lits, .string before, .agg #[.int .i64 a, .int .i64 b, .int .i64 c], .int .i64 win] w fun e w' => e = .returned (.tuple #[.string ⟨#[]⟩, .agg #[.int .i64 0, .int .i64 0, .int .i64 0], .int .i64 (4)]) ∧ Below w.heap.size w w' := by
  have qC := fun w h => scheck_p pq qs cq w h hm
  have qR := fun w => check_p a b c w
  rw [h1] at qC
  rw [h2] at qR
  clear h1 h2
  go_enter Tryd.func17, Tryd.ntmps17
  go_wp2_with (first | (go_at_call 27; refine (qC _ (hq.later (by repeat' (first | with_reducible exact Below.refl _ _ | with_reducible refine Below.drew ?_ | with_reducible refine below_drewN ?_ _ | with_reducible refine Below.alloc ?_ (by first | omega | (simp <;> omega)) _ | with_reducible refine Below.setCell ?_ (by first | omega | (dsimp only; omega) | (simp <;> omega)) _ | with_reducible refine Below.trans ?_ (Below.mono (by assumption) (by first | omega | (simp <;> omega))))))).mono ?_; rintro en w1 ⟨rfl, hb⟩; have hsz := hb.size; (try simp at hsz); (first | (have hbl := blater2 HA (by first | exact Nat.le_refl _ | (simp; done) | (simp; omega)) hb; obtain ⟨hcc, hff, HA, hne, hne'⟩ := hbl) | (obtain ⟨hcc, hff, HA, hne, hne'⟩ := blater1 hb)); (try simp only [World.size_alloc, World.size_setCell] at HA)) | (go_at_call 59; refine (qR _).mono ?_; rintro en w2 ⟨rfl, hb2_1⟩; have hsz := hb2_1.size; (try simp at hsz); (first | (have hbl := blater2 HA (by first | exact Nat.le_refl _ | (simp; done) | (simp; omega)) hb2_1; obtain ⟨hcc, hff, HA, hne, hne'⟩ := hbl) | (obtain ⟨hcc, hff, HA, hne, hne'⟩ := blater1 hb2_1)); (try simp only [World.size_alloc, World.size_setCell] at HA)))
  apply wp_det
  case det =>
    go_region
    all_goals exact ⟨rfl, rfl⟩
  case go =>
    go_wp2
    go_light
    refine bodyPost_ret (v := .tuple #[.string ⟨#[]⟩, .agg #[.int .i64 0, .int .i64 0, .int .i64 0], .int .i64 (4)]) (by simp [results, Tryd.results17, go_sem, *]) rfl ⟨rfl, ?_⟩
    repeat' (first | with_reducible exact Below.refl _ _ | with_reducible refine Below.drew ?_ | with_reducible refine below_drewN ?_ _ | with_reducible refine Below.alloc ?_ (by first | omega | (simp <;> omega)) _ | with_reducible refine Below.setCell ?_ (by first | omega | (dsimp only; omega) | (simp <;> omega)) _ | with_reducible refine Below.trans ?_ (Below.mono (by assumption) (by first | omega | (simp <;> omega))))

theorem But.trans_own {B : Nat} {V : Value} {X Y Z : World} (h1 : But (fun k => k = B) X Y) (h2 : But (Oth B V) Y Z) (hV : ∀ k, V.ownBlock = some k → X.heap.size ≤ k) : But (fun k => k = B) X Z :=
  ⟨h2.os.trans h1.os, h2.tape.trans h1.tape, h2.output.trans h1.output, Nat.le_trans h1.size h2.size, fun k o hn hk => h2.block k o (fun h => by
    rcases h with h | h
    · exact hn h
    · have := hV k h
      have := (Array.getElem?_eq_some_iff.1 hk).1
      omega) (h1.block k o hn hk)⟩
set_option maxRecDepth 100000 in
set_option maxHeartbeats 8000000 in
theorem pexec_1 (pq : Option Addr) (qs : List (Int × Int × Int)) (cq : Nat) (lits before : ByteArray) (a b c win : Int) (w : World) (hq : RowQ w pq qs) (hm : qs.length ≤ 9223372036854775807) (hl : lits.size ≤ 9223372036854775807) (hbf : before.size ≤ 9223372036854775807) (h1 : schk qs = 0) (h2 : chkL true [a, b, c] = 0) (h3 : ¬ win < 0) (e1 : decide ((131072 : Int) < (lits.size : Int)) = false) (e2 : decide ((1048576 : Int) < (before.size : Int)) = false) (h6 : eAll win qs lits.size before.size (a, b, c) = 0) :
    Calls Tryd.prog 17 #[.slice pq qs.length cq, .string lits, .string before, .agg #[.int .i64 a, .int .i64 b, .int .i64 c], .int .i64 win] w fun e w' => e = .returned (.tuple #[.string (Rexec qs lits before a b c win).1, .agg #[.int .i64 (Rexec qs lits before a b c win).2.1.1, .int .i64 (Rexec qs lits before a b c win).2.1.2.1, .int .i64 (Rexec qs lits before a b c win).2.1.2.2], .int .i64 (Rexec qs lits before a b c win).2.2]) ∧ Below w.heap.size w w' := by
  have hl2 : lits.size ≤ 131072 := by simp at e1; omega
  have hb2 : before.size ≤ 1048576 := by simp at e2; omega
  obtain ⟨hO1, hO2⟩ := eOut_all lits before h1 h6
  rw [rexec_ok h1 h2 (by omega) hl2 hb2 h6]
  dsimp only
  have qC := fun w h => scheck_p pq qs cq w h hm
  have qR := fun w => check_p a b c w
  have qD := fun w h => pdists_p pq qs cq lits.size before.size a b c win w h h1 (by omega) (by simp at e1; omega) (by omega) (by simp at e2; omega)
  unfold PDis at qD
  rw [h1] at qC
  rw [h2] at qR
  rw [h6] at qD
  have hn98 := (schk_get h1).1
  clear h1 h2 h6
  have hDl := eDs_len qs lits.size before.size (a, b, c) qs.length
  generalize eDs qs lits.size before.size (a, b, c) qs.length = DS at hO1 hO2 qD hDl ⊢
  generalize (eS qs lits.size before.size (a, b, c) qs.length).2.2 = XYZ at qD ⊢
  obtain ⟨x', y', z'⟩ := XYZ
  have qD2 : ∀ w, RowQ w pq qs → Calls Tryd.prog 60 #[.slice pq qs.length cq, .int .i64 lits.size, .int .i64 before.size, .agg #[.int .i64 a, .int .i64 b, .int .i64 c], .int .i64 win] w fun e w' => ∃ pd cd, e = .returned (.tuple #[.slice pd DS.length cd, .agg #[.int .i64 x', .int .i64 y', .int .i64 z'], .nilIface]) ∧ Row .i64 w' pd DS ∧ (∀ g, (Value.slice pd DS.length cd).ownBlock = some g → w.heap.size ≤ g) ∧ Below w.heap.size w w' := by
    intro w h
    refine (qD w h).mono ?_
    rintro en w3 ⟨ds, pd, cd, dx, dy, dz, v, rfl, hrd, hnew, hv, hok, hb3⟩
    obtain ⟨rfl, hxyz⟩ := hok rfl
    cases hxyz
    rcases hv with ⟨_, rfl⟩ | ⟨h, _⟩
    · exact ⟨pd, cd, rfl, hrd, hnew, hb3⟩
    · exact absurd rfl h
  clear qD
  go_enter Tryd.func17, Tryd.ntmps17
  go_wp2_with (first | (go_at_call 27; refine (qC _ (hq.later (by repeat' (first | with_reducible exact Below.refl _ _ | with_reducible refine Below.drew ?_ | with_reducible refine below_drewN ?_ _ | with_reducible refine Below.alloc ?_ (by first | omega | (simp <;> omega)) _ | with_reducible refine Below.setCell ?_ (by first | omega | (dsimp only; omega) | (simp <;> omega)) _ | with_reducible refine Below.trans ?_ (Below.mono (by assumption) (by first | omega | (simp <;> omega))))))).mono ?_; rintro en w1 ⟨rfl, hb⟩; have hsz := hb.size; (try simp at hsz); (first | (have hbl := blater2 HA (by first | exact Nat.le_refl _ | (simp; done) | (simp; omega)) hb; obtain ⟨hcc, hff, HA, hne, hne'⟩ := hbl) | (obtain ⟨hcc, hff, HA, hne, hne'⟩ := blater1 hb)); (try simp only [World.size_alloc, World.size_setCell] at HA)) | (go_at_call 59; refine (qR _).mono ?_; rintro en w2 ⟨rfl, hb2_1⟩; have hsz := hb2_1.size; (try simp at hsz); (first | (have hbl := blater2 HA (by first | exact Nat.le_refl _ | (simp; done) | (simp; omega)) hb2_1; obtain ⟨hcc, hff, HA, hne, hne'⟩ := hbl) | (obtain ⟨hcc, hff, HA, hne, hne'⟩ := blater1 hb2_1)); (try simp only [World.size_alloc, World.size_setCell] at HA)) | (go_at_call 60; refine (qD2 _ (hq.later (by repeat' (first | with_reducible exact Below.refl _ _ | with_reducible refine Below.drew ?_ | with_reducible refine below_drewN ?_ _ | with_reducible refine Below.alloc ?_ (by first | omega | (simp <;> omega)) _ | with_reducible refine Below.setCell ?_ (by first | omega | (dsimp only; omega) | (simp <;> omega)) _ | with_reducible refine Below.trans ?_ (Below.mono (by assumption) (by first | omega | (simp <;> omega))))))).mono ?_; rintro en w3 ⟨pd, cd, rfl, hrd, hnew, hb3⟩; have hsz := hb3.size; (try simp at hsz); (first | (have hbl := blater2 HA (by first | exact Nat.le_refl _ | (simp; done) | (simp; omega)) hb3; obtain ⟨hcc, hff, HA, hne, hne'⟩ := hbl) | (obtain ⟨hcc, hff, HA, hne, hne'⟩ := blater1 hb3)); (try simp only [World.size_alloc, World.size_setCell] at HA)))
  have hZ0 : Blk ((w.alloc (.cells #[.int .i64 a, .int .i64 b, .int .i64 c] 24)).alloc (.cells #[.int .i64 0, .int .i64 0, .int .i64 0] 24)) w.heap.size 24 [.int .i64 a, .int .i64 b, .int .i64 c] := (Blk.new w 24 #[.int .i64 a, .int .i64 b, .int .i64 c]).alloc _
  have hN0 : Blk ((w.alloc (.cells #[.int .i64 a, .int .i64 b, .int .i64 c] 24)).alloc (.cells #[.int .i64 0, .int .i64 0, .int .i64 0] 24)) (w.heap.size + 1) 24 [.int .i64 0, .int .i64 0, .int .i64 0] := by simpa using Blk.new (w.alloc (.cells #[.int .i64 a, .int .i64 b, .int .i64 c] 24)) 24 #[.int .i64 0, .int .i64 0, .int .i64 0]
  have hN3 := ((hN0.later hb).later hb2_1).later hb3
  have hZ3 := ((hZ0.later hb).later hb2_1).later hb3
  have hz1 := hb.size
  have hz2 := hb2_1.size
  have hz3 := hb3.size
  simp at hz1
  obtain ⟨W5, hW5⟩ : ∃ W5, (((w3.setCell ⟨w.heap.size, 0, none⟩ (.int .i64 x')).setCell ⟨w.heap.size, 1, none⟩ (.int .i64 y')).setCell ⟨w.heap.size, 2, none⟩ (.int .i64 z')).alloc (.cells #[.pointer none, .slice none 0 0, .string before] 83) = W5 := ⟨_, rfl⟩
  have hbu : But (fun k => k = w.heap.size) w3 (((w3.setCell ⟨w.heap.size, 0, none⟩ (.int .i64 x')).setCell ⟨w.heap.size, 1, none⟩ (.int .i64 y')).setCell ⟨w.heap.size, 2, none⟩ (.int .i64 z')) := but_hist _ _ _ _ _
  have hbu5 : But (fun k => k = w.heap.size) w3 W5 := by rw [← hW5]; exact hbu.trans (But.of_below ((Below.refl _ _).alloc (Nat.le_refl _) _))
  have hS5 : W5.heap.size = w3.heap.size + 1 := by rw [← hW5]; simp
  have hB5 : Blk W5 w.heap.size 24 [.int .i64 x', .int .i64 y', .int .i64 z'] := by rw [← hW5]; exact (((hZ3.set 0 _).set 1 _).set 2 _).alloc _
  have hN5 : Blk W5 (w.heap.size + 1) 24 [.int .i64 0, .int .i64 0, .int .i64 0] := hbu5.block _ _ (by omega) hN3
  have hOB : Blk W5 w3.heap.size 83 [.pointer none, .slice none 0 0, .string before] := by
    rw [← hW5]
    have := Blk.new (((w3.setCell ⟨w.heap.size, 0, none⟩ (.int .i64 x')).setCell ⟨w.heap.size, 1, none⟩ (.int .i64 y')).setCell ⟨w.heap.size, 2, none⟩ (.int .i64 z')) 83 #[.pointer none, .slice none 0 0, .string before]
    simpa using this
  have B5 : Below w.heap.size w W5 := by rw [← hW5]; repeat' (first | with_reducible exact Below.refl _ _ | with_reducible refine Below.drew ?_ | with_reducible refine below_drewN ?_ _ | with_reducible refine Below.alloc ?_ (by first | omega | (simp <;> omega)) _ | with_reducible refine Below.setCell ?_ (by first | omega | (dsimp only; omega) | (simp <;> omega)) _ | with_reducible refine Below.trans ?_ (Below.mono (by assumption) (by first | omega | (simp <;> omega))))
  have hO5 : OSt W5 w3.heap.size W5.heap.size (.slice none 0 0) [] before := ⟨by omega, ⟨_, .inl rfl, hOB⟩, World.ownsRowF_nil _ _ _ _, by simp⟩
  have hQW : ∀ k, k < qs.length → ∃ b1 o1, pq = some ⟨b1, o1, none⟩ ∧ b1 < w.heap.size ∧ W5.cell? ⟨b1, o1 + k * 3, none⟩ = some (.int .i64 (qs.getD k (0, 0, 0)).1) ∧ W5.cell? ⟨b1, o1 + k * 3 + 1, none⟩ = some (.int .i64 (qs.getD k (0, 0, 0)).2.1) ∧ W5.cell? ⟨b1, o1 + k * 3 + 2, none⟩ = some (.int .i64 (qs.getD k (0, 0, 0)).2.2) := by
    intro k hk
    obtain ⟨b1, o1, h1, h2, h3⟩ := hq.at hk
    obtain ⟨g1, g2, g3⟩ := h3 k hk
    exact ⟨b1, o1, h1, h2, (B5.cell (p := ⟨b1, _, none⟩) h2).trans g1, (B5.cell (p := ⟨b1, _, none⟩) h2).trans g2, (B5.cell (p := ⟨b1, _, none⟩) h2).trans g3⟩
  have hDW : ∀ k, k < qs.length → ∃ b2 o2, pd = some ⟨b2, o2, none⟩ ∧ b2 < w3.heap.size ∧ W5.cell? ⟨b2, o2 + k, none⟩ = some (.int .i64 (DS.getD k 0)) := by
    intro k hk
    obtain ⟨b2, o2, h1, h2, h3⟩ := hrd.at (by omega : k < DS.length)
    have h4 := hnew b2 (by rw [h1]; rfl)
    exact ⟨b2, o2, h1, h2, hbu5.cell (fun e => by dsimp only at e; omega) (h3 k (by omega))⟩
  rw [hW5]
  obtain ⟨bH, hbH⟩ : ∃ x, w.heap.size = x := ⟨_, rfl⟩
  obtain ⟨bN, hbN⟩ : ∃ x, bH + 1 = x := ⟨_, rfl⟩
  obtain ⟨B, hB⟩ : ∃ x, w3.heap.size = x := ⟨_, rfl⟩
  rw [hbH] at hB5 hN5 hQW B5 ⊢
  rw [hbN] at hN5 ⊢
  rw [hB] at hO5 hDW hS5 ⊢
  have HBH := Lib.hid hbH
  have hHN : bH < bN := by omega
  have hNB : bN < B := by omega
  have HQ := Lib.hid hQW
  have HD := Lib.hid hDW
  have HB5 := Lib.hid hB5
  have HN5 := Lib.hid hN5
  have HO1 := Lib.hid hO1
  have HO2 := Lib.hid hO2
  clear hZ0 hN0 hN3 hZ3 hz1 hz2 hz3 hW5 hbu hbu5 hOB hQW hDW hB5 hN5 hO1 hO2 hq hrd hnew hb hb2_1 hb3 qC qR qD2 hcc hff HA hne hne' hbH hbN hB hsz
  have B5' : Below w.heap.size w W5 := by rw [HBH.out]; exact B5
  have HH : w.heap.size ≤ bH := by rw [HBH.out]; exact Nat.le_refl _
  go_loopw [1, 66] (fun v1 v66 wr => ∃ (k : Nat) (lt : ByteArray) (V : Value) (bs : List Int), k ≤ qs.length ∧ v66 = .int .i64 (k : Int) ∧ v1 = .string lt ∧ Hid (bI lt = (bI lits).drop (eOut (bI lits) qs DS (bI before) k).2) ∧ Hid ((eOut (bI lits) qs DS (bI before) k).1 = bI before ++ bs) ∧ Hid (∀ x ∈ bs, 0 ≤ x ∧ x ≤ 255) ∧ OSt wr B W5.heap.size V bs before ∧ But (fun k => k = B) W5 wr) (fun _ v _ => qs.length - (intOf v).toNat)
  case atStart => exact ⟨0, lits, _, [], by omega, rfl, rfl, Lib.hid rfl, Lib.hid (by simp [eOut]), Lib.hid (fun x h => by cases h), hO5, But.of_below (Below.refl _ _)⟩
  case round =>
    clear hO5
    obtain ⟨k, lt, V, bs, hk, rfl, rfl, HLT, HE, HR, hO, hbu⟩ := hrel
    have hws := hbu.size
    have HO := Lib.hid hO
    have HBU := Lib.hid hbu
    obtain ⟨u1, u2, u3⟩ := HO1.out k hk
    have hLS : lt.size = lits.size - (eOut (bI lits) qs DS (bI before) k).2 := by
      have := congrArg List.length HLT.out
      rw [List.length_drop, bI_len, bI_len] at this
      exact this
    have hbl : (eOut (bI lits) qs DS (bI before) k).1.length = before.size + bs.length := by rw [HE.out, List.length_append, bI_len]
    obtain ⟨oc1, oc2, olt⟩ := hO.cells
    have ownV : ∀ g, V.ownBlock = some g → W5.heap.size ≤ g ∧ g < wr.heap.size := fun g hg => hO.2.2.1.lt g hg
    have OWNV := Lib.hid ownV
    clear hO hbu ownV
    by_cases hlt : k < qs.length
    · obtain ⟨b1, o1, rfl, hb5, c1, c2, c3⟩ := HQ.out k hlt
      obtain ⟨b2, o2, rfl, hb6, c4⟩ := HD.out k hlt
      obtain ⟨x, m, d, v, g1, g2, g3, g4, g5, g6, g7, g8⟩ := HO2.out k hlt
      have hNx : eOut (bI lits) qs DS (bI before) (k + 1) = (repL ((eOut (bI lits) qs DS (bI before) k).1 ++ ((bI lits).drop (eOut (bI lits) qs DS (bI before) k).2).take x) d m, (eOut (bI lits) qs DS (bI before) k).2 + x) := by
        rw [eOut, g1, g2]
        simp only [Int.toNat_natCast]
      obtain ⟨v1, v2, v3⟩ := HO1.out (k + 1) (by omega)
      rw [hNx] at v2
      simp only [repL_len, List.length_append, List.length_take, List.length_drop, bI_len] at v2
      rw [g1] at c1 c2 c3
      rw [g2] at c4
      dsimp only at c1 c2 c3
      rw [← HLT.out, HE.out] at hNx
      generalize eOut (bI lits) qs DS (bI before) k = O at hNx hLS u1 u2 u3 v2 g4 g5 HLT HE hbl
      have HNX := Lib.hid hNx
      have nB1 : b1 ≠ B := by omega
      have nB2 : b2 ≠ B := by omega
      have C4 := Lib.hid c4
      replace c1 : wr.cell? ⟨b1, o1 + k * 3, none⟩ = some (.int .i64 (x : Int)) := HBU.out.cell nB1 c1
      replace c2 : wr.cell? ⟨b1, o1 + k * 3 + 1, none⟩ = some (.int .i64 (m : Int)) := HBU.out.cell nB1 c2
      replace c3 : wr.cell? ⟨b1, o1 + k * 3 + 2, none⟩ = some (.int .i64 v) := HBU.out.cell nB1 c3
      have hex : (lt.extract 0 x).size = x := by rw [ByteArray.size_extract]; omega
      have hbe : bI (lt.extract 0 x) = (bI lt).take x := by rw [bI_extract, List.drop_zero, Nat.sub_zero]
      have HBE := Lib.hid hbe
      have hlb : bI (lt.extract x lt.size) = (bI lits).drop (O.2 + x) := by
        rw [bI_extract, HLT.out, List.drop_drop, List.take_of_length_le (by rw [List.length_drop, bI_len]; omega)]
      have HLB := Lib.hid hlb
      have hlx : (lt.extract x lt.size).size = lt.size - x := by rw [ByteArray.size_extract]; omega
      have i0 : (0 : Int) ≤ (k : Int) := by omega
      have i1' : (k : Int) < (qs.length : Int) := by omega
      have j1 : (x : Int) ≤ (lt.size : Int) := by omega
      have j2 : x ≤ lt.size := by omega
      have rb : ∀ y ∈ bs ++ (bI lt).take x, 0 ≤ y ∧ y ≤ 255 := fun y hy => by
        rcases List.mem_append.1 hy with h | h
        · exact HR.out y h
        · exact bI_rng lt y (List.mem_of_mem_take h)
      have RB := Lib.hid rb
      have hOA : OSt (wr.alloc (.cells #[.int .i64 (x : Int), .int .i64 (m : Int), .int .i64 v] 35)) B W5.heap.size V bs before := HO.out.later ((Below.refl _ _).alloc (Nat.le_refl _) _)
      have HOA := Lib.hid hOA
      have qW := fun w h hb => ws_p w B W5.heap.size V bs before (lt.extract 0 x) h hb (by rw [hex]; omega)
      clear g1 g2 hNx hbe hlb rb hOA c4 oc1 oc2
      go_wp2
      go_cut [78] (fun s78 wx => ∃ V1, OSt wx B W5.heap.size V1 (bs ++ (bI lt).take x) before ∧ But (Oth B V) (wr.alloc (.cells #[.int .i64 (x : Int), .int .i64 (m : Int), .int .i64 v] 35)) wx)
      case first =>
        go_region_with (go_at_call 62; refine (qW _ (by first | exact HOA.out | exact HOA.out.later (Below.refl _ _).drew) (by first | (simp; done) | (simp; omega))).mono ?_; rintro en wB ⟨V1, rfl, hO6, hb6⟩)
        all_goals (go_wp2_with fail; go_meet; go_light)
        all_goals
          rw [HBE.out] at hO6
          exact ⟨V1, hO6, by first | exact hb6 | exact (But.of_below (Below.refl _ _).drew).trans hb6⟩
      case rest =>
        obtain ⟨V1, hO6, hb6⟩ := hcut
        have hbA : But (fun k => k = B) W5 wc := But.trans_own (HBU.out.trans (But.of_below ((Below.refl _ _).alloc (Nat.le_refl _) _))) hb6 (fun g hg => (OWNV.out g hg).1)
        have nA : ¬ Oth B V wr.heap.size := by
          rintro (h | h)
          · omega
          · have := (OWNV.out _ h).2
            omega
        have x0 : wc.cell? ⟨wr.heap.size, 0, none⟩ = some (.int .i64 (x : Int)) := hb6.cell nA (by simp [go_sem])
        have x1 : wc.cell? ⟨wr.heap.size, 1, none⟩ = some (.int .i64 (m : Int)) := hb6.cell nA (by simp [go_sem])
        have HO6 := Lib.hid hO6
        have HBA := Lib.hid hbA
        clear hO6 hb6 hbA qW c1 c2 c3 HOA HO
        go_wp2
        clear x0 x1
        obtain ⟨wo, hwo⟩ : ∃ wo : World, wo = wr := ⟨_, rfl⟩
        subst hwo
        have hws6 := HBA.out.size
        clear hws
        go_loopw [85] (fun v85 wr => ∃ (j : Nat) (V2 : Value) (bs2 : List Int), v85 = .int .i64 (j : Int) ∧ j ≤ m ∧ OSt wr B W5.heap.size V2 bs2 before ∧ Hid (bI before ++ bs2 = repL (bI before ++ (bs ++ (bI lt).take x)) d j) ∧ Hid (∀ y ∈ bs2, 0 ≤ y ∧ y ≤ 255) ∧ But (fun k => k = B) W5 wr) (fun v _ => m - (intOf v).toNat)
        case atStart => exact ⟨0, V1, _, rfl, by omega, HO6.out, Lib.hid rfl, RB, HBA.out⟩
        case round =>
          clear HO6 HBA hws6
          obtain ⟨j, V2, bs2, rfl, hj, hO, HE2, HR2, hbu⟩ := hrel
          have hws := hbu.size
          have HO := Lib.hid hO
          have HBU2 := Lib.hid hbu
          have hL : before.size + bs2.length = before.size + (bs.length + x) + j := by
            have := congrArg List.length HE2.out
            rw [repL_len, List.length_append, List.length_append, List.length_append, List.length_take, bI_len, bI_len] at this
            omega
          have ownV : ∀ g, V2.ownBlock = some g → W5.heap.size ≤ g := fun g hg => (hO.2.2.1.lt g hg).1
          have OWN2 := Lib.hid ownV
          have c4 : wr.cell? ⟨b2, o2 + k, none⟩ = some (.int .i64 (d : Int)) := hbu.cell nB2 C4.out
          obtain ⟨oc1, oc2, olt⟩ := hO.cells
          clear hO hbu ownV
          by_cases hjm : j < m
          · have hd2 : d ≤ bs2.length + before.size := by omega
            have qA := fun w h => at_p w B W5.heap.size V2 bs2 before d h HR2.out (by omega) g3 hd2
            obtain ⟨y, hy⟩ : ∃ y, (bI before ++ bs2).getD (before.size + bs2.length - d) 0 = y := ⟨_, rfl⟩
            rw [hy] at qA
            have hyr : 0 ≤ y ∧ y ≤ 255 := by
              rw [← hy, List.getD_eq_getElem?_getD, List.getElem?_eq_getElem (by rw [List.length_append, bI_len]; omega)]
              simp only [Option.getD_some]
              rcases List.mem_append.1 (List.getElem_mem (l := bI before ++ bs2) (n := before.size + bs2.length - d) (by rw [List.length_append, bI_len]; omega)) with h | h
              · exact bI_rng before _ h
              · exact HR2.out _ h
            have hnx : bI before ++ (bs2 ++ [y]) = repL (bI before ++ (bs ++ (bI lt).take x)) d (j + 1) := by
              rw [repL, ← HE2.out, ← hy, List.length_append, bI_len, List.append_assoc]
            have hrr : ∀ z ∈ bs2 ++ [y], 0 ≤ z ∧ z ≤ 255 := fun z hz => by
              rcases List.mem_append.1 hz with h | h
              · exact HR2.out z h
              · rw [List.mem_singleton.1 h]; exact hyr
            have HNX2 := Lib.hid hnx
            have HRR := Lib.hid hrr
            have qB := fun w h hb => wb_p w B W5.heap.size V2 bs2 before y h hb (by omega)
            clear hy hnx hrr oc1 oc2
            have jm : (j : Int) < (m : Int) := by omega
            go_wp2
            go_region_with (first | (go_at_call 64; refine (qA _ (by first | exact HO.out | exact HO.out.later (Below.refl _ _).drew)).mono ?_; rintro en wA ⟨rfl, hOa, hba⟩; have hsa := hba.size) | (go_at_call 63; refine (qB _ hOa (by first | omega | (simp at hsa; omega))).mono ?_; rintro en wB ⟨V3, rfl, hOb, hbb⟩))
            all_goals
              have hbz : But (fun k => k = B) W5 wB := But.trans_own (But.trans_own (HBU2.out.trans (But.of_below (Below.refl _ _).drew)) hba OWN2.out) hbb OWN2.out
              clear qA qB
              go_wp2
              go_roundw
              case rel => exact ⟨j + 1, V3, _, by go_num, by omega, hOb, HNX2, HRR, hbz⟩
              case measure => go_light; simp [intOf] <;> omega
          · obtain rfl : j = m := by omega
            have jm : ¬ (j : Int) < (j : Int) := by omega
            go_wp2
            go_roundw
            case rel =>
              refine ⟨k + 1, _, V2, bs2, by omega, by go_num, rfl, Lib.hid ?_, Lib.hid ?_, HR2, HO.out, HBU2.out⟩
              · rw [HNX.out]
                dsimp only
                first | exact HLB.out | (rw [← hLS]; exact HLB.out)
              · rw [HNX.out, HE2.out, List.append_assoc]
            case measure => go_light; simp [intOf] <;> omega
    · obtain rfl : k = qs.length := by omega
      have jj : ¬ (qs.length : Int) < (qs.length : Int) := by omega
      have qW := fun w h hb => ws_p w B W5.heap.size V bs before lt h hb (by omega)
      have hres : strOfNums (bs ++ bI lt) = strOfNums (((eOut (bI lits) qs DS (bI before) qs.length).1 ++ (bI lits).drop (eOut (bI lits) qs DS (bI before) qs.length).2).drop before.size) := by
        rw [HE.out, ← HLT.out, List.append_assoc]
        congr 1
        rw [← bI_len before]
        exact (List.drop_left).symm
      have rb : ∀ y ∈ bs ++ bI lt, 0 ≤ y ∧ y ≤ 255 := fun y hy => by
        rcases List.mem_append.1 hy with h | h
        · exact HR.out y h
        · exact bI_rng lt y h
      have qS := fun w V1 h => str_p w B W5.heap.size V1 (bs ++ bI lt) before h rb (by rw [List.length_append, bI_len]; omega)
      have HRES := Lib.hid hres
      clear hres rb oc1 oc2
      generalize strOfNums (bs ++ bI lt) = S at qS HRES
      go_wp2_with (go_at_call 62; refine (qW _ HO.out hws).mono ?_; rintro en wB ⟨V1, rfl, hO6, hb6⟩; have hbA : But (fun k => k = B) W5 wB := But.trans_own HBU.out hb6 (fun g hg => (OWNV.out g hg).1); have HO6 := Lib.hid hO6; have ownV1 : ∀ g, V1.ownBlock = some g → W5.heap.size ≤ g := (fun g hg => (hO6.2.2.1.lt g hg).1); have hsB := hbA.size; have hB6 := hbA.block _ _ (by omega) HB5.out; have hN6 := hbA.block _ _ (by omega) HN5.out; have HB6 : Blk wB bH 24 [.int .i64 x', .int .i64 y', .int .i64 z'] := hB6; have HN6 : Blk wB bN 24 [.int .i64 0, .int .i64 0, .int .i64 0] := hN6; have y0 : wB.cell? ⟨bH, 0, none⟩ = some (.int .i64 x') := HB6.cell 0; have n0 : wB.cell? ⟨bN, 0, none⟩ = some (.int .i64 0) := HN6.cell 0; have f0 : wB.frozen? ⟨bN, 0, none⟩ = false := HN6.frozen 0; have y1 : wB.cell? ⟨bH, 1, none⟩ = some (.int .i64 y') := HB6.cell 1; have n1 : wB.cell? ⟨bN, 1, none⟩ = some (.int .i64 0) := HN6.cell 1; have f1 : wB.frozen? ⟨bN, 1, none⟩ = false := HN6.frozen 1; have y2 : wB.cell? ⟨bH, 2, none⟩ = some (.int .i64 z') := HB6.cell 2; have n2 : wB.cell? ⟨bN, 2, none⟩ = some (.int .i64 0) := HN6.cell 2; have f2 : wB.frozen? ⟨bN, 2, none⟩ = false := HN6.frozen 2; have lH := HB6.lt; have lN := HN6.lt; have eHN : ¬ bH = bN := (by omega); have eNH : ¬ bN = bH := (by omega); clear hO6 hb6 hB6 hN6)
      go_region_with (go_at_call 65; refine (qS _ V1 (by first | exact HO6.out | exact HO6.out.later (Below.refl _ _).drew)).mono ?_; rintro en wC ⟨rfl, hO7, hb7⟩; have hb7w : But (fun k => k = B) W5 wC := But.trans_own (hbA.trans (But.of_below (Below.refl _ _).drew)) hb7 ownV1; have hB7 := hb7w.block _ _ (by omega) HB5.out; have hN7 := hb7w.block _ _ (by omega) HN5.out; have HB7 : Blk wC bH 24 [.int .i64 x', .int .i64 y', .int .i64 z'] := hB7; have HN7 : Blk wC bN 24 [.int .i64 0, .int .i64 0, .int .i64 0] := hN7; have yy0 : wC.cell? ⟨bH, 0, none⟩ = some (.int .i64 x') := HB7.cell 0; have nn0 : wC.cell? ⟨bN, 0, none⟩ = some (.int .i64 0) := HN7.cell 0; have ff0 : wC.frozen? ⟨bN, 0, none⟩ = false := HN7.frozen 0; have yy1 : wC.cell? ⟨bH, 1, none⟩ = some (.int .i64 y') := HB7.cell 1; have nn1 : wC.cell? ⟨bN, 1, none⟩ = some (.int .i64 0) := HN7.cell 1; have ff1 : wC.frozen? ⟨bN, 1, none⟩ = false := HN7.frozen 1; have yy2 : wC.cell? ⟨bH, 2, none⟩ = some (.int .i64 z') := HB7.cell 2; have nn2 : wC.cell? ⟨bN, 2, none⟩ = some (.int .i64 0) := HN7.cell 2; have ff2 : wC.frozen? ⟨bN, 2, none⟩ = false := HN7.frozen 2; have lH7 := HB7.lt; have lN7 := HN7.lt)
      all_goals
        go_wp2
        refine bodyPost_ret (v := .tuple #[.string S, .agg #[.int .i64 x', .int .i64 y', .int .i64 z'], .int .i64 0]) (by simp [results, Tryd.results17, go_sem, *]) rfl ⟨by rw [HRES.out], ?_⟩
        refine Below.setCell (Below.setCell (Below.setCell ?_ (by dsimp only; omega) _) (by dsimp only; omega) _) (by dsimp only; omega) _
        exact hb7w.below B5' (fun k hk e => by omega) (by omega)
end Go.Proofs.YtmblpmaelglnpaaDoor
