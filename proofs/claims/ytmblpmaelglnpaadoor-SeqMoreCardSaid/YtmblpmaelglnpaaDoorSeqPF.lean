/-
  The program's Execute, whole.
-/
import Derived.Test.YtmblpmaelglnpaaDoorRows
import Derived.Test.YtmblpmaelglnpaaDoorSeqPE
import Derived.Test.YtmblpmaelglnpaaDoorSeqAs
import Derived.Test.YtmblpmaelglnpaaDoorGBase
import Derived.Deep.Light
import Derived.Shelf.Abstract
import Derived.Shelf.RegionOpen
import Derived.OwnWalkIn
import Derived.TacticsInMore
import Derived.LoopNIn
import Derived.LoopIn
import Derived.Outline
import Derived.IntWalk
import Derived.WalkMore
namespace Go.Proofs.YtmblpmaelglnpaaDoor
open Go.RowKit
set_option linter.unusedSimpArgs false
set_option linter.unusedVariables false
open Go.Shelf
attribute [local go_sem] Oper.semAt_some

set_option maxRecDepth 100000 in
set_option maxHeartbeats 8000000 in
theorem pexec_e6 (pq : Option Addr) (qs : List (Int × Int × Int)) (cq : Nat) (lits before : ByteArray) (a b c win : Int) (w : World) (hq : RowQ w pq qs) (hm : qs.length ≤ 9223372036854775807) (hl : lits.size ≤ 9223372036854775807) (hbf : before.size ≤ 9223372036854775807) (h1 : schk qs = 0) (h2 : chkL true [a, b, c] = 0) (h3 : ¬ win < 0) (e1 : decide ((131072 : Int) < (lits.size : Int)) = false) (e2 : decide ((1048576 : Int) < (before.size : Int)) = false) (h6 : eAll win qs lits.size before.size (a, b, c) ≠ 0) (hg : w.cell? ⟨0, 0, none⟩ = some (.iface 165 (.agg #[.pointer (some ⟨9, 74, none⟩)]))) :
    Calls Tryd.prog 17 #[.slice pq qs.length cq, .string lits, .string before, .agg #[.int .i64 a, .int .i64 b, .int .i64 c], .int .i64 win] w fun e w' => e = .returned (.tuple #[.string ⟨#[]⟩, .agg #[.int .i64 0, .int .i64 0, .int .i64 0], .int .i64 (eAll win qs lits.size before.size (a, b, c))]) ∧ Below w.heap.size w w' := by
  have qC := fun w h => scheck_p pq qs cq w h hm
  have qR := fun w => check_p a b c w
  have qD := fun w h => pdists_p pq qs cq lits.size before.size a b c win w h h1 (by omega) (by simp at e1; omega) (by omega) (by simp at e2; omega)
  unfold PDis at qD
  rw [h1] at qC
  rw [h2] at qR
  clear h1 h2
  generalize eAll win qs lits.size before.size (a, b, c) = E at qD h6 ⊢
  have qD2 : ∀ w, RowQ w pq qs → Calls Tryd.prog 60 #[.slice pq qs.length cq, .int .i64 lits.size, .int .i64 before.size, .agg #[.int .i64 a, .int .i64 b, .int .i64 c], .int .i64 win] w fun e w' => ∃ (a : Option Addr) (n ca : Nat) (x y z : Int) (J : Nat) (i : Int), e = .returned (.tuple #[.slice a n ca, .agg #[.int .i64 x, .int .i64 y, .int .i64 z], .iface 138 (.pointer (some ⟨J, 0, none⟩))]) ∧ JoinAt w' w.heap.size J (.iface 118 (.agg #[.int .i64 E, .int .i64 i])) ∧ Below w.heap.size w w' := by
    intro w h
    refine (qD w h).mono ?_
    rintro en w3 ⟨ds, pd, cd, dx, dy, dz, v, rfl, hrd, hnew, hv, hok, hb3⟩
    rcases hv with ⟨h, _⟩ | ⟨_, J, i, rfl, hJ⟩
    · exact absurd h h6
    · exact ⟨pd, ds.length, cd, dx, dy, dz, J, i, rfl, hJ, hb3⟩
  have qT := fun J i w h1 h2 => told_p J E i w h1 h2
  have hl0 : 0 < w.heap.size := World.block_lt_of_cell? w ⟨0, 0, none⟩ hg
  have n0 : ¬ 0 = w.heap.size := by omega
  have n1 : ¬ 0 = w.heap.size + 1 := by omega
  clear qD
  go_enter Tryd.func17, Tryd.ntmps17
  go_wp2_with (first | (go_at_call 27; refine (qC _ (hq.later (by repeat' (first | with_reducible exact Below.refl _ _ | with_reducible refine Below.drew ?_ | with_reducible refine below_drewN ?_ _ | with_reducible refine Below.alloc ?_ (by first | omega | (simp <;> omega)) _ | with_reducible refine Below.setCell ?_ (by first | omega | (dsimp only; omega) | (simp <;> omega)) _ | with_reducible refine Below.trans ?_ (Below.mono (by assumption) (by first | omega | (simp <;> omega))))))).mono ?_; rintro en w1 ⟨rfl, hb⟩; have hsz := hb.size; (try simp at hsz); (first | (have hbl := blater2 HA (by first | exact Nat.le_refl _ | (simp; done) | (simp; omega)) hb; obtain ⟨hcc, hff, HA, hne, hne'⟩ := hbl) | (obtain ⟨hcc, hff, HA, hne, hne'⟩ := blater1 hb)); (try simp only [World.size_alloc, World.size_setCell] at HA)) | (go_at_call 59; refine (qR _).mono ?_; rintro en w2 ⟨rfl, hb2_1⟩; have hsz := hb2_1.size; (try simp at hsz); (first | (have hbl := blater2 HA (by first | exact Nat.le_refl _ | (simp; done) | (simp; omega)) hb2_1; obtain ⟨hcc, hff, HA, hne, hne'⟩ := hbl) | (obtain ⟨hcc, hff, HA, hne, hne'⟩ := blater1 hb2_1)); (try simp only [World.size_alloc, World.size_setCell] at HA)) | (go_at_call 60; refine (qD2 _ (hq.later (by repeat' (first | with_reducible exact Below.refl _ _ | with_reducible refine Below.drew ?_ | with_reducible refine below_drewN ?_ _ | with_reducible refine Below.alloc ?_ (by first | omega | (simp <;> omega)) _ | with_reducible refine Below.setCell ?_ (by first | omega | (dsimp only; omega) | (simp <;> omega)) _ | with_reducible refine Below.trans ?_ (Below.mono (by assumption) (by first | omega | (simp <;> omega))))))).mono ?_; rintro en w3 ⟨pa, pn, pc, dx, dy, dz, J, i, rfl, hJ, hb3⟩; have hsz := hb3.size; (try simp at hsz); (first | (have hbl := blater2 HA (by first | exact Nat.le_refl _ | (simp; done) | (simp; omega)) hb3; obtain ⟨hcc, hff, HA, hne, hne'⟩ := hbl) | (obtain ⟨hcc, hff, HA, hne, hne'⟩ := blater1 hb3)); (try simp only [World.size_alloc, World.size_setCell] at HA)))
  have hz1 := hb.size
  have hz2 := hb2_1.size
  have hz3 := hb3.size
  simp at hz1
  have hZ0 : Blk ((w.alloc (.cells #[.int .i64 a, .int .i64 b, .int .i64 c] 24)).alloc (.cells #[.int .i64 0, .int .i64 0, .int .i64 0] 24)) w.heap.size 24 [.int .i64 a, .int .i64 b, .int .i64 c] := (Blk.new w 24 #[.int .i64 a, .int .i64 b, .int .i64 c]).alloc _
  have hN0 : Blk ((w.alloc (.cells #[.int .i64 a, .int .i64 b, .int .i64 c] 24)).alloc (.cells #[.int .i64 0, .int .i64 0, .int .i64 0] 24)) (w.heap.size + 1) 24 [.int .i64 0, .int .i64 0, .int .i64 0] := by simpa using Blk.new (w.alloc (.cells #[.int .i64 a, .int .i64 b, .int .i64 c] 24)) 24 #[.int .i64 0, .int .i64 0, .int .i64 0]
  have hN3 := ((hN0.later hb).later hb2_1).later hb3
  have b3 : Below w.heap.size w w3 := by repeat' (first | with_reducible exact Below.refl _ _ | with_reducible refine Below.drew ?_ | with_reducible refine below_drewN ?_ _ | with_reducible refine Below.alloc ?_ (by first | omega | (simp <;> omega)) _ | with_reducible refine Below.setCell ?_ (by first | omega | (dsimp only; omega) | (simp <;> omega)) _ | with_reducible refine Below.trans ?_ (Below.mono (by assumption) (by first | omega | (simp <;> omega))))
  have hg3 : w3.cell? ⟨0, 0, none⟩ = some (.iface 165 (.agg #[.pointer (some ⟨9, 74, none⟩)])) := (b3.cell (p := ⟨0, 0, none⟩) hl0).trans hg
  obtain ⟨W5, hW5⟩ : ∃ W5, ((w3.setCell ⟨w.heap.size, 0, none⟩ (.int .i64 dx)).setCell ⟨w.heap.size, 1, none⟩ (.int .i64 dy)).setCell ⟨w.heap.size, 2, none⟩ (.int .i64 dz) = W5 := ⟨_, rfl⟩
  have hJ5 : JoinAt W5 (w.heap.size + 1) J (.iface 118 (.agg #[.int .i64 E, .int .i64 i])) := by
    rw [← hW5]
    exact (((hJ.mono (by omega)).put _ _ (by dsimp only; omega)).put _ _ (by dsimp only; omega)).put _ _ (by dsimp only; omega)
  have hN5 : Blk W5 (w.heap.size + 1) 24 [.int .i64 0, .int .i64 0, .int .i64 0] := by rw [← hW5]; exact ((hN3.other (by dsimp only; omega) _).other (by dsimp only; omega) _).other (by dsimp only; omega) _
  have b5 : Below w.heap.size w W5 := by rw [← hW5]; repeat' (first | with_reducible exact Below.refl _ _ | with_reducible refine Below.drew ?_ | with_reducible refine below_drewN ?_ _ | with_reducible refine Below.alloc ?_ (by first | omega | (simp <;> omega)) _ | with_reducible refine Below.setCell ?_ (by first | omega | (dsimp only; omega) | (simp <;> omega)) _ | with_reducible refine Below.trans ?_ (Below.mono (by assumption) (by first | omega | (simp <;> omega))))
  have hg5 : W5.cell? ⟨0, 0, none⟩ = some (.iface 165 (.agg #[.pointer (some ⟨9, 74, none⟩)])) := (b5.cell (p := ⟨0, 0, none⟩) hl0).trans hg
  rw [hW5]
  have lN := hN5.lt
  have n_0 : W5.cell? ⟨w.heap.size + 1, 0, none⟩ = some (.int .i64 0) := hN5.cell 0; have f_0 : W5.frozen? ⟨w.heap.size + 1, 0, none⟩ = false := hN5.frozen 0; have n_1 : W5.cell? ⟨w.heap.size + 1, 1, none⟩ = some (.int .i64 0) := hN5.cell 1; have f_1 : W5.frozen? ⟨w.heap.size + 1, 1, none⟩ = false := hN5.frozen 1; have n_2 : W5.cell? ⟨w.heap.size + 1, 2, none⟩ = some (.int .i64 0) := hN5.cell 2; have f_2 : W5.frozen? ⟨w.heap.size + 1, 2, none⟩ = false := hN5.frozen 2
  have HJ5 := Lib.hid hJ5
  clear hW5 hN3 hN0 hZ0 hJ hg3 hb hb2_1 hb3 qC qR qD2 hcc hff HA hne hne' b3 hJ5 hq
  go_region_with (go_at_call 61; refine (qT J i _ (by first | exact hg5 | exact (((Below.refl _ W5).drew).cell (p := ⟨0, 0, none⟩) (by omega)).trans hg5) (by first | exact HJ5.out.zero | exact (HJ5.out.later (Below.refl _ _).drew).zero)).mono ?_; rintro en w9 ⟨rfl, hb9⟩; have nn0 : w9.cell? ⟨w.heap.size + 1, 0, none⟩ = some (.int .i64 0) := (hb9.cell (p := ⟨w.heap.size + 1, 0, none⟩) lN).trans n_0; have ff0 : w9.frozen? ⟨w.heap.size + 1, 0, none⟩ = false := (hb9.frozen (p := ⟨w.heap.size + 1, 0, none⟩) lN).trans f_0; have nn1 : w9.cell? ⟨w.heap.size + 1, 1, none⟩ = some (.int .i64 0) := (hb9.cell (p := ⟨w.heap.size + 1, 1, none⟩) lN).trans n_1; have ff1 : w9.frozen? ⟨w.heap.size + 1, 1, none⟩ = false := (hb9.frozen (p := ⟨w.heap.size + 1, 1, none⟩) lN).trans f_1; have nn2 : w9.cell? ⟨w.heap.size + 1, 2, none⟩ = some (.int .i64 0) := (hb9.cell (p := ⟨w.heap.size + 1, 2, none⟩) lN).trans n_2; have ff2 : w9.frozen? ⟨w.heap.size + 1, 2, none⟩ = false := (hb9.frozen (p := ⟨w.heap.size + 1, 2, none⟩) lN).trans f_2; have hz9 := hb9.size)
  all_goals
    have hz5 := b5.size
    go_wp2
    go_light
    refine bodyPost_ret (v := .tuple #[.string ⟨#[]⟩, .agg #[.int .i64 0, .int .i64 0, .int .i64 0], .int .i64 E]) (by simp [results, Tryd.results17, go_sem, *]) rfl ⟨rfl, ?_⟩
    repeat' (first | with_reducible exact Below.refl _ _ | with_reducible refine Below.drew ?_ | with_reducible refine below_drewN ?_ _ | with_reducible refine Below.alloc ?_ (by first | omega | (simp <;> omega)) _ | with_reducible refine Below.setCell ?_ (by first | omega | (dsimp only; omega) | (simp <;> omega)) _ | with_reducible refine Below.trans ?_ (Below.mono (by assumption) (by first | omega | (simp <;> omega))))
theorem pexec_p (pq : Option Addr) (qs : List (Int × Int × Int)) (cq : Nat) (lits before : ByteArray) (a b c win : Int) (w : World) (hq : RowQ w pq qs) (hm : qs.length ≤ 9223372036854775807) (hl : lits.size ≤ 9223372036854775807) (hbf : before.size ≤ 9223372036854775807) (hg : w.cell? ⟨0, 0, none⟩ = some (.iface 165 (.agg #[.pointer (some ⟨9, 74, none⟩)]))) :
    Calls Tryd.prog 17 #[.slice pq qs.length cq, .string lits, .string before, .agg #[.int .i64 a, .int .i64 b, .int .i64 c], .int .i64 win] w fun e w' => e = .returned (.tuple #[.string (Rexec qs lits before a b c win).1, .agg #[.int .i64 (Rexec qs lits before a b c win).2.1.1, .int .i64 (Rexec qs lits before a b c win).2.1.2.1, .int .i64 (Rexec qs lits before a b c win).2.1.2.2], .int .i64 (Rexec qs lits before a b c win).2.2]) ∧ Below w.heap.size w w' := by
  by_cases h1 : schk qs = 0
  · by_cases h2 : chkL true [a, b, c] = 0
    · by_cases h3 : win < 0
      · have hR : Rexec qs lits before a b c win = (⟨#[]⟩, (0, 0, 0), 2) := by unfold Rexec; rw [if_neg (by simpa using h1), if_neg (by simpa using h2), if_pos h3]
        rw [hR]
        exact pexec_e3 pq qs cq lits before a b c win w hq hm hl hbf h1 h2 h3
      · by_cases h4 : 131072 < lits.size ∨ 1048576 < before.size
        · have hR : Rexec qs lits before a b c win = (⟨#[]⟩, (0, 0, 0), 4) := by unfold Rexec; rw [if_neg (by simpa using h1), if_neg (by simpa using h2), if_neg h3, if_pos h4]
          rw [hR]
          by_cases h5 : 131072 < lits.size
          · exact pexec_e4 pq qs cq lits before a b c win w hq hm hl hbf h1 h2 h3 (by simp; omega)
          · exact pexec_e5 pq qs cq lits before a b c win w hq hm hl hbf h1 h2 h3 (by simp; omega) (by simp; omega)
        · have g1 : decide ((131072 : Int) < (lits.size : Int)) = false := by simp; omega
          have g2 : decide ((1048576 : Int) < (before.size : Int)) = false := by simp; omega
          by_cases h6 : eAll win qs lits.size before.size (a, b, c) = 0
          · exact pexec_1 pq qs cq lits before a b c win w hq hm hl hbf h1 h2 h3 g1 g2 h6
          · rw [rexec_e h1 h2 (by omega) (by omega) (by omega) h6]
            exact pexec_e6 pq qs cq lits before a b c win w hq hm hl hbf h1 h2 h3 g1 g2 h6 hg
    · have hR : Rexec qs lits before a b c win = (⟨#[]⟩, (0, 0, 0), chkL true [a, b, c]) := by unfold Rexec; rw [if_neg (by simpa using h1), if_pos h2]
      rw [hR]
      exact pexec_e2 pq qs cq lits before a b c win w hq hm hl hbf h1 h2
  · have hR : Rexec qs lits before a b c win = (⟨#[]⟩, (0, 0, 0), schk qs) := by unfold Rexec; rw [if_pos h1]
    rw [hR]
    exact pexec_e1 pq qs cq lits before a b c win w hq hm hl hbf h1
end Go.Proofs.YtmblpmaelglnpaaDoor
