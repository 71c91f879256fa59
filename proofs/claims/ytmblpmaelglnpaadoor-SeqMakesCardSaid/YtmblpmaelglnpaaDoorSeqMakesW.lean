/-
  SeqMakes: the statement's function, walked.
-/
import Derived.Test.YtmblpmaelglnpaaDoorRows
import Derived.Test.YtmblpmaelglnpaaDoorSeqLaw1
import Derived.Test.YtmblpmaelglnpaaDoorSeqOf4
import Derived.Test.YtmblpmaelglnpaaDoorGBase
import Derived.Deep.Light
import Derived.Shelf.Abstract
import Derived.Shelf.RegionOpen
import Derived.OwnWalkIn
import Derived.TacticsInMore
import Derived.LoopNIn
import Derived.LoopIn
import Derived.Maps.OwnIn
import Derived.Outline
import Derived.IntWalk
import Derived.WalkMore
namespace Go.Proofs.YtmblpmaelglnpaaDoor
open Go.RowKit
set_option linter.unusedSimpArgs false
set_option linter.unusedVariables false
open Go.Shelf
attribute [local go_sem] eq23 Oper.semAt_some

set_option maxRecDepth 100000 in
set_option maxHeartbeats 8000000 in
theorem seqMakes_t (before out : ByteArray) (pl : Option Addr) (ls : List Int) (cl : Nat) (pd : Option Addr) (ds : List Int) (cd : Nat) (pm : Option Addr) (ms : List Int) (cm : Nat) (a b c : Int) (w : World) (hl : Row .i64 w pl ls) (hd : Row .i64 w pd ds) (hm : Row .i64 w pm ms) (nl : ls.length ≤ 9223372036854775807) (nd : ds.length ≤ 9223372036854775807) (nm : ms.length ≤ 9223372036854775807) (nb : before.size ≤ 9223372036854775807) (no : out.size ≤ 9223372036854775807) (hg : w.cell? ⟨0, 0, none⟩ = some (.iface 165 (.agg #[.pointer (some ⟨9, 74, none⟩)]))) :
    Calls Tryd.prog 7 #[.string before, .string out, .slice pl ls.length cl, .slice pd ds.length cd, .slice pm ms.length cm, .agg #[.int .i64 a, .int .i64 b, .int .i64 c]] w fun e w' => e = .returned (.bool true) ∧ Below w.heap.size w w' := by
  have hl0 : 0 < w.heap.size := World.block_lt_of_cell? w ⟨0, 0, none⟩ hg
  by_cases hv : ¬ 300 < before.size ∧ ¬ 300 < out.size ∧ ¬ 20 < ls.length ∧ ¬ 20 < ds.length ∧ ¬ 20 < ms.length
  · obtain ⟨h0, h1, h2, h3, h4⟩ := hv
    have g0 : decide ((300 : Int) < (before.size : Int)) = false := by simp; omega
    have g1 : decide ((300 : Int) < (out.size : Int)) = false := by simp; omega
    have g2 : decide ((20 : Int) < (ls.length : Int)) = false := by simp; omega
    have g3 : decide ((20 : Int) < (ds.length : Int)) = false := by simp; omega
    have g4 : decide ((20 : Int) < (ms.length : Int)) = false := by simp; omega
    have qP := fun w ph ch h1 h2 h3 => pof_p before out ph ls ch pd ds cd pm ms cm a b c w h1 h2 h3 (by omega) (by omega) (by omega) nb no
    have qR := fun w h1 h2 h3 => rofr_p before out pl ls cl pd ds cd pm ms cm a b c w h1 h2 h3 (by omega) (by omega) (by omega) nb no
    have hQl : (Rof before out ls ds ms a b c).1.length ≤ 9223372036854775807 := by
      by_cases h : (Rof before out ls ds ms a b c).2.2.2 = 0
      · obtain ⟨_, hn, _, _, _, _, _, he⟩ := rof_inv h
        rw [he]
        dsimp only
        rw [oQs_len]
        omega
      · unfold Rof at h ⊢
        repeat' split
        all_goals simp
        all_goals
          rename_i c1 c2 c3 c4 c5 c6
          rw [if_neg c1, if_neg c2, if_neg c3, if_neg c4, if_neg c5, if_neg c6] at h
          exact absurd rfl h
    generalize Rof before out ls ds ms a b c = R at qP qR hQl
    obtain ⟨Q, S, ⟨x, y, z⟩, E⟩ := R
    unfold OfPost at qP qR
    dsimp only at qP qR hQl
    have qS := fun (w : World) pa pb ca cb (h1 : RowQ w pa Q) (h2 : RowQ w pb Q) => rsame_p pa pb Q Q ca cb w h1 h2 hQl
    rw [decide_eq_true (rfl : Q = Q)] at qS
    go_enter Tryd.func7, Tryd.ntmps7
    go_wp2_with (first | (go_at_call 16; refine (awake_p20 _ (by refine ((show Below w.heap.size w _ by repeat' (first | with_reducible exact Below.refl _ _ | with_reducible refine Below.drew ?_ | with_reducible refine below_drewN ?_ _ | with_reducible refine Below.alloc ?_ (by first | omega | (simp <;> omega)) _ | with_reducible refine Below.setCell ?_ (by first | omega | (dsimp only; omega) | (simp <;> omega)) _ | with_reducible refine Below.trans ?_ (Below.mono (by assumption) (by first | omega | (simp <;> omega))))).cell (p := ⟨0, 0, none⟩) hl0).trans hg)).mono ?_; rintro en wa ⟨rfl, hba⟩; have hsz := hba.size; (try simp at hsz); (first | (have hbl := blater2 HA (by first | exact Nat.le_refl _ | (simp; done) | (simp; omega)) hba; obtain ⟨hcc, hff, HA, hne, hne'⟩ := hbl) | (obtain ⟨hcc, hff, HA, hne, hne'⟩ := blater1 hba)); (try simp only [World.size_alloc, World.size_setCell] at HA)) | (go_at_call 30; refine (ownInts_k pl ls cl _ (hl.later (by repeat' (first | with_reducible exact Below.refl _ _ | with_reducible refine Below.drew ?_ | with_reducible refine below_drewN ?_ _ | with_reducible refine Below.alloc ?_ (by first | omega | (simp <;> omega)) _ | with_reducible refine Below.setCell ?_ (by first | omega | (dsimp only; omega) | (simp <;> omega)) _ | with_reducible refine Below.trans ?_ (Below.mono (by assumption) (by first | omega | (simp <;> omega)))))) (by omega)).mono ?_; rintro en wO ⟨ph, ch, rfl, hrh, hbO⟩; have hsO := hbO.size; (simp at hsO); have k0 : wO.cell? ⟨w.heap.size, 0, none⟩ = some (.int .i64 (a)) := (hbO.cell (p := ⟨w.heap.size, 0, none⟩) (by simp)).trans (by simp [go_sem]); have k1 : wO.cell? ⟨w.heap.size, 1, none⟩ = some (.int .i64 (b)) := (hbO.cell (p := ⟨w.heap.size, 1, none⟩) (by simp)).trans (by simp [go_sem]); have k2 : wO.cell? ⟨w.heap.size, 2, none⟩ = some (.int .i64 (c)) := (hbO.cell (p := ⟨w.heap.size, 2, none⟩) (by simp)).trans (by simp [go_sem])) | (go_at_call 31; refine (qP _ ph ch hrh (hd.later (by repeat' (first | with_reducible exact Below.refl _ _ | with_reducible refine Below.drew ?_ | with_reducible refine below_drewN ?_ _ | with_reducible refine Below.alloc ?_ (by first | omega | (simp <;> omega)) _ | with_reducible refine Below.setCell ?_ (by first | omega | (dsimp only; omega) | (simp <;> omega)) _ | with_reducible refine Below.trans ?_ (Below.mono (by assumption) (by first | omega | (simp <;> omega)))))) (hm.later (by repeat' (first | with_reducible exact Below.refl _ _ | with_reducible refine Below.drew ?_ | with_reducible refine below_drewN ?_ _ | with_reducible refine Below.alloc ?_ (by first | omega | (simp <;> omega)) _ | with_reducible refine Below.setCell ?_ (by first | omega | (dsimp only; omega) | (simp <;> omega)) _ | with_reducible refine Below.trans ?_ (Below.mono (by assumption) (by first | omega | (simp <;> omega))))))).mono ?_; rintro en wP ⟨pq, cq, rfl, hQ1, hbP⟩; have hsP := hbP.size; have m0 : wP.cell? ⟨w.heap.size, 0, none⟩ = some (.int .i64 (a)) := (hbP.cell (p := ⟨w.heap.size, 0, none⟩) (by dsimp only; omega)).trans k0; have m1 : wP.cell? ⟨w.heap.size, 1, none⟩ = some (.int .i64 (b)) := (hbP.cell (p := ⟨w.heap.size, 1, none⟩) (by dsimp only; omega)).trans k1; have m2 : wP.cell? ⟨w.heap.size, 2, none⟩ = some (.int .i64 (c)) := (hbP.cell (p := ⟨w.heap.size, 2, none⟩) (by dsimp only; omega)).trans k2; have hrh2 := hrh.later hbP; have e1 : w.heap.size < wP.heap.size := (by omega); have e2 : ¬ w.heap.size = wP.heap.size := (by omega)) | (go_at_call 32; refine (qR _ (hl.later (by repeat' (first | with_reducible exact Below.refl _ _ | with_reducible refine Below.drew ?_ | with_reducible refine below_drewN ?_ _ | with_reducible refine Below.alloc ?_ (by first | omega | (simp <;> omega)) _ | with_reducible refine Below.setCell ?_ (by first | omega | (dsimp only; omega) | (simp <;> omega)) _ | with_reducible refine Below.trans ?_ (Below.mono (by assumption) (by first | omega | (simp <;> omega)))))) (hd.later (by repeat' (first | with_reducible exact Below.refl _ _ | with_reducible refine Below.drew ?_ | with_reducible refine below_drewN ?_ _ | with_reducible refine Below.alloc ?_ (by first | omega | (simp <;> omega)) _ | with_reducible refine Below.setCell ?_ (by first | omega | (dsimp only; omega) | (simp <;> omega)) _ | with_reducible refine Below.trans ?_ (Below.mono (by assumption) (by first | omega | (simp <;> omega)))))) (hm.later (by repeat' (first | with_reducible exact Below.refl _ _ | with_reducible refine Below.drew ?_ | with_reducible refine below_drewN ?_ _ | with_reducible refine Below.alloc ?_ (by first | omega | (simp <;> omega)) _ | with_reducible refine Below.setCell ?_ (by first | omega | (dsimp only; omega) | (simp <;> omega)) _ | with_reducible refine Below.trans ?_ (Below.mono (by assumption) (by first | omega | (simp <;> omega))))))).mono ?_; rintro en wR ⟨pr, cr, rfl, hQ2, hbR⟩; have hsR := hbR.size; (simp at hsR); have n0 : wR.cell? ⟨wP.heap.size, 0, none⟩ = some (.int .i64 (x)) := (hbR.cell (p := ⟨wP.heap.size, 0, none⟩) (by simp)).trans (by simp [go_sem]); have n1 : wR.cell? ⟨wP.heap.size, 1, none⟩ = some (.int .i64 (y)) := (hbR.cell (p := ⟨wP.heap.size, 1, none⟩) (by simp)).trans (by simp [go_sem]); have n2 : wR.cell? ⟨wP.heap.size, 2, none⟩ = some (.int .i64 (z)) := (hbR.cell (p := ⟨wP.heap.size, 2, none⟩) (by simp)).trans (by simp [go_sem]); have hQ3 := (hQ1.later ((Below.refl _ wP).alloc (Nat.le_refl _) _)).later hbR; have hrh3 := (hrh2.later ((Below.refl _ wP).alloc (Nat.le_refl _) _)).later hbR; have e3 : wP.heap.size < wR.heap.size := (by omega); have e4 : ¬ wP.heap.size = wR.heap.size := (by omega)) | (go_at_call 19; refine (qS _ pq pr cq cr (hQ3.later (by repeat' (first | with_reducible exact Below.refl _ _ | with_reducible refine Below.drew ?_ | with_reducible refine below_drewN ?_ _ | with_reducible refine Below.alloc ?_ (by first | omega | (simp <;> omega)) _ | with_reducible refine Below.setCell ?_ (by first | omega | (dsimp only; omega) | (simp <;> omega)) _ | with_reducible refine Below.trans ?_ (Below.mono (by assumption) (by first | omega | (simp <;> omega)))))) (hQ2.later (by repeat' (first | with_reducible exact Below.refl _ _ | with_reducible refine Below.drew ?_ | with_reducible refine below_drewN ?_ _ | with_reducible refine Below.alloc ?_ (by first | omega | (simp <;> omega)) _ | with_reducible refine Below.setCell ?_ (by first | omega | (dsimp only; omega) | (simp <;> omega)) _ | with_reducible refine Below.trans ?_ (Below.mono (by assumption) (by first | omega | (simp <;> omega))))))).mono ?_; rintro en wS ⟨rfl, hbS⟩; have hsS := hbS.size; (simp at hsS); have r0 : wS.cell? ⟨wP.heap.size, 0, none⟩ = some (.int .i64 (x)) := (hbS.cell (p := ⟨wP.heap.size, 0, none⟩) (by simp; omega)).trans (by simp [go_sem, *]); have r1 : wS.cell? ⟨wP.heap.size, 1, none⟩ = some (.int .i64 (y)) := (hbS.cell (p := ⟨wP.heap.size, 1, none⟩) (by simp; omega)).trans (by simp [go_sem, *]); have r2 : wS.cell? ⟨wP.heap.size, 2, none⟩ = some (.int .i64 (z)) := (hbS.cell (p := ⟨wP.heap.size, 2, none⟩) (by simp; omega)).trans (by simp [go_sem, *]); have t0 : wS.cell? ⟨wR.heap.size, 0, none⟩ = some (.int .i64 (x)) := (hbS.cell (p := ⟨wR.heap.size, 0, none⟩) (by simp)).trans (by simp [go_sem]); have t1 : wS.cell? ⟨wR.heap.size, 1, none⟩ = some (.int .i64 (y)) := (hbS.cell (p := ⟨wR.heap.size, 1, none⟩) (by simp)).trans (by simp [go_sem]); have t2 : wS.cell? ⟨wR.heap.size, 2, none⟩ = some (.int .i64 (z)) := (hbS.cell (p := ⟨wR.heap.size, 2, none⟩) (by simp)).trans (by simp [go_sem]); have hrh4 := (hrh3.later ((Below.refl _ wR).alloc (Nat.le_refl _) _)).later hbS) | (go_at_call 33; refine (kn_same _ _ ls _ _ _ _ (hrh4.later (by repeat' (first | with_reducible exact Below.refl _ _ | with_reducible refine Below.drew ?_ | with_reducible refine below_drewN ?_ _ | with_reducible refine Below.alloc ?_ (by first | omega | (simp <;> omega)) _ | with_reducible refine Below.setCell ?_ (by first | omega | (dsimp only; omega) | (simp <;> omega)) _ | with_reducible refine Below.trans ?_ (Below.mono (by assumption) (by first | omega | (simp <;> omega)))))) (hl.later (by repeat' (first | with_reducible exact Below.refl _ _ | with_reducible refine Below.drew ?_ | with_reducible refine below_drewN ?_ _ | with_reducible refine Below.alloc ?_ (by first | omega | (simp <;> omega)) _ | with_reducible refine Below.setCell ?_ (by first | omega | (dsimp only; omega) | (simp <;> omega)) _ | with_reducible refine Below.trans ?_ (Below.mono (by assumption) (by first | omega | (simp <;> omega)))))) rfl (by omega)).mono ?_; rintro en wI ⟨rfl, hbI⟩; have hsI := hbI.size))
    go_light
    refine bodyPost_ret (v := .bool true) (by simp [results, Tryd.results7, go_sem, *]) rfl ⟨rfl, ?_⟩
    repeat' (first | with_reducible exact Below.refl _ _ | with_reducible refine Below.drew ?_ | with_reducible refine below_drewN ?_ _ | with_reducible refine Below.alloc ?_ (by first | omega | (simp <;> omega)) _ | with_reducible refine Below.setCell ?_ (by first | omega | (dsimp only; omega) | (simp <;> omega)) _ | with_reducible refine Below.trans ?_ (Below.mono (by assumption) (by first | omega | (simp <;> omega))))
  · have hv3 : (decide ((300 : Int) < (before.size : Int)) = true) ∨ (decide ((300 : Int) < (before.size : Int)) = false ∧ decide ((300 : Int) < (out.size : Int)) = true) ∨ (decide ((300 : Int) < (before.size : Int)) = false ∧ decide ((300 : Int) < (out.size : Int)) = false ∧ decide ((20 : Int) < (ls.length : Int)) = true) ∨ (decide ((300 : Int) < (before.size : Int)) = false ∧ decide ((300 : Int) < (out.size : Int)) = false ∧ decide ((20 : Int) < (ls.length : Int)) = false ∧ decide ((20 : Int) < (ds.length : Int)) = true) ∨ (decide ((300 : Int) < (before.size : Int)) = false ∧ decide ((300 : Int) < (out.size : Int)) = false ∧ decide ((20 : Int) < (ls.length : Int)) = false ∧ decide ((20 : Int) < (ds.length : Int)) = false ∧ decide ((20 : Int) < (ms.length : Int)) = true) := by
      simp only [decide_eq_true_eq, decide_eq_false_iff_not]
      omega
    clear hv
    rcases hv3 with g0 | ⟨g0, g1⟩ | ⟨g0, g1, g2⟩ | ⟨g0, g1, g2, g3⟩ | ⟨g0, g1, g2, g3, g4⟩
    all_goals
      go_enter Tryd.func7, Tryd.ntmps7
      go_wp2_with (first | (go_at_call 16; refine (awake_p20 _ (by refine ((show Below w.heap.size w _ by repeat' (first | with_reducible exact Below.refl _ _ | with_reducible refine Below.drew ?_ | with_reducible refine below_drewN ?_ _ | with_reducible refine Below.alloc ?_ (by first | omega | (simp <;> omega)) _ | with_reducible refine Below.setCell ?_ (by first | omega | (dsimp only; omega) | (simp <;> omega)) _ | with_reducible refine Below.trans ?_ (Below.mono (by assumption) (by first | omega | (simp <;> omega))))).cell (p := ⟨0, 0, none⟩) hl0).trans hg)).mono ?_; rintro en wa ⟨rfl, hba⟩; have hsz := hba.size; (try simp at hsz); (first | (have hbl := blater2 HA (by first | exact Nat.le_refl _ | (simp; done) | (simp; omega)) hba; obtain ⟨hcc, hff, HA, hne, hne'⟩ := hbl) | (obtain ⟨hcc, hff, HA, hne, hne'⟩ := blater1 hba)); (try simp only [World.size_alloc, World.size_setCell] at HA)))
      go_light
      refine bodyPost_ret (v := .bool true) (by simp [results, Tryd.results7, go_sem, *]) rfl ⟨rfl, ?_⟩
      repeat' (first | with_reducible exact Below.refl _ _ | with_reducible refine Below.drew ?_ | with_reducible refine below_drewN ?_ _ | with_reducible refine Below.alloc ?_ (by first | omega | (simp <;> omega)) _ | with_reducible refine Below.setCell ?_ (by first | omega | (dsimp only; omega) | (simp <;> omega)) _ | with_reducible refine Below.trans ?_ (Below.mono (by assumption) (by first | omega | (simp <;> omega))))
end Go.Proofs.YtmblpmaelglnpaaDoor
