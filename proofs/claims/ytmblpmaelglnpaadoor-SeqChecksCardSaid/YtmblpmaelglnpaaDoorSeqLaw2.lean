/-
  SeqChecks: the statement's function, walked.
-/
import Derived.Test.YtmblpmaelglnpaaDoorRows
import Derived.Test.YtmblpmaelglnpaaDoorSeqLaw1
import Derived.Test.YtmblpmaelglnpaaDoorSeqSums
import Derived.Test.YtmblpmaelglnpaaDoorSeqSame2
import Derived.Test.YtmblpmaelglnpaaDoorGBase
import Derived.Deep.Light
import Derived.Shelf.Abstract
import Derived.Shelf.RegionOpen
import Derived.OwnWalkIn
import Derived.TacticsInMore
import Derived.LoopNIn
import Derived.LoopIn
import Derived.Maps.OwnIn
import Derived.Outline
import Derived.IntWalk
import Derived.WalkMore
namespace Go.Proofs.YtmblpmaelglnpaaDoor
open Go.RowKit
set_option linter.unusedSimpArgs false
set_option linter.unusedVariables false
open Go.Shelf
attribute [local go_sem] eq23 Oper.semAt_some

set_option maxRecDepth 100000 in
set_option maxHeartbeats 8000000 in
theorem seqChecks_t (pq : Option Addr) (qs : List (Int × Int × Int)) (cq : Nat) (pk : Option Addr) (ks : List (Int × Int × Int)) (ck : Nat) (w : World) (hq : RowQ w pq qs) (hm : qs.length ≤ 9223372036854775807) (hk : RowQ w pk ks) (hn : ks.length ≤ 9223372036854775807) (hg : w.cell? ⟨0, 0, none⟩ = some (.iface 165 (.agg #[.pointer (some ⟨9, 74, none⟩)]))) :
    Calls Tryd.prog 6 #[.slice pq qs.length cq, .slice pk ks.length ck] w fun e w' => e = .returned (.bool true) ∧ Below w.heap.size w w' := by
  have hl0 : 0 < w.heap.size := World.block_lt_of_cell? w ⟨0, 0, none⟩ hg
  by_cases hv : ¬ 40 < qs.length ∧ ¬ 40 < ks.length
  · obtain ⟨h1, h2⟩ := hv
    have e1 : decide ((40 : Int) < (qs.length : Int)) = false := by simp; omega
    have e2 : decide ((40 : Int) < (ks.length : Int)) = false := by simp; omega
    obtain ⟨i0, hi, hz0, hz1, hz2⟩ := info_parts infoSeq
    have qA := fun (w : World) pa ca h => lits_p pa qs ca w h hm
    have qB := fun (w : World) h => rlits_p pq qs cq w h hm
    have qC := fun (w : World) pa ca h => length_p pa qs ca w h hm
    have qD := fun (w : World) h => rlength_p pq qs cq w h hm
    have qE := fun (w : World) pa ca h => scheck_p pa qs ca w h hm
    have qF := fun (w : World) h => rscheck_p pq qs cq w h hm
    have qS := fun (w : World) pa ca h h2 => psame_p pa pk qs ks ca ck w h h2 hm
    have qT := fun (w : World) h h2 => rsame_p pq pk qs ks cq ck w h h2 hm
    have qU := fun (w : World) pa ca h h2 => rsame_p pa pq qs qs ca cq w h h2 hm
    rw [decide_eq_true (rfl : qs = qs)] at qU
    generalize Rlits qs = R at qA qB
    generalize Rlen qs = R2 at qC qD
    generalize schk qs = n0 at qE qF
    generalize decide (qs = ks) = d at qS qT
    obtain ⟨r1, r2⟩ := R
    obtain ⟨r3, r4⟩ := R2
    dsimp only at qA qB qC qD
    go_enter Tryd.func6, Tryd.ntmps6
    go_wp2_with (first | (go_at_call 16; refine (awake_p20 _ (by refine ((show Below w.heap.size w _ by repeat' (first | with_reducible exact Below.refl _ _ | with_reducible refine Below.drew ?_ | with_reducible refine below_drewN ?_ _ | with_reducible refine Below.alloc ?_ (by first | omega | (simp <;> omega)) _ | with_reducible refine Below.setCell ?_ (by first | omega | (dsimp only; omega) | (simp <;> omega)) _ | with_reducible refine Below.trans ?_ (Below.mono (by assumption) (by first | omega | (simp <;> omega))))).cell (p := ⟨0, 0, none⟩) hl0).trans hg)).mono ?_; rintro en wa ⟨rfl, hba⟩; have hsz := hba.size; (try simp at hsz); (first | (have hbl := blater2 HA (by first | exact Nat.le_refl _ | (simp; done) | (simp; omega)) hba; obtain ⟨hcc, hff, HA, hne, hne'⟩ := hbl) | (obtain ⟨hcc, hff, HA, hne, hne'⟩ := blater1 hba)); (try simp only [World.size_alloc, World.size_setCell] at HA)) | (at_builtin; refine wpList_append_anyQ _ (by first | rfl | (simp [Region.wanted, yielded]; done)) _ _ 22 rfl w.heap.size 35 i0 _ 3 24 Tryd.underlying22 hi hz0 hz1 hz2 rfl (by decide) (.slice (some ⟨w.heap.size, 0, none⟩) 0 0) 0 [] rfl (ownsRow_madeQ w 35 3) pq qs.length cq (flat qs) rfl (flat_len qs) ((hq.later (by repeat' (first | with_reducible exact Below.refl _ _ | with_reducible refine Below.drew ?_ | with_reducible refine below_drewN ?_ _ | with_reducible refine Below.alloc ?_ (by first | omega | (simp <;> omega)) _ | with_reducible refine Below.setCell ?_ (by first | omega | (dsimp only; omega) | (simp <;> omega)) _ | with_reducible refine Below.trans ?_ (Below.mono (by assumption) (by first | omega | (simp <;> omega)))))).vals) (flat_one _) (by unfold maxLen; omega) (by omega) (by simp) (by simp) ?_; intro v1 w1 hown1 hgrow1 hv1; (obtain ⟨pa, ca, rfl⟩ : ∃ pa ca, v1 = .slice pa qs.length ca := by (rw [Nat.zero_add] at hown1; rcases hown1.2 with ⟨h1, h2⟩ | ⟨g, cap, cur, rfl, _⟩; exact absurd h1 hv1; exact ⟨_, _, rfl⟩)); (have B1 : Below w.heap.size w w1 := (show Below w.heap.size w _ by repeat' (first | with_reducible exact Below.refl _ _ | with_reducible refine Below.drew ?_ | with_reducible refine below_drewN ?_ _ | with_reducible refine Below.alloc ?_ (by first | omega | (simp <;> omega)) _ | with_reducible refine Below.setCell ?_ (by first | omega | (dsimp only; omega) | (simp <;> omega)) _ | with_reducible refine Below.trans ?_ (Below.mono (by assumption) (by first | omega | (simp <;> omega))))).grown hgrow1 (by simp) (fun k hk => by simp [Value.ownBlock] at hk; omega)); (have hr1 : RowQ w1 pa qs := by (rw [List.nil_append, Nat.zero_add] at hown1; exact RowQ.of_own hown1 rfl)); have hs1 := B1.size; clear hgrow1 hown1 hv1) | (go_at_call 24; refine (qA _ pa ca (hr1.later (by repeat' (first | with_reducible exact Below.refl _ _ | with_reducible refine Below.drew ?_ | with_reducible refine below_drewN ?_ _ | with_reducible refine Below.alloc ?_ (by first | omega | (simp <;> omega)) _ | with_reducible refine Below.setCell ?_ (by first | omega | (dsimp only; omega) | (simp <;> omega)) _ | with_reducible refine Below.trans ?_ (Below.mono (by assumption) (by first | omega | (simp <;> omega))))))).mono ?_; rintro en x2 ⟨rfl, hx2⟩; have hs2 := hx2.size) | (go_at_call 25; refine (qB _ (hq.later (by repeat' (first | with_reducible exact Below.refl _ _ | with_reducible refine Below.drew ?_ | with_reducible refine below_drewN ?_ _ | with_reducible refine Below.alloc ?_ (by first | omega | (simp <;> omega)) _ | with_reducible refine Below.setCell ?_ (by first | omega | (dsimp only; omega) | (simp <;> omega)) _ | with_reducible refine Below.trans ?_ (Below.mono (by assumption) (by first | omega | (simp <;> omega))))))).mono ?_; rintro en x3 ⟨rfl, hx3⟩; have hs3 := hx3.size) | (go_at_call 23; refine (qC _ pa ca (hr1.later (by repeat' (first | with_reducible exact Below.refl _ _ | with_reducible refine Below.drew ?_ | with_reducible refine below_drewN ?_ _ | with_reducible refine Below.alloc ?_ (by first | omega | (simp <;> omega)) _ | with_reducible refine Below.setCell ?_ (by first | omega | (dsimp only; omega) | (simp <;> omega)) _ | with_reducible refine Below.trans ?_ (Below.mono (by assumption) (by first | omega | (simp <;> omega))))))).mono ?_; rintro en x4 ⟨rfl, hx4⟩; have hs4 := hx4.size) | (go_at_call 26; refine (qD _ (hq.later (by repeat' (first | with_reducible exact Below.refl _ _ | with_reducible refine Below.drew ?_ | with_reducible refine below_drewN ?_ _ | with_reducible refine Below.alloc ?_ (by first | omega | (simp <;> omega)) _ | with_reducible refine Below.setCell ?_ (by first | omega | (dsimp only; omega) | (simp <;> omega)) _ | with_reducible refine Below.trans ?_ (Below.mono (by assumption) (by first | omega | (simp <;> omega))))))).mono ?_; rintro en x5 ⟨rfl, hx5⟩; have hs5 := hx5.size) | (go_at_call 27; refine (qE _ pa ca (hr1.later (by repeat' (first | with_reducible exact Below.refl _ _ | with_reducible refine Below.drew ?_ | with_reducible refine below_drewN ?_ _ | with_reducible refine Below.alloc ?_ (by first | omega | (simp <;> omega)) _ | with_reducible refine Below.setCell ?_ (by first | omega | (dsimp only; omega) | (simp <;> omega)) _ | with_reducible refine Below.trans ?_ (Below.mono (by assumption) (by first | omega | (simp <;> omega))))))).mono ?_; rintro en x6 ⟨rfl, hx6⟩; have hs6 := hx6.size) | (go_at_call 28; refine (qF _ (hq.later (by repeat' (first | with_reducible exact Below.refl _ _ | with_reducible refine Below.drew ?_ | with_reducible refine below_drewN ?_ _ | with_reducible refine Below.alloc ?_ (by first | omega | (simp <;> omega)) _ | with_reducible refine Below.setCell ?_ (by first | omega | (dsimp only; omega) | (simp <;> omega)) _ | with_reducible refine Below.trans ?_ (Below.mono (by assumption) (by first | omega | (simp <;> omega))))))).mono ?_; rintro en x7 ⟨rfl, hx7⟩; have hs7 := hx7.size) | (go_at_call 29; refine (qS _ pa ca (hr1.later (by repeat' (first | with_reducible exact Below.refl _ _ | with_reducible refine Below.drew ?_ | with_reducible refine below_drewN ?_ _ | with_reducible refine Below.alloc ?_ (by first | omega | (simp <;> omega)) _ | with_reducible refine Below.setCell ?_ (by first | omega | (dsimp only; omega) | (simp <;> omega)) _ | with_reducible refine Below.trans ?_ (Below.mono (by assumption) (by first | omega | (simp <;> omega)))))) (hk.later (by repeat' (first | with_reducible exact Below.refl _ _ | with_reducible refine Below.drew ?_ | with_reducible refine below_drewN ?_ _ | with_reducible refine Below.alloc ?_ (by first | omega | (simp <;> omega)) _ | with_reducible refine Below.setCell ?_ (by first | omega | (dsimp only; omega) | (simp <;> omega)) _ | with_reducible refine Below.trans ?_ (Below.mono (by assumption) (by first | omega | (simp <;> omega))))))).mono ?_; rintro en x8 ⟨rfl, hx8⟩; have hs8 := hx8.size) | (go_at_call 19; (with_reducible refine (qT _ (hq.later ?_) (hk.later ?_)).mono ?_); (case refine_1 => (repeat' (first | with_reducible exact Below.refl _ _ | with_reducible refine Below.drew ?_ | with_reducible refine below_drewN ?_ _ | with_reducible refine Below.alloc ?_ (by first | omega | (simp <;> omega)) _ | with_reducible refine Below.setCell ?_ (by first | omega | (dsimp only; omega) | (simp <;> omega)) _ | with_reducible refine Below.trans ?_ (Below.mono (by assumption) (by first | omega | (simp <;> omega)))))); (case refine_2 => (repeat' (first | with_reducible exact Below.refl _ _ | with_reducible refine Below.drew ?_ | with_reducible refine below_drewN ?_ _ | with_reducible refine Below.alloc ?_ (by first | omega | (simp <;> omega)) _ | with_reducible refine Below.setCell ?_ (by first | omega | (dsimp only; omega) | (simp <;> omega)) _ | with_reducible refine Below.trans ?_ (Below.mono (by assumption) (by first | omega | (simp <;> omega)))))); rintro en x9 ⟨rfl, hx9⟩; have hs9 := hx9.size) | (go_at_call 19; (with_reducible refine (qU _ pa ca (hr1.later ?_) (hq.later ?_)).mono ?_); (case refine_1 => (repeat' (first | with_reducible exact Below.refl _ _ | with_reducible refine Below.drew ?_ | with_reducible refine below_drewN ?_ _ | with_reducible refine Below.alloc ?_ (by first | omega | (simp <;> omega)) _ | with_reducible refine Below.setCell ?_ (by first | omega | (dsimp only; omega) | (simp <;> omega)) _ | with_reducible refine Below.trans ?_ (Below.mono (by assumption) (by first | omega | (simp <;> omega)))))); (case refine_2 => (repeat' (first | with_reducible exact Below.refl _ _ | with_reducible refine Below.drew ?_ | with_reducible refine below_drewN ?_ _ | with_reducible refine Below.alloc ?_ (by first | omega | (simp <;> omega)) _ | with_reducible refine Below.setCell ?_ (by first | omega | (dsimp only; omega) | (simp <;> omega)) _ | with_reducible refine Below.trans ?_ (Below.mono (by assumption) (by first | omega | (simp <;> omega)))))); rintro en y1 ⟨rfl, hy1⟩; have hs10 := hy1.size))
    go_light
    refine bodyPost_ret (v := .bool true) (by simp [results, Tryd.results6, go_sem, *]) rfl ⟨rfl, ?_⟩
    repeat' (first | with_reducible exact Below.refl _ _ | with_reducible refine Below.drew ?_ | with_reducible refine below_drewN ?_ _ | with_reducible refine Below.alloc ?_ (by first | omega | (simp <;> omega)) _ | with_reducible refine Below.setCell ?_ (by first | omega | (dsimp only; omega) | (simp <;> omega)) _ | with_reducible refine Below.trans ?_ (Below.mono (by assumption) (by first | omega | (simp <;> omega))))
  · have hv3 : (decide ((40 : Int) < (qs.length : Int)) = true) ∨ (decide ((40 : Int) < (qs.length : Int)) = false ∧ decide ((40 : Int) < (ks.length : Int)) = true) := by
      by_cases h1 : 40 < qs.length
      · exact .inl (by simp; omega)
      · refine .inr ⟨by simp; omega, ?_⟩
        have : 40 < ks.length := Classical.byContradiction fun h => hv ⟨h1, h⟩
        simp; omega
    clear hv
    rcases hv3 with e0 | ⟨e0, e1⟩
    all_goals
      go_enter Tryd.func6, Tryd.ntmps6
      go_wp2_with (first | (go_at_call 16; refine (awake_p20 _ (by refine ((show Below w.heap.size w _ by repeat' (first | with_reducible exact Below.refl _ _ | with_reducible refine Below.drew ?_ | with_reducible refine below_drewN ?_ _ | with_reducible refine Below.alloc ?_ (by first | omega | (simp <;> omega)) _ | with_reducible refine Below.setCell ?_ (by first | omega | (dsimp only; omega) | (simp <;> omega)) _ | with_reducible refine Below.trans ?_ (Below.mono (by assumption) (by first | omega | (simp <;> omega))))).cell (p := ⟨0, 0, none⟩) hl0).trans hg)).mono ?_; rintro en wa ⟨rfl, hba⟩; have hsz := hba.size; (try simp at hsz); (first | (have hbl := blater2 HA (by first | exact Nat.le_refl _ | (simp; done) | (simp; omega)) hba; obtain ⟨hcc, hff, HA, hne, hne'⟩ := hbl) | (obtain ⟨hcc, hff, HA, hne, hne'⟩ := blater1 hba)); (try simp only [World.size_alloc, World.size_setCell] at HA)))
      go_light
      refine bodyPost_ret (v := .bool true) (by simp [results, Tryd.results6, go_sem, *]) rfl ⟨rfl, ?_⟩
      repeat' (first | with_reducible exact Below.refl _ _ | with_reducible refine Below.drew ?_ | with_reducible refine below_drewN ?_ _ | with_reducible refine Below.alloc ?_ (by first | omega | (simp <;> omega)) _ | with_reducible refine Below.setCell ?_ (by first | omega | (dsimp only; omega) | (simp <;> omega)) _ | with_reducible refine Below.trans ?_ (Below.mono (by assumption) (by first | omega | (simp <;> omega))))
end Go.Proofs.YtmblpmaelglnpaaDoor
