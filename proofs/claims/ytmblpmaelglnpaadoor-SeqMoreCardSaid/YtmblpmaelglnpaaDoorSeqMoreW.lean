/-
  SeqMore: the statement's function, walked.
-/
import Derived.Test.YtmblpmaelglnpaaDoorRows
import Derived.Test.YtmblpmaelglnpaaDoorSeqLaw1
import Derived.Test.YtmblpmaelglnpaaDoorSeqMorePlain
import Derived.Test.YtmblpmaelglnpaaDoorSeqNeeds
import Derived.Test.YtmblpmaelglnpaaDoorAnyInv
import Derived.Test.YtmblpmaelglnpaaDoorGBase
import Derived.Deep.Light
import Derived.Shelf.Abstract
import Derived.Shelf.RegionOpen
import Derived.OwnWalkIn
import Derived.TacticsInMore
import Derived.LoopNIn
import Derived.LoopIn
import Derived.Deep.RegionHeld3
import Derived.Maps.OwnIn
import Derived.Outline
import Derived.IntWalk
import Derived.WalkMore
import Derived.Laws.BytesArg
namespace Go.Proofs.YtmblpmaelglnpaaDoor
open Go.RowKit
set_option linter.unusedSimpArgs false
set_option linter.unusedVariables false
open Go.Shelf
attribute [local go_sem] eq23 Oper.semAt_some

theorem keep_cell {B : Nat} {w w' : World} {p : Addr} {v : Value} (h : w.cell? p = some v) (hb : Below B w w') (hB : w.heap.size ≤ B := by exact Nat.le_refl _) : w'.cell? p = some v := (hb.cell (Nat.lt_of_lt_of_le (World.block_lt_of_cell? w p h) hB)).trans h
theorem wpAny_fuel {P : Program} {md : Region.Mode} {ops : Array Oper} {Q : Exit → Act → World → Prop} {m n : Nat} {listed : Array Bool} {a : Act} {w : World} (h : m = n) (h2 : wpAny P md ops Q n listed a w) : wpAny P md ops Q m listed a w := h ▸ h2
/-- The frame with five slots filled. -/
def pt9 (A0 : Act) (v2 v4 v5 v7 v13 : Value) : Act := { A0 with tmps := ((((A0.tmps.setIfInBounds 83 v2).setIfInBounds 85 v4).setIfInBounds 86 v5).setIfInBounds 88 v7).setIfInBounds 20 v13 }
theorem rowQ_cells {w : World} {B : Nat} {x y z : Int} (h0 : w.cell? ⟨B, 0, none⟩ = some (.int .i64 x)) (h1 : w.cell? ⟨B, 1, none⟩ = some (.int .i64 y)) (h2 : w.cell? ⟨B, 2, none⟩ = some (.int .i64 z)) : RowQ w (some ⟨B, 0, none⟩) [(x, y, z)] := by
  refine .inr ⟨B, 0, rfl, World.block_lt_of_cell? w ⟨B, 0, none⟩ h0, fun i hi => ?_⟩
  obtain rfl : i = 0 := by simpa using hi
  exact ⟨h0, h1, h2⟩
theorem conv_one (w : World) (B : Nat) (b : UInt8) (h : w.cell? ⟨B, 0, none⟩ = some (.int .u8 (b.toNat : Int))) : (convert 36 9 (.slice (some ⟨B, 0, none⟩) 1 1)).run Tryd.prog w = .ok (.string ⟨#[b]⟩) w := by
  have := run_convert_bytes_arg (P := Tryd.prog) w 36 5 Tryd.underlying36 Tryd.underlying5 B 0 1 1 [(b.toNat : Int)] (by simp) (fun i hi => by
    have : i = 0 := by simpa using hi
    subst this
    exact h) 9 Tryd.underlying9
  rw [this]
  have e : strOfNums [(b.toNat : Int)] = ⟨#[b]⟩ := strOfNums_reps 1 b
  rw [e]

set_option maxRecDepth 100000 in
set_option maxHeartbeats 8000000 in
theorem seqMore_1 (pq : Option Addr) (qs : List (Int × Int × Int)) (cq : Nat) (lits before more : ByteArray) (b : UInt8) (n : Int) (w : World) (hq : RowQ w pq qs) (hm : qs.length ≤ 9223372036854775807) (hl : lits.size ≤ 9223372036854775807) (hbf : before.size ≤ 9223372036854775807) (hmo : more.size ≤ 9223372036854775807) (hg : w.cell? ⟨0, 0, none⟩ = some (.iface 165 (.agg #[.pointer (some ⟨9, 74, none⟩)]))) (h1 : lightB qs = true) (h2 : ¬ 300 < lits.size) (h3 : ¬ 300 < before.size) (h4 : ¬ 100 < more.size)  :
    Calls Tryd.prog 4 #[.slice pq qs.length cq, .string lits, .string before, .string more, .int .u8 (b.toNat : Int), .int .i64 n] w fun e w' => e = .returned (.bool true) ∧ Below w.heap.size w w' := by
  have hl0 : 0 < w.heap.size := World.block_lt_of_cell? w ⟨0, 0, none⟩ hg
  have qL := fun w h => light_p pq qs cq w h hm
  rw [h1] at qL
  have e2 : decide ((300 : Int) < (lits.size : Int)) = false := by simp; omega
  have e3 : decide ((300 : Int) < (before.size : Int)) = false := by simp; omega
  have e4 : decide ((100 : Int) < (more.size : Int)) = false := by simp; omega
  have qP1 := fun w h hg => pexec_p pq qs cq lits before 1 4 8 1048576 w h hm hl hbf hg
  have qP2 := fun w h hg (h0 : (Rexec qs lits before 1 4 8 1048576).2.2 = 0) => pexec_p pq qs cq lits (more ++ before) 1 4 8 1048576 w h hm hl (by rw [ByteArray.size_append]; omega) hg
  have qE := fun (h0 : (Rexec qs lits before 1 4 8 1048576).2.2 = 0) => rexec_more (more := more) h0 (by omega)
  generalize Rexec qs lits before 1 4 8 1048576 = R at qP1 qP2 qE
  obtain ⟨out, ⟨x, y, z⟩, er⟩ := R
  have HP2 := Lib.hid (And.intro qP2 qE)
  clear qP2 qE
  obtain ⟨k, hk, hk2⟩ : ∃ k : Nat, n % 100 = (k : Int) ∧ k < 100 := ⟨(n % 100).toNat, by omega, by omega⟩
  have qM := fun w => modK n 100 (by omega) (by omega) w
  rw [hk] at qM
  have hw3 : IntKind.i64.wrap (3 + (k : Int)) = 3 + (k : Int) := IntWalk.i64_in _ (by omega)
  have hw4 : IntKind.i64.wrap (3 + (k : Int) + 1) = 3 + (k : Int) + 1 := IntWalk.i64_in _ (by omega)
  have hl1 : ((⟨#[b]⟩ : ByteArray).size) = 1 := rfl
  have qP3 := fun w pa h hg => pexec_p pa [(1, 3 + (k : Int), 4)] 1 ⟨#[b]⟩ before 1 4 8 1 w h (by simp) (by rw [hl1]; decide) hbf hg
  have hrun := rexec_run before b (3 + k) (by omega) (by omega) (by omega)
  rw [show ((3 + k : Nat) : Int) = 3 + (k : Int) by omega] at hrun
  rw [hrun] at qP3
  have qN := fun w => next_r 1 4 8 4 1 w
  rw [rask_148] at qN
  dsimp only at qP1 qP3 qN
  obtain ⟨S, hS⟩ : ∃ S : ByteArray, (⟨Array.replicate (3 + k + 1) b⟩ : ByteArray) = S := ⟨_, rfl⟩
  have hSs : S.size = 3 + k + 1 := by rw [← hS]; simp [ByteArray.size]
  have hSb : ∀ i, (h : i < S.size) → (S[i]'h).toNat = b.toNat := by
    intro i h
    subst hS
    have : (⟨Array.replicate (3 + k + 1) b⟩ : ByteArray)[i]'h = b := by
      show (Array.replicate (3 + k + 1) b)[i]'_ = b
      simp
    rw [this]
  rw [hS] at qP3
  have hcv := fun (W : World) (B : Nat) h => conv_one W B b h
  generalize (⟨#[b]⟩ : ByteArray) = sb at hcv qP3 hl1
  obtain ⟨c, hc⟩ : ∃ c : Nat, b.toNat = c := ⟨_, rfl⟩
  rw [hc] at hcv hSb ⊢
  have HSB := Lib.hid hSb
  clear hk hrun hS h1 hm hl hSb hc
  go_enter Tryd.func4, Tryd.ntmps4
  go_upto_if 53 with (first | (go_at_call 16; refine (awake_p20 _ (by refine ((show Below w.heap.size w _ by repeat' (first | with_reducible exact Below.refl _ _ | with_reducible refine Below.drew ?_ | with_reducible refine below_drewN ?_ _ | with_reducible refine Below.alloc ?_ (by first | omega | (simp <;> omega)) _ | with_reducible refine Below.setCell ?_ (by first | omega | (dsimp only; omega) | (simp <;> omega)) _ | with_reducible refine Below.trans ?_ (Below.mono (by assumption) (by first | omega | (simp <;> omega))))).cell (p := ⟨0, 0, none⟩) hl0).trans hg)).mono ?_; rintro en wa ⟨rfl, hba⟩; have hsz := hba.size; (try simp at hsz); (first | (have hbl := blater2 HA (by first | exact Nat.le_refl _ | (simp; done) | (simp; omega)) hba; obtain ⟨hcc, hff, HA, hne, hne'⟩ := hbl) | (obtain ⟨hcc, hff, HA, hne, hne'⟩ := blater1 hba)); (try simp only [World.size_alloc, World.size_setCell] at HA)) | (go_at_call 15; refine (qL _ (hq.later (by repeat' (first | with_reducible exact Below.refl _ _ | with_reducible refine Below.drew ?_ | with_reducible refine below_drewN ?_ _ | with_reducible refine Below.alloc ?_ (by first | omega | (simp <;> omega)) _ | with_reducible refine Below.setCell ?_ (by first | omega | (dsimp only; omega) | (simp <;> omega)) _ | with_reducible refine Below.trans ?_ (Below.mono (by assumption) (by first | omega | (simp <;> omega))))))).mono ?_; rintro en wl ⟨rfl, hbl⟩; have hsl := hbl.size) | (go_at_call 20; refine (first_s20 _).mono ?_; rintro en wg ⟨rfl, hbg⟩; have hsg := hbg.size; have g0 : wg.cell? ⟨BY, 0, none⟩ = some (.int .i64 (1)) := (hbg.cell (p := ⟨BY, 0, none⟩) (by dsimp only; omega)).trans y0; have g1 : wg.cell? ⟨BY, 1, none⟩ = some (.int .i64 (1)) := (hbg.cell (p := ⟨BY, 1, none⟩) (by dsimp only; omega)).trans y1; have g2 : wg.cell? ⟨BY, 2, none⟩ = some (.int .i64 (4)) := (hbg.cell (p := ⟨BY, 2, none⟩) (by dsimp only; omega)).trans y2) | (go_at_call 20; refine (first_s20 _).mono ?_; rintro en wf ⟨rfl, hbf'⟩; have hsf := hbf'.size; have f0 : wf.cell? ⟨BX, 0, none⟩ = some (.int .i64 (x)) := (hbf'.cell (p := ⟨BX, 0, none⟩) lX).trans x0; have f1 : wf.cell? ⟨BX, 1, none⟩ = some (.int .i64 (y)) := (hbf'.cell (p := ⟨BX, 1, none⟩) lX).trans x1; have f2 : wf.cell? ⟨BX, 2, none⟩ = some (.int .i64 (z)) := (hbf'.cell (p := ⟨BX, 2, none⟩) lX).trans x2) | (go_at_call 20; refine (first_s20 _).mono ?_; rintro en w1 ⟨rfl, hb1⟩; have hs1 := hb1.size) | (go_at_call 17; (with_reducible refine (qP1 _ (hq.later ?_) ?_).mono ?_); (case refine_1 => (repeat' (first | with_reducible exact Below.refl _ _ | with_reducible refine Below.drew ?_ | with_reducible refine below_drewN ?_ _ | with_reducible refine Below.alloc ?_ (by first | omega | (simp <;> omega)) _ | with_reducible refine Below.setCell ?_ (by first | omega | (dsimp only; omega) | (simp <;> omega)) _ | with_reducible refine Below.trans ?_ (Below.mono (by assumption) (by first | omega | (simp <;> omega)))))); (case refine_2 => (refine ((show Below w.heap.size w _ by repeat' (first | with_reducible exact Below.refl _ _ | with_reducible refine Below.drew ?_ | with_reducible refine below_drewN ?_ _ | with_reducible refine Below.alloc ?_ (by first | omega | (simp <;> omega)) _ | with_reducible refine Below.setCell ?_ (by first | omega | (dsimp only; omega) | (simp <;> omega)) _ | with_reducible refine Below.trans ?_ (Below.mono (by assumption) (by first | omega | (simp <;> omega))))).cell (p := ⟨0, 0, none⟩) hl0).trans hg)); rintro en w2 ⟨rfl, hb2⟩; have hs2 := hb2.size) | (go_at_call 17; (with_reducible refine (qP4 _ (hq.later ?_) ?_).mono ?_); (case refine_1 => (repeat' (first | with_reducible exact Below.refl _ _ | with_reducible refine Below.drew ?_ | with_reducible refine below_drewN ?_ _ | with_reducible refine Below.alloc ?_ (by first | omega | (simp <;> omega)) _ | with_reducible refine Below.setCell ?_ (by first | omega | (dsimp only; omega) | (simp <;> omega)) _ | with_reducible refine Below.trans ?_ (Below.mono (by assumption) (by first | omega | (simp <;> omega)))))); (case refine_2 => (refine ((show Below w.heap.size w _ by repeat' (first | with_reducible exact Below.refl _ _ | with_reducible refine Below.drew ?_ | with_reducible refine below_drewN ?_ _ | with_reducible refine Below.alloc ?_ (by first | omega | (simp <;> omega)) _ | with_reducible refine Below.setCell ?_ (by first | omega | (dsimp only; omega) | (simp <;> omega)) _ | with_reducible refine Below.trans ?_ (Below.mono (by assumption) (by first | omega | (simp <;> omega))))).cell (p := ⟨0, 0, none⟩) hl0).trans hg)); rintro en w3 ⟨rfl, hb3⟩; have hs3 := hb3.size; have e0 : w3.cell? ⟨BX, 0, none⟩ = some (.int .i64 (x)) := (hb3.cell (p := ⟨BX, 0, none⟩) (by dsimp only; omega)).trans f0; have e1 : w3.cell? ⟨BX, 1, none⟩ = some (.int .i64 (y)) := (hb3.cell (p := ⟨BX, 1, none⟩) (by dsimp only; omega)).trans f1; have e2 : w3.cell? ⟨BX, 2, none⟩ = some (.int .i64 (z)) := (hb3.cell (p := ⟨BX, 2, none⟩) (by dsimp only; omega)).trans f2; have eV : BX < w3.heap.size := (by omega); have eV2 : ¬ BX = w3.heap.size := (by omega)) | (go_at_call 21; refine (qM _).mono ?_; rintro en w4 ⟨rfl, hb4⟩; have hs4 := hb4.size) | (go_at_call 22; refine (qN _).mono ?_; rintro en wn ⟨rfl, hbn⟩; have hsn := hbn.size; have n0 : wn.cell? ⟨BY, 0, none⟩ = some (.int .i64 (1)) := (hbn.cell (p := ⟨BY, 0, none⟩) (by dsimp only; omega)).trans g0; have n1 : wn.cell? ⟨BY, 1, none⟩ = some (.int .i64 (1)) := (hbn.cell (p := ⟨BY, 1, none⟩) (by dsimp only; omega)).trans g1; have n2 : wn.cell? ⟨BY, 2, none⟩ = some (.int .i64 (4)) := (hbn.cell (p := ⟨BY, 2, none⟩) (by dsimp only; omega)).trans g2; have eN : BY < wn.heap.size := (by omega); have eN2 : ¬ BY = wn.heap.size := (by omega)))
  obtain ⟨W3, hW3⟩ : ∃ W3, w2.alloc (.cells #[.int .i64 x, .int .i64 y, .int .i64 z] 24) = W3 := ⟨_, rfl⟩
  have B3 : Below w.heap.size w W3 := by rw [← hW3]; repeat' (first | with_reducible exact Below.refl _ _ | with_reducible refine Below.drew ?_ | with_reducible refine below_drewN ?_ _ | with_reducible refine Below.alloc ?_ (by first | omega | (simp <;> omega)) _ | with_reducible refine Below.setCell ?_ (by first | omega | (dsimp only; omega) | (simp <;> omega)) _ | with_reducible refine Below.trans ?_ (Below.mono (by assumption) (by first | omega | (simp <;> omega))))
  obtain ⟨BX, hBX⟩ : ∃ x, w2.heap.size = x := ⟨_, rfl⟩
  have x0 : W3.cell? ⟨w2.heap.size, 0, none⟩ = some (.int .i64 x) := by rw [← hW3]; simp [go_sem]
  have x1 : W3.cell? ⟨w2.heap.size, 1, none⟩ = some (.int .i64 y) := by rw [← hW3]; simp [go_sem]
  have x2 : W3.cell? ⟨w2.heap.size, 2, none⟩ = some (.int .i64 z) := by rw [← hW3]; simp [go_sem]
  rw [hBX] at x0 x1 x2 ⊢
  rw [hW3]
  have hB3s := B3.size
  have lX := World.block_lt_of_cell? W3 ⟨BX, 0, none⟩ x0
  dsimp only at lX
  clear hW3 hBX hb2 hb1 hbl hs1 hs2 hsl
  go_cut [16, 17, 18] from 54 to 76 (fun s16 s17 s18 wx => Below W3.heap.size W3 wx)
  case first =>
    by_cases he : er = 0
    · subst he
      have qP4 := fun w h hg => HP2.out.1 w h hg rfl
      have qE4 := HP2.out.2 rfl
      rw [qE4] at qP4
      dsimp only at qP4
      clear qE4 HP2
      have hcat : ∀ X, (Op.stringOp .add more before).run Tryd.prog X = .ok (.string (more ++ before)) X := fun X => run_string_add_sum X _ _ (by omega)
      go_wp2_with (first | (go_at_call 20; refine (first_s20 _).mono ?_; rintro en wf ⟨rfl, hbf'⟩; have hsf := hbf'.size; have f0 : wf.cell? ⟨BX, 0, none⟩ = some (.int .i64 (x)) := (hbf'.cell (p := ⟨BX, 0, none⟩) lX).trans x0; have f1 : wf.cell? ⟨BX, 1, none⟩ = some (.int .i64 (y)) := (hbf'.cell (p := ⟨BX, 1, none⟩) lX).trans x1; have f2 : wf.cell? ⟨BX, 2, none⟩ = some (.int .i64 (z)) := (hbf'.cell (p := ⟨BX, 2, none⟩) lX).trans x2) | (go_at_call 17; (with_reducible refine (qP4 _ (hq.later ?_) ?_).mono ?_); (case refine_1 => (repeat' (first | with_reducible exact Below.refl _ _ | with_reducible refine Below.drew ?_ | with_reducible refine below_drewN ?_ _ | with_reducible refine Below.alloc ?_ (by first | omega | (simp <;> omega)) _ | with_reducible refine Below.setCell ?_ (by first | omega | (dsimp only; omega) | (simp <;> omega)) _ | with_reducible refine Below.trans ?_ (Below.mono (by assumption) (by first | omega | (simp <;> omega)))))); (case refine_2 => (refine ((show Below w.heap.size w _ by repeat' (first | with_reducible exact Below.refl _ _ | with_reducible refine Below.drew ?_ | with_reducible refine below_drewN ?_ _ | with_reducible refine Below.alloc ?_ (by first | omega | (simp <;> omega)) _ | with_reducible refine Below.setCell ?_ (by first | omega | (dsimp only; omega) | (simp <;> omega)) _ | with_reducible refine Below.trans ?_ (Below.mono (by assumption) (by first | omega | (simp <;> omega))))).cell (p := ⟨0, 0, none⟩) hl0).trans hg)); rintro en w3 ⟨rfl, hb3⟩; have hs3 := hb3.size; have e0 : w3.cell? ⟨BX, 0, none⟩ = some (.int .i64 (x)) := (hb3.cell (p := ⟨BX, 0, none⟩) (by dsimp only; omega)).trans f0; have e1 : w3.cell? ⟨BX, 1, none⟩ = some (.int .i64 (y)) := (hb3.cell (p := ⟨BX, 1, none⟩) (by dsimp only; omega)).trans f1; have e2 : w3.cell? ⟨BX, 2, none⟩ = some (.int .i64 (z)) := (hb3.cell (p := ⟨BX, 2, none⟩) (by dsimp only; omega)).trans f2; have eV : BX < w3.heap.size := (by omega); have eV2 : ¬ BX = w3.heap.size := (by omega)))
      go_meet
      go_light
      repeat' (first | with_reducible exact Below.refl _ _ | with_reducible refine Below.drew ?_ | with_reducible refine below_drewN ?_ _ | with_reducible refine Below.alloc ?_ (by first | omega | (simp <;> omega)) _ | with_reducible refine Below.setCell ?_ (by first | omega | (dsimp only; omega) | (simp <;> omega)) _ | with_reducible refine Below.trans ?_ (Below.mono (by assumption) (by first | omega | (simp <;> omega))))
    · have d1 : (er == 0) = false := by simpa using he
      go_wp2
      go_meet
      exact Below.refl _ _
  case rest =>
  have B4 : Below w.heap.size w wc := B3.trans (hcut.mono B3.size)
  clear hcut x0 x1 x2 lX B3 qP1 HP2
  go_wp2_with ((go_at_call 21; refine (qM _).mono ?_; rintro en w4 ⟨rfl, hb4⟩; have hs4 := hb4.size))
  have B4 : Below w.heap.size w w4 := B4.trans (hb4.mono B4.size)
  have hg4 : w4.cell? ⟨0, 0, none⟩ = some (.iface 165 (.agg #[.pointer (some ⟨9, 74, none⟩)])) := (B4.cell (p := ⟨0, 0, none⟩) hl0).trans hg
  have hl4 : 0 < w4.heap.size := by have := B4.size; omega
  (try clear hbl); (try clear hb1); (try clear hb2); (try clear hb4); (try clear hb3); (try clear hbf'); (try clear qL qP1 qM); (try clear qP2); (try clear e0 e1 e2 f0 f1 f2); (try clear hsf hs3 eV eV2); (try clear hs1); (try clear hs2); (try clear hsl)
  go_cut [19, 20, 21] (fun s19 s20 s21 wx => ∃ BY : Nat, s19 = .string S ∧ s20 = .pointer (some ⟨BY, 0, none⟩) ∧ s21 = .int .i64 0 ∧ wx.cell? ⟨BY, 0, none⟩ = some (.int .i64 1) ∧ wx.cell? ⟨BY, 1, none⟩ = some (.int .i64 1) ∧ wx.cell? ⟨BY, 2, none⟩ = some (.int .i64 4) ∧ BY < wx.heap.size ∧ Below w4.heap.size w4 wx)
  case first =>
    refine wp_region_any (by kernel_rfl) ?_
    change wpAny _ _ _ _ _ _ _ (World.drew w4)
    refine wpAny_take (i := 0) (v := ?_) rfl (by kernel_rfl) (by kernel_rfl) (by kernel_rfl) (fun _ _ _ h => h) (Or.inl ⟨by rfl, ?_⟩) ?_
    rotate_left
    · (intro w; go_simp) <;> with_reducible rfl
    refine wpAny_take (i := 1) (v := ?_) rfl (by kernel_rfl) (by kernel_rfl) (by kernel_rfl) (fun _ _ _ h => h) (Or.inl ⟨by rfl, ?_⟩) ?_
    rotate_left
    · (intro w; go_simp) <;> with_reducible rfl
    refine wpAny_take (i := 3) (v := ?_) rfl (by kernel_rfl) (by kernel_rfl) (by kernel_rfl) (fun _ _ _ h => h) (Or.inl ⟨by rfl, ?_⟩) ?_
    rotate_left
    · (intro w; go_simp) <;> with_reducible rfl
    refine wpAny_take (i := 6) (v := ?_) rfl (by kernel_rfl) (by kernel_rfl) (by kernel_rfl) (fun _ _ _ h => h) (Or.inl ⟨by rfl, ?_⟩) ?_
    rotate_left
    · (intro w; go_simp) <;> with_reducible rfl
    refine wpAny_inv0 (fun A0 listed a w' => ∃ (b2 b4 b5 b7 b13 : Bool) (v2 v4 v5 v7 v13 : Value) (A2 A4 A13 : Nat), listed = #[true, true, b2, true, b4, b5, true, b7, false, false, false, false, false, b13, false, false, false] ∧ (b5 = true → b4 = true) ∧ a = pt9 A0 v2 v4 v5 v7 v13 ∧ Below w4.heap.size w4 w' ∧
      (b2 = true → v2 = .slice (some ⟨A2, 0, none⟩) 1 1 ∧ w'.cell? ⟨A2, 0, none⟩ = some (.int .i64 1) ∧ w'.cell? ⟨A2, 1, none⟩ = some (.int .i64 (3 + (k : Int))) ∧ w'.cell? ⟨A2, 2, none⟩ = some (.int .i64 4)) ∧
      (b4 = true → v4 = .slice (some ⟨A4, 0, none⟩) 1 1 ∧ w'.cell? ⟨A4, 0, none⟩ = some (.int .u8 (c : Int))) ∧ (b5 = true → v5 = .string sb) ∧ (b7 = true → v7 = .agg #[.int .i64 1, .int .i64 4, .int .i64 8]) ∧
      (b13 = true → v13 = .pointer (some ⟨A13, 0, none⟩) ∧ w4.heap.size ≤ A13 ∧ w'.heap[A13]? = some (.cells #[.int .i64 0, .int .i64 0, .int .i64 0] 24 (0, 0)))) (by decide +kernel) ?_ ?_
    · exact ⟨false, false, false, false, false, undef, undef, undef, undef, undef, 0, 0, 0, by decide +kernel, by simp, by simp [pt9, Act.put], by repeat' (first | with_reducible exact Below.refl _ _ | with_reducible refine Below.drew ?_ | with_reducible refine below_drewN ?_ _ | with_reducible refine Below.alloc ?_ (by first | omega | (simp <;> omega)) _ | with_reducible refine Below.setCell ?_ (by first | omega | (dsimp only; omega) | (simp <;> omega)) _ | with_reducible refine Below.trans ?_ (Below.mono (by assumption) (by first | omega | (simp <;> omega)))), by simp, by simp, by simp, by simp, by simp⟩
    · rintro listed a w' ⟨b2, b4, b5, b7, b13, v2, v4, v5, v7, v13, A2, A4, A13, rfl, h54, rfl, hB, hv2, hv4, hv5, hv7, hv13⟩
      refine ⟨?_, fun i hi => ?_⟩
      · clear hv2 hv4 hv5 hv7 hv13
        revert h54
        cases b2 <;> cases b4 <;> cases b5 <;> cases b7 <;> cases b13 <;> decide +kernel
      · have hi2 : i = 2 ∧ b2 = false ∨ i = 4 ∧ b4 = false ∨ i = 5 ∧ b5 = false ∧ b4 = true ∨ i = 7 ∧ b7 = false ∨ i = 13 ∧ b13 = false ∨ i = 8 ∧ b2 = true ∧ b4 = true ∧ b5 = true ∧ b7 = true := by
          clear hv2 hv4 hv5 hv7 hv13
          revert hi
          revert i
          revert h54
          cases b2 <;> cases b4 <;> cases b5 <;> cases b7 <;> cases b13 <;> decide +kernel
        clear hi
        have hbs := hB.size
        unfold pt9
        rcases hi2 with ⟨rfl, rfl⟩ | ⟨rfl, rfl⟩ | ⟨rfl, rfl, rfl⟩ | ⟨rfl, rfl⟩ | ⟨rfl, rfl⟩ | ⟨rfl, rfl, rfl, rfl, rfl⟩
        · refine step_of rfl (fun K hK => ?_)
          go_simp
          have hN : Below w'.heap.size w' (w'.alloc (.cells #[.int .i64 1, .int .i64 (3 + (k : Int)), .int .i64 4] 35)) := (Below.refl _ w').alloc (Nat.le_refl _) _
          exact hK _ _ (Or.inl ⟨true, b4, b5, b7, b13, .slice (some ⟨w'.heap.size, 0, none⟩) 1 1, v4, v5, v7, v13, w'.heap.size, A4, A13, by simp, h54, by simp [pt9, Act.put], hB.trans (hN.mono hbs), fun _ => ⟨rfl, by simp [go_sem], by simp [go_sem], by simp [go_sem]⟩, fun h => ⟨(hv4 h).1, keep_cell (hv4 h).2 hN⟩, hv5, hv7, fun h => ⟨(hv13 h).1, (hv13 h).2.1, (hN.block A13 (Array.getElem?_eq_some_iff.1 (hv13 h).2.2).1).trans (hv13 h).2.2⟩⟩)
        · refine step_of rfl (fun K hK => ?_)
          go_simp
          have hN : Below w'.heap.size w' (w'.alloc (.cells #[.int .u8 (c : Int)] 5)) := (Below.refl _ w').alloc (Nat.le_refl _) _
          exact hK _ _ (Or.inl ⟨b2, true, b5, b7, b13, v2, .slice (some ⟨w'.heap.size, 0, none⟩) 1 1, v5, v7, v13, A2, w'.heap.size, A13, by simp, fun _ => rfl, by simp [pt9, Act.put], hB.trans (hN.mono hbs), fun h => ⟨(hv2 h).1, keep_cell (hv2 h).2.1 hN, keep_cell (hv2 h).2.2.1 hN, keep_cell (hv2 h).2.2.2 hN⟩, fun _ => ⟨rfl, by simp [go_sem]⟩, hv5, hv7, fun h => ⟨(hv13 h).1, (hv13 h).2.1, (hN.block A13 (Array.getElem?_eq_some_iff.1 (hv13 h).2.2).1).trans (hv13 h).2.2⟩⟩)
        · refine step_of rfl (fun K hK => ?_)
          have h4 := hv4 rfl
          have e4 := h4.1
          have hcv2 := hcv w' A4 h4.2
          have HV4 := Lib.hid h4
          clear hcv h4 hv4
          go_simp
          exact hK _ _ (Or.inl ⟨b2, true, true, b7, b13, v2, .slice (some ⟨A4, 0, none⟩) 1 1, .string sb, v7, v13, A2, A4, A13, by simp, fun _ => rfl, by simp [pt9, Act.put], hB, hv2, fun _ => ⟨rfl, HV4.out.2⟩, fun _ => rfl, hv7, hv13⟩)
        · refine step_of rfl (fun K hK => ?_)
          go_simp
          refine (first_s20 _).mono ?_
          rintro en w5 ⟨rfl, hN⟩
          go_simp
          exact hK _ _ (Or.inl ⟨b2, b4, b5, true, b13, v2, v4, v5, .agg #[.int .i64 1, .int .i64 4, .int .i64 8], v13, A2, A4, A13, by simp, h54, by simp [pt9, Act.put], hB.trans (hN.mono hbs), fun h => ⟨(hv2 h).1, keep_cell (hv2 h).2.1 hN, keep_cell (hv2 h).2.2.1 hN, keep_cell (hv2 h).2.2.2 hN⟩, fun h => ⟨(hv4 h).1, keep_cell (hv4 h).2 hN⟩, hv5, fun _ => rfl, fun h => ⟨(hv13 h).1, (hv13 h).2.1, (hN.block A13 (Array.getElem?_eq_some_iff.1 (hv13 h).2.2).1).trans (hv13 h).2.2⟩⟩)
        · refine step_of rfl (fun K hK => ?_)
          go_simp
          have hN : Below w'.heap.size w' (w'.alloc (.cells #[.int .i64 0, .int .i64 0, .int .i64 0] 24)) := (Below.refl _ w').alloc (Nat.le_refl _) _
          exact hK _ _ (Or.inl ⟨b2, b4, b5, b7, true, v2, v4, v5, v7, .pointer (some ⟨w'.heap.size, 0, none⟩), A2, A4, w'.heap.size, by simp, h54, by simp [pt9, Act.put], hB.trans (hN.mono hbs), fun h => ⟨(hv2 h).1, keep_cell (hv2 h).2.1 hN, keep_cell (hv2 h).2.2.1 hN, keep_cell (hv2 h).2.2.2 hN⟩, fun h => ⟨(hv4 h).1, keep_cell (hv4 h).2 hN⟩, hv5, hv7, fun _ => ⟨rfl, hbs, heap_alloc_new _ _⟩⟩)
        · refine step_of rfl (fun K hK => ?_)
          have h2 := hv2 rfl
          have e2 := h2.1
          have e5 := hv5 rfl
          have e7 := hv7 rfl
          have H2 := Lib.hid h2.2
          clear hv2 hv4 hv5 hv7 h2
          have hg5 : w'.cell? ⟨0, 0, none⟩ = some (.iface 165 (.agg #[.pointer (some ⟨9, 74, none⟩)])) := keep_cell hg4 hB
          go_simp
          refine (qP3 _ _ (rowQ_cells H2.out.1 H2.out.2.1 H2.out.2.2) hg5).mono ?_
          rintro en w6 ⟨rfl, hN⟩
          have hB6 := hB.trans (hN.mono hbs)
          have hbs6 := hB6.size
          have h13 : b13 = true → v13 = .pointer (some ⟨A13, 0, none⟩) ∧ w4.heap.size ≤ A13 ∧ w6.heap[A13]? = some (.cells #[.int .i64 0, .int .i64 0, .int .i64 0] 24 (0, 0)) := fun h => ⟨(hv13 h).1, (hv13 h).2.1, (hN.block A13 (Array.getElem?_eq_some_iff.1 (hv13 h).2.2).1).trans (hv13 h).2.2⟩
          clear hv13 hcv hg4 hg5 hB hN hbs qP3 H2
          go_simp
          refine hK _ _ (Or.inr ?_)
          clear hK K
          cases b13
          · refine wpAny_fuel (n := 8) (by decide +kernel) ?_
            clear h13
            refine wpAny_take (i := 9) (v := ?_) rfl (by kernel_rfl) (by kernel_rfl) (by kernel_rfl) (fun _ _ _ h => h) (Or.inl ⟨by rfl, ?_⟩) ?_
            rotate_left
            · (intro w; go_simp) <;> with_reducible rfl
            refine wpAny_take (i := 10) (v := ?_) rfl (by kernel_rfl) (by kernel_rfl) (by kernel_rfl) (fun _ _ _ h => h) (Or.inl ⟨by rfl, ?_⟩) ?_
            rotate_left
            · (intro w; go_simp) <;> with_reducible rfl
            refine wpAny_take (i := 11) (v := ?_) rfl (by kernel_rfl) (by kernel_rfl) (by kernel_rfl) (fun _ _ _ h => h) (Or.inl ⟨by rfl, ?_⟩) ?_
            rotate_left
            · (intro w; go_simp) <;> with_reducible rfl
            refine wpAny_take (i := 12) (v := ?_) rfl (by kernel_rfl) (by kernel_rfl) (by kernel_rfl) (fun _ _ _ h => h) (Or.inl ⟨by rfl, ?_⟩) ?_
            rotate_left
            · (intro w; go_simp) <;> with_reducible rfl
            refine wpAny_ready (rs := [13]) (by kernel_rfl) (by simp) ?_
            refine AllReady.cons rfl (fun K hK => ?_) AllReady.nil
            go_simp
            refine hK _ _ ?_
            clear hK K
            refine wpAny_take (i := 14) (v := ?_) rfl (by kernel_rfl) (by kernel_rfl) (by kernel_rfl) (fun _ _ _ h => h) (Or.inl ⟨by rfl, ?_⟩) ?_
            rotate_left
            · (intro w; go_simp) <;> with_reducible rfl
            refine wpAny_ready (rs := [15]) (by kernel_rfl) (by simp) ?_
            refine AllReady.cons rfl (fun K hK => ?_) AllReady.nil
            go_simp
            refine hK _ _ ?_
            clear hK K
            refine wpAny_take (i := 16) (v := ?_) rfl (by kernel_rfl) (by kernel_rfl) (by kernel_rfl) (fun _ _ _ h => h) (Or.inl ⟨by rfl, ?_⟩) ?_
            rotate_left
            · (intro w; go_simp) <;> with_reducible rfl
            refine wpAny_done (by kernel_rfl) ?_ _
            go_wp2_with fail
            go_meet
            go_light
            refine ⟨w6.heap.size, rfl, rfl, rfl, by simp [go_sem], by simp [go_sem], by simp [go_sem], by simp, ?_⟩
            repeat' (first | with_reducible exact Below.refl _ _ | with_reducible refine Below.drew ?_ | with_reducible refine below_drewN ?_ _ | with_reducible refine Below.alloc ?_ (by first | omega | (simp <;> omega)) _ | with_reducible refine Below.setCell ?_ (by first | omega | (dsimp only; omega) | (simp <;> omega)) _ | with_reducible refine Below.trans ?_ (Below.mono (by assumption) (by first | omega | (simp <;> omega))))
          · refine wpAny_fuel (n := 7) (by decide +kernel) ?_
            have h14 := h13 rfl
            have e13 := h14.1
            have hA3 := h14.2.1
            have hA4 := h14.2.2
            have z0 : w6.cell? ⟨A13, 0, none⟩ = some (.int .i64 0) := by simp [World.cell?, hA4]
            have z1 : w6.cell? ⟨A13, 1, none⟩ = some (.int .i64 0) := by simp [World.cell?, hA4]
            have z2 : w6.cell? ⟨A13, 2, none⟩ = some (.int .i64 0) := by simp [World.cell?, hA4]
            have zf : w6.frozen? ⟨A13, 0, none⟩ = false := by simp [World.frozen?, hA4]
            have zf1 : w6.frozen? ⟨A13, 1, none⟩ = false := by simp [World.frozen?, hA4]
            have zf2 : w6.frozen? ⟨A13, 2, none⟩ = false := by simp [World.frozen?, hA4]
            have zl : A13 < w6.heap.size := (Array.getElem?_eq_some_iff.1 hA4).1
            clear h13 h14 hA4
            refine wpAny_take (i := 9) (v := ?_) rfl (by kernel_rfl) (by kernel_rfl) (by kernel_rfl) (fun _ _ _ h => h) (Or.inl ⟨by rfl, ?_⟩) ?_
            rotate_left
            · (intro w; go_simp) <;> with_reducible rfl
            refine wpAny_take (i := 10) (v := ?_) rfl (by kernel_rfl) (by kernel_rfl) (by kernel_rfl) (fun _ _ _ h => h) (Or.inl ⟨by rfl, ?_⟩) ?_
            rotate_left
            · (intro w; go_simp) <;> with_reducible rfl
            refine wpAny_take (i := 11) (v := ?_) rfl (by kernel_rfl) (by kernel_rfl) (by kernel_rfl) (fun _ _ _ h => h) (Or.inl ⟨by rfl, ?_⟩) ?_
            rotate_left
            · (intro w; go_simp) <;> with_reducible rfl
            refine wpAny_take (i := 12) (v := ?_) rfl (by kernel_rfl) (by kernel_rfl) (by kernel_rfl) (fun _ _ _ h => h) (Or.inl ⟨by rfl, ?_⟩) ?_
            rotate_left
            · (intro w; go_simp) <;> with_reducible rfl
            refine wpAny_take (i := 14) (v := ?_) rfl (by kernel_rfl) (by kernel_rfl) (by kernel_rfl) (fun _ _ _ h => h) (Or.inl ⟨by rfl, ?_⟩) ?_
            rotate_left
            · (intro w; go_simp) <;> with_reducible rfl
            refine wpAny_ready (rs := [15]) (by kernel_rfl) (by simp) ?_
            refine AllReady.cons rfl (fun K hK => ?_) AllReady.nil
            go_simp
            refine hK _ _ ?_
            clear hK K
            refine wpAny_take (i := 16) (v := ?_) rfl (by kernel_rfl) (by kernel_rfl) (by kernel_rfl) (fun _ _ _ h => h) (Or.inl ⟨by rfl, ?_⟩) ?_
            rotate_left
            · (intro w; go_simp) <;> with_reducible rfl
            refine wpAny_done (by kernel_rfl) ?_ _
            go_wp2_with fail
            go_meet
            go_light
            refine ⟨A13, rfl, rfl, rfl, by simp [go_sem, *], by simp [go_sem, *], by simp [go_sem, *], by simp; omega, ?_⟩
            repeat' (first | with_reducible exact Below.refl _ _ | with_reducible refine Below.drew ?_ | with_reducible refine below_drewN ?_ _ | with_reducible refine Below.alloc ?_ (by first | omega | (simp <;> omega)) _ | with_reducible refine Below.setCell ?_ (by first | omega | (dsimp only; omega) | (simp <;> omega)) _ | with_reducible refine Below.trans ?_ (Below.mono (by assumption) (by first | omega | (simp <;> omega))))
  case rest =>
    obtain ⟨BY, rfl, rfl, rfl, y0, y1, y2, lY, hb7⟩ := hcut
    have hs7 := hb7.size
    have B7 : Below w.heap.size w wc := B4.trans (hb7.mono B4.size)
    clear hb7 qP3 hcv B4 hg4
    have n1 : (S.size : Int) = 3 + (k : Int) + 1 := by omega
    go_wp2
    go_loopw [22] (fun v wr => ∃ i : Nat, v = .int .i64 (i : Int) ∧ i ≤ 3 + k + 1 ∧ Below wc.heap.size wc wr) (fun v _ => 3 + k + 1 - (intOf v).toNat)
    case atStart => exact ⟨0, rfl, by omega, Below.refl _ _⟩
    case round =>
      obtain ⟨i, rfl, hi, hb⟩ := hrel
      have hbs := hb.size
      by_cases hlt : i < 3 + k + 1
      · have i0 : (0 : Int) ≤ (i : Int) := by omega
        have i1 : (i : Int) < 3 + (k : Int) + 1 := by omega
        have i2 : (i : Int) < (S.size : Int) := by omega
        have i3 : i < S.size := by omega
        have hb2 := fun h => HSB.out i h
        go_wp2
        go_roundw
        case rel => exact ⟨i + 1, by go_num, by omega, hb⟩
        case measure => go_light; simp [intOf] <;> omega
      · obtain rfl : i = 3 + k + 1 := by omega
        have jj : ¬ 3 + (k : Int) + 1 < 3 + (k : Int) + 1 := by omega
        have y0 := (hb.cell (p := ⟨BY, 0, none⟩) lY).trans y0
        have y1 := (hb.cell (p := ⟨BY, 1, none⟩) lY).trans y1
        have y2 := (hb.cell (p := ⟨BY, 2, none⟩) lY).trans y2
        have B8 : Below w.heap.size w wr := B7.trans (hb.mono (by have := B7.size; omega))
        have lY2 : BY < wr.heap.size := by omega
        have hB8 := B8.size
        clear hb B7
        go_wp2_with (first | (go_at_call 16; refine (awake_p20 _ (by refine ((show Below w.heap.size w _ by repeat' (first | with_reducible exact Below.refl _ _ | with_reducible refine Below.drew ?_ | with_reducible refine below_drewN ?_ _ | with_reducible refine Below.alloc ?_ (by first | omega | (simp <;> omega)) _ | with_reducible refine Below.setCell ?_ (by first | omega | (dsimp only; omega) | (simp <;> omega)) _ | with_reducible refine Below.trans ?_ (Below.mono (by assumption) (by first | omega | (simp <;> omega))))).cell (p := ⟨0, 0, none⟩) hl0).trans hg)).mono ?_; rintro en wa ⟨rfl, hba⟩; have hsz := hba.size; (try simp at hsz); (first | (have hbl := blater2 HA (by first | exact Nat.le_refl _ | (simp; done) | (simp; omega)) hba; obtain ⟨hcc, hff, HA, hne, hne'⟩ := hbl) | (obtain ⟨hcc, hff, HA, hne, hne'⟩ := blater1 hba)); (try simp only [World.size_alloc, World.size_setCell] at HA)) | (go_at_call 20; refine (first_s20 _).mono ?_; rintro en wg ⟨rfl, hbg⟩; have hsg := hbg.size; have g0 : wg.cell? ⟨BY, 0, none⟩ = some (.int .i64 (1)) := (hbg.cell (p := ⟨BY, 0, none⟩) (by dsimp only; omega)).trans y0; have g1 : wg.cell? ⟨BY, 1, none⟩ = some (.int .i64 (1)) := (hbg.cell (p := ⟨BY, 1, none⟩) (by dsimp only; omega)).trans y1; have g2 : wg.cell? ⟨BY, 2, none⟩ = some (.int .i64 (4)) := (hbg.cell (p := ⟨BY, 2, none⟩) (by dsimp only; omega)).trans y2) | (go_at_call 22; refine (qN _).mono ?_; rintro en wn ⟨rfl, hbn⟩; have hsn := hbn.size; have n0 : wn.cell? ⟨BY, 0, none⟩ = some (.int .i64 (1)) := (hbn.cell (p := ⟨BY, 0, none⟩) (by dsimp only; omega)).trans g0; have n1 : wn.cell? ⟨BY, 1, none⟩ = some (.int .i64 (1)) := (hbn.cell (p := ⟨BY, 1, none⟩) (by dsimp only; omega)).trans g1; have n2 : wn.cell? ⟨BY, 2, none⟩ = some (.int .i64 (4)) := (hbn.cell (p := ⟨BY, 2, none⟩) (by dsimp only; omega)).trans g2; have eN : BY < wn.heap.size := (by omega); have eN2 : ¬ BY = wn.heap.size := (by omega)))
        go_light
        refine bodyPost_ret (v := .bool true) (by simp [results, Tryd.results4, go_sem, *]) rfl ⟨rfl, ?_⟩
        repeat' (first | with_reducible exact Below.refl _ _ | with_reducible refine Below.drew ?_ | with_reducible refine below_drewN ?_ _ | with_reducible refine Below.alloc ?_ (by first | omega | (simp <;> omega)) _ | with_reducible refine Below.setCell ?_ (by first | omega | (dsimp only; omega) | (simp <;> omega)) _ | with_reducible refine Below.trans ?_ (Below.mono (by assumption) (by first | omega | (simp <;> omega))))

set_option maxRecDepth 100000 in
set_option maxHeartbeats 8000000 in
theorem seqMore_t (pq : Option Addr) (qs : List (Int × Int × Int)) (cq : Nat) (lits before more : ByteArray) (b : UInt8) (n : Int) (w : World) (hq : RowQ w pq qs) (hm : qs.length ≤ 9223372036854775807) (hl : lits.size ≤ 9223372036854775807) (hbf : before.size ≤ 9223372036854775807) (hmo : more.size ≤ 9223372036854775807) (hg : w.cell? ⟨0, 0, none⟩ = some (.iface 165 (.agg #[.pointer (some ⟨9, 74, none⟩)]))) :
    Calls Tryd.prog 4 #[.slice pq qs.length cq, .string lits, .string before, .string more, .int .u8 (b.toNat : Int), .int .i64 n] w fun e w' => e = .returned (.bool true) ∧ Below w.heap.size w w' := by
  by_cases hv : lightB qs = true ∧ ¬ 300 < lits.size ∧ ¬ 300 < before.size ∧ ¬ 100 < more.size
  · exact seqMore_1 pq qs cq lits before more b n w hq hm hl hbf hmo hg hv.1 hv.2.1 hv.2.2.1 hv.2.2.2
  · have hl0 : 0 < w.heap.size := World.block_lt_of_cell? w ⟨0, 0, none⟩ hg
    have qL := fun w h => light_p pq qs cq w h hm
    have hv3 : (lightB qs = false) ∨ (lightB qs = true ∧ decide ((300 : Int) < (lits.size : Int)) = true) ∨ (lightB qs = true ∧ decide ((300 : Int) < (lits.size : Int)) = false ∧ decide ((300 : Int) < (before.size : Int)) = true) ∨ (lightB qs = true ∧ decide ((300 : Int) < (lits.size : Int)) = false ∧ decide ((300 : Int) < (before.size : Int)) = false ∧ decide ((100 : Int) < (more.size : Int)) = true) := by
      cases hb : lightB qs with
      | false => exact .inl rfl
      | true =>
        by_cases h1 : 300 < lits.size
        · exact .inr (.inl ⟨rfl, by simp; omega⟩)
        · by_cases h2 : 300 < before.size
          · exact .inr (.inr (.inl ⟨rfl, by simp; omega, by simp; omega⟩))
          · refine .inr (.inr (.inr ⟨rfl, by simp; omega, by simp; omega, ?_⟩))
            have : 100 < more.size := Classical.byContradiction fun h => hv ⟨hb, h1, h2, h⟩
            simp; omega
    clear hv
    rcases hv3 with e0 | ⟨e0, e1⟩ | ⟨e0, e1, e2⟩ | ⟨e0, e1, e2, e3⟩
    all_goals
      rw [e0] at qL
      go_enter Tryd.func4, Tryd.ntmps4
      go_wp2_with (first | (go_at_call 16; refine (awake_p20 _ (by refine ((show Below w.heap.size w _ by repeat' (first | with_reducible exact Below.refl _ _ | with_reducible refine Below.drew ?_ | with_reducible refine below_drewN ?_ _ | with_reducible refine Below.alloc ?_ (by first | omega | (simp <;> omega)) _ | with_reducible refine Below.setCell ?_ (by first | omega | (dsimp only; omega) | (simp <;> omega)) _ | with_reducible refine Below.trans ?_ (Below.mono (by assumption) (by first | omega | (simp <;> omega))))).cell (p := ⟨0, 0, none⟩) hl0).trans hg)).mono ?_; rintro en wa ⟨rfl, hba⟩; have hsz := hba.size; (try simp at hsz); (first | (have hbl := blater2 HA (by first | exact Nat.le_refl _ | (simp; done) | (simp; omega)) hba; obtain ⟨hcc, hff, HA, hne, hne'⟩ := hbl) | (obtain ⟨hcc, hff, HA, hne, hne'⟩ := blater1 hba)); (try simp only [World.size_alloc, World.size_setCell] at HA)) | (go_at_call 15; refine (qL _ (hq.later (by repeat' (first | with_reducible exact Below.refl _ _ | with_reducible refine Below.drew ?_ | with_reducible refine below_drewN ?_ _ | with_reducible refine Below.alloc ?_ (by first | omega | (simp <;> omega)) _ | with_reducible refine Below.setCell ?_ (by first | omega | (dsimp only; omega) | (simp <;> omega)) _ | with_reducible refine Below.trans ?_ (Below.mono (by assumption) (by first | omega | (simp <;> omega))))))).mono ?_; rintro en wl ⟨rfl, hbl⟩; have hsl := hbl.size))
      go_light
      refine bodyPost_ret (v := .bool true) (by simp [results, Tryd.results4, go_sem, *]) rfl ⟨rfl, ?_⟩
      repeat' (first | with_reducible exact Below.refl _ _ | with_reducible refine Below.drew ?_ | with_reducible refine below_drewN ?_ _ | with_reducible refine Below.alloc ?_ (by first | omega | (simp <;> omega)) _ | with_reducible refine Below.setCell ?_ (by first | omega | (dsimp only; omega) | (simp <;> omega)) _ | with_reducible refine Below.trans ?_ (Below.mono (by assumption) (by first | omega | (simp <;> omega))))
end Go.Proofs.YtmblpmaelglnpaaDoor
